import Derived.Test.YtggflhbigolakaaGreatDoorAH
set_option linter.unusedVariables false
set_option linter.unusedSimpArgs false
namespace Go.Proofs.YtggflhbigolakaaGreatDoor
open Go.AM
attribute [local irreducible] AWp aY bC bI bU bW aN aS bL
def cI (n:Int):Prop:= -9223372036854775808≤n∧n≤9223372036854775807
def jJ (n m:Int):Int:=(if n<0 then -(n+1) else n).tmod m
theorem qU (n m:Int) (hn:cI n) (hm:m≠0):Pure Tryz.prog G0 19 [.int .i64 n,.int .i64 m] (.int .i64 (jJ n m)):=by
 obtain ⟨h1,h2⟩:=hn
 refine aQ hG0 Tryz.func19 rfl (by kernel_rfl) (by simp [Tryz.ntmps19]) (by simp [inL,inR]) (by simp [inR]) ?_
 simp only [Tryz.ntmps19,aH,Nat.reduceAdd]
 repeat' (first|(refine u'S ?_;simp only [wS,simprocAttr])|refine u'Q fun _ _=>?_|refine aV ?_|refine aR (fun hg=>?_) fun hg=>?_|fail)
 refine ⟨fun h=>?_,fun h=>?_⟩
 ·simp at h
  have e1:IntKind.i64.wrap (n+1)=n+1:=cB (by omega) (by omega)
  have e2:IntKind.i64.wrap (0 - (n+1))= -(n+1):=by rw [cB (by omega) (by omega)];omega
  repeat' (first|(refine u'S ?_;simp only [wS,simprocAttr,e1,e2,hm])|refine u'Q fun _ _=>?_|refine aV ?_|refine aR (fun hg=>?_) fun hg=>?_|fail)
  refine aB rfl ?_
  simp only [amS,if_true,if_false]
  rw [jJ,if_pos h]
 ·simp at h
  repeat' (first|(refine u'S ?_;simp only [wS,simprocAttr,hm])|refine u'Q fun _ _=>?_|refine aV ?_|refine aR (fun hg=>?_) fun hg=>?_|fail)
  refine aB rfl ?_
  simp only [amS,if_true,if_false]
  rw [jJ,if_neg (by omega)]
theorem nW (n m:Int) (hm:0<m):0≤jJ n m∧jJ n m<m:=by
 unfold jJ
 split
 ·exact ⟨Int.tmod_nonneg _ (by omega),Int.tmod_lt_of_pos _ hm⟩
 ·exact ⟨Int.tmod_nonneg _ (by omega),Int.tmod_lt_of_pos _ hm⟩
def b9 (l:List Int):AV:=.sl false (l.map fun n=>[.int .i64 n])
theorem aW:∀ (l:List Int),inE aC (l.map fun n=>[AV.int .i64 n])=true
 | []=>by simp [inE]
 |x::l=>by simp [inE,inL,inR,aW l]
theorem eW (l:List Int):inR aC (b9 l)=true:=by simp only [b9,inR];exact aW l
def atS (l:List Int) (i m:Int):Int:=if 0≤i then (match l[i.toNat]? with|some x=>jJ x m|none=>0) else 0
theorem HO (l:List Int) (i m:Int) (hm:0<m):0≤atS l i m∧atS l i m<m:=by
 unfold atS
 split
 ·split
  ·exact nW _ _ hm
  ·omega
 ·omega
theorem rP (l:List Int) (i m:Int) (hl:∀ x∈l,cI x) (hm:m≠0):Pure Tryz.prog G0 70 [b9 l,.int .i64 i,.int .i64 m] (.int .i64 (atS l i m)):=by
 refine aQ hG0 Tryz.func70 rfl (by kernel_rfl) (by simp [Tryz.ntmps70]) (by simp [inL,inR,eW]) (by simp [inR]) ?_
 simp only [Tryz.ntmps70,aH,Nat.reduceAdd,b9]
 repeat' (first|(refine u'S ?_;simp only [wS,simprocAttr])|refine u'Q fun _ _=>?_|refine aV ?_|refine aR (fun hg=>?_) fun hg=>?_|fail)
 ·simp at hg
  refine aB rfl ?_
  simp only [amS,if_true,if_false]
  rw [atS,if_neg (by omega)]
 ·simp at hg
  refine ⟨fun h=>?_,fun h=>?_⟩
  ·simp at h
   repeat' (first|(refine u'S ?_;simp only [wS,simprocAttr])|refine u'Q fun _ _=>?_|refine aV ?_|refine aR (fun hg=>?_) fun hg=>?_|fail)
   refine aB rfl ?_
   simp only [amS,if_true,if_false]
   rw [atS,if_pos hg,List.getElem?_eq_none (by omega)]
  ·simp at h
   obtain ⟨k,rfl⟩:∃ k:Nat,i=k:=⟨i.toNat,(Int.toNat_of_nonneg hg).symm⟩
   have hlt:k<l.length:=by omega
   obtain ⟨x,hx⟩:∃ v,l[k]? =some v:=⟨_,List.getElem?_eq_getElem hlt⟩
   repeat' (first|(refine u'S ?_;simp only [wS,simprocAttr,hx])|refine u'Q fun _ _=>?_|refine aV ?_|refine aR (fun hg=>?_) fun hg=>?_|fail)
   refine bH hG0 (qU x m (hl x (List.mem_of_getElem? hx)) hm) ?_
   simp only [wS,simprocAttr]
   repeat' (first|(refine u'S ?_;simp only [wS,simprocAttr])|refine u'Q fun _ _=>?_|refine aV ?_|refine aR (fun hg=>?_) fun hg=>?_|fail)
   refine aB rfl ?_
   simp only [amS,if_true,if_false]
   rw [atS,if_pos hg,Int.toNat_natCast,hx]
end Go.Proofs.YtggflhbigolakaaGreatDoor
