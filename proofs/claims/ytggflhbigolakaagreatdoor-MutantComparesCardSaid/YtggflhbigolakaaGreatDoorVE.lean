import Derived.Test.YtggflhbigolakaaGreatDoorVD
set_option linter.unusedVariables false
set_option linter.unusedSimpArgs false
namespace Go.Proofs.YtggflhbigolakaaGreatDoor
open Go.AM
attribute [local irreducible] AWp aY bC bI bU bW aN aS bL
set_option maxRecDepth 100000
def opE (nm:ByteArray) (f p:T) (b:Int):List AV:=.str nm::(T.enc f++(T.enc p++[.int .i64 b]))
def knR (kn:List Bool):ARow:=.cells 0 (kn.map .bool)
def okR (ok:Bool):ARow:=.cells 0 [.bool ok]
def ckR:ARow:=.cells 0 [.fn (.func 92) [] [.ptr 2 0 0,.ptr 1 0 0]]
theorem gI (nm:ByteArray) (f p:T) (b:Int):inL aC (opE nm f p b)=true:=by
 cases f;cases p
 simp only [opE,T.enc,List.cons_append,List.nil_append,inL,inR,T.encs_tree,Bool.and_self]
theorem KW (p:Nat→Bool) (kn:List Bool):aG p (knR kn)=true:=by
 simp only [knR,aG]
 induction kn with
 |nil=>rfl
 |cons b kn ih=>simp only [List.map_cons,inL,inR,ih,Bool.and_self]
def wT:Nat→Bool:=fun r=>([0,1,2,3]:List Nat).contains r
structure VR (OC:List AV) (rows:Nat→ARow) (s:Bool × List Bool):Prop where
 r0:rows 0=.cells 0 OC
 r1:rows 1=knR s.2
 r2:rows 2=okR s.1
 r3:rows 3=ckR
theorem VR.get {OC:List AV} {rows:Nat→ARow} {s:Bool × List Bool} (h:VR OC rows s):∀ r∈([0,1,2,3]:List Nat),[ARow.cells 0 OC,knR s.2,okR s.1,ckR].getD r .none=rows r:=by
 intro r hr
 simp only [List.mem_cons,List.not_mem_nil,or_false] at hr
 rcases hr with rfl|rfl|rfl|rfl
 ·exact h.r0.symm
 ·exact h.r1.symm
 ·exact h.r2.symm
 ·exact h.r3.symm
theorem VR.ins {OC:List AV} {rows:Nat→ARow} {s:Bool × List Bool} (ho:inL aC OC=true) (h:VR OC rows s):∀ r∈([0,1,2,3]:List Nat),aG wT (rows r)=true:=by
 intro r hr
 simp only [List.mem_cons,List.not_mem_nil,or_false] at hr
 rcases hr with rfl|rfl|rfl|rfl
 ·rw [h.r0];exact aD ho
 ·rw [h.r1];exact KW _ _
 ·rw [h.r2];rfl
 ·rw [h.r3];rfl
def VC (OC:List AV) (f:FuncId) (args:List AV) (s s':Bool × List Bool):Prop:=∀ rows,VR OC rows s→dH Tryz.prog G0 f args rows [0,1,2,3] ⟨.tup [],[(1,knR s'.2),(2,okR s'.1)]⟩
theorem B0 {m:Nat} (hm:4≤m):∀ r,wT r=true→decide (r<m)=true:=fun r h=>by simp [wT] at h ⊢;omega
theorem j9 {OC:List AV} {f:FuncId} {fn:Func} {c:Code} {args:List AV} {s s':Bool × List Bool} (ho:inL aC OC=true) (hf:Tryz.prog.funcs[f]? =some fn) (hb:fn.body=some c) (hgo:eP Tryz.prog f=true) (hn:args.length≤fn.ntmps) (hargs:inL wT args=true)
  (hbody:AWp Tryz.prog G0 fn.ntmps 4 c (dR Tryz.prog fn fun v t=>v=.tup []∧VR OC t.row s') ⟨mkF (aH 0 args),[.cells 0 OC,knR s.2,okR s.1,ckR]⟩):VC OC f args s s':=by
 intro rows h
 refine cD [.cells 0 OC,knR s.2,okR s.1,ckR] hG0 hf hb hgo hn h.get ?_ (cC (B0 (by simp)) hargs) (fun r hr=>cY (B0 (by simp)) (h.ins ho r hr)) ?_ ?_ ?_
 ·intro r hr
  match r,hr with
  |0,hr=>exact absurd (by simp) hr
  |1,hr=>exact absurd (by simp) hr
  |2,hr=>exact absurd (by simp) hr
  |3,hr=>exact absurd (by simp) hr
  |r+4,_=>simp
 ·intro r hr h2
  simp only [List.mem_cons,List.not_mem_nil,or_false] at hr
  simp only [List.length_cons,List.length_nil] at h2
  omega
 ·intro p hp
  simp at hp
  rcases hp with rfl|rfl<;>simp
 ·refine iR hbody (nJ fun v t=>?_)
  rintro ⟨rfl,g⟩
  refine ⟨.inl rfl,rfl,fun r hr=>⟨?_,g.ins ho r hr⟩⟩
  simp only [List.mem_cons,List.not_mem_nil,or_false] at hr
  rcases hr with rfl|rfl|rfl|rfl
  ·rw [g.r0];simp [upd,h.r0]
  ·rw [g.r1];simp [upd]
  ·rw [g.r2];simp [upd]
  ·rw [g.r3];simp [upd,h.r3]
theorem Q8 {kn:List Bool} {i:Nat} (h:i<kn.length):(kn.map AV.bool).drop i=.bool (kn.getD i false)::(kn.map AV.bool).drop (i+1):=by
 rw [List.drop_eq_getElem_cons (by simpa using h)]
 simp [List.getD_eq_getElem?_getD,List.getElem?_eq_getElem h]
theorem Q7 {kn:List Bool} {i:Nat} (h:i<kn.length):List.take i (kn.map AV.bool)++[.bool true]++List.drop (i+1) (kn.map AV.bool)=(kn.set i true).map AV.bool:=by
 rw [List.map_set,List.set_eq_take_append_cons_drop,if_pos (by simpa using h)]
 simp
set_option maxHeartbeats 8000000 in
theorem OS {OC:List AV} (ho:inL aC OC=true) (free put:Bool) (t:T) (s:Bool × List Bool) (hl:s.2.length=8):VC OC 92 [.agg (T.enc t),.bool free,.bool put,.ptr 2 0 0,.ptr 1 0 0] s (T.chk free put t.kind t.num t.low t.kids s):=by
 have htr:=T.enc_tree t
 obtain ⟨k,n,m,es⟩:=t
 obtain ⟨ok,kn⟩:=s
 simp only at hl
 refine j9 ho Tryz.func92 rfl (by kernel_rfl) (by simp [Tryz.ntmps92]) (by simp only [inL,inR,aD htr,Bool.and_self];rfl) ?_
 simp only [Tryz.ntmps92,aH,Nat.reduceAdd,T.enc,T.kind,T.num,T.low,T.kids,knR,okR]
 have hln:=T.encs_len es
 have hE:(es=[])↔(T.encs es).length=0:=by rw [hln,List.length_eq_zero_iff]
 generalize T.encs es=EE at hln hE
 rw [hln] at hE
 have b1:(!true)=false:=rfl
 have b2:(!false)=true:=rfl
 have fin:∀ (s:AS) (ok':Bool) (kn':List Bool),s.row 0=.cells 0 OC→s.row 1=.cells 0 (kn'.map .bool)→s.row 2=.cells 0 [.bool ok']→s.row 3=ckR→dR Tryz.prog Tryz.f92 (fun v t=>v=.tup []∧VR OC t.row (ok',kn')) .ret s:=fun s ok' kn' h0 h1 h2 h3=>IM rfl ⟨rfl,⟨h0,h1,h2,h3⟩⟩
 have fin2:∀ (s:AS) (ok':Bool) (kn':List Bool),s.row 0=.cells 0 OC→s.row 1=.cells 0 (kn'.map .bool)→s.row 2=.cells 0 [.bool ok']→s.row 3=ckR→dR Tryz.prog Tryz.f92 (fun v t=>v=.tup []∧VR OC t.row (ok',kn')) .normal s:=fun s ok' kn' h0 h1 h2 h3=>j1 rfl ⟨rfl,⟨h0,h1,h2,h3⟩⟩
 by_cases hk:k=28
 ·subst hk
  have e28:((28:Int)==28)=true:=rfl
  by_cases hg:(ok&&(free || !decide (n= -100)))=true
  ·rw [Bool.and_eq_true] at hg
   obtain ⟨rfl,hf⟩:=hg
   rw [T.chk_hole hf]
   have hf':free=true∨(n != -100)=true:=by
    rw [Bool.or_eq_true] at hf
    rcases hf with h|h
    ·exact .inl h
    ·exact .inr (by simpa using h)
   by_cases hh:0≤n∧n≤7∧m=0∧es=[]
   ·rw [if_pos hh]
    obtain ⟨h0,h1,rfl,hes⟩:=hh
    have d1:decide (n ≥ 0)=true:=decide_eq_true h0
    have d2:decide (n≤7)=true:=decide_eq_true h1
    have d4:(((EE.length:Nat):Int)==0)=true:=by rw [hln,hE.1 hes];rfl
    obtain ⟨i,rfl⟩:∃ i:Nat,n=i:=⟨n.toNat,(Int.toNat_of_nonneg h0).symm⟩
    have hi:i<kn.length:=by omega
    have hi8:i<8:=by omega
    have hkg:=Q8 hi
    have hs:=Q7 hi
    have m0:((0:Int)==0)=true:=rfl
    have hml:(kn.map AV.bool).length=8:=by simpa using hl
    have hle:i+1≤8:=by omega
    have hn:True:=trivial
    rcases hf' with rfl|hn<;>cases put
    all_goals
     repeat' (first|(refine u'S ?_;simp only [wS,simprocAttr,e28,b1,b2,d1,d2,d4,m0,hi8,hi,hkg,hs,hml,hle,Nat.mul_one,Nat.add_zero,Int.toNat_natCast,hn])|refine u'Q fun _ _=>?_|refine aO ?_|refine aP (fun hg=>?_) fun hg=>?_|fail)
    all_goals (first|refine fin _ _ _ ?_ ?_ ?_ ?_|refine fin2 _ _ _ ?_ ?_ ?_ ?_)<;>(simp only [wS,simprocAttr,Int.toNat_natCast,hs];try exact rfl)
   ·rw [if_neg hh]
    have hn:True:=trivial
    have d2:True:=trivial
    have d3:True:=trivial
    have d4:True:=trivial
    have hs:True:=trivial
    have hc:n<0∨(0≤n∧7<n)∨(0≤n∧n≤7∧m≠0)∨(0≤n∧n≤7∧m=0∧es≠[]):=by
     by_cases h0:0≤n
     ·by_cases h1:n≤7
      ·by_cases h2:m=0
       ·exact .inr (.inr (.inr ⟨h0,h1,h2,fun h=>hh ⟨h0,h1,h2,h⟩⟩))
       ·exact .inr (.inr (.inl ⟨h0,h1,h2⟩))
      ·exact .inr (.inl ⟨h0,by omega⟩)
     ·exact .inl (by omega)
    rcases hc with h0|⟨h0,h1⟩|⟨h0,h1,h2⟩|⟨h0,h1,h2,h3⟩
    ·have d1:decide (n ≥ 0)=false:=decide_eq_false (by omega)
     rcases hf' with rfl|hn
     all_goals
      repeat' (first|(refine u'S ?_;simp only [wS,simprocAttr,e28,b1,b2,d1,d2,d3,d4,hn])|refine u'Q fun _ _=>?_|refine aO ?_|refine aP (fun hg=>?_) fun hg=>?_|fail)
     all_goals (first|refine fin _ _ _ ?_ ?_ ?_ ?_|refine fin2 _ _ _ ?_ ?_ ?_ ?_)<;>(simp only [wS,simprocAttr,Int.toNat_natCast,hs];try exact rfl)
    ·have d1:decide (n ≥ 0)=true:=decide_eq_true h0
     have d2:decide (n≤7)=false:=decide_eq_false (by omega)
     rcases hf' with rfl|hn
     all_goals
      repeat' (first|(refine u'S ?_;simp only [wS,simprocAttr,e28,b1,b2,d1,d2,d3,d4,hn])|refine u'Q fun _ _=>?_|refine aO ?_|refine aP (fun hg=>?_) fun hg=>?_|fail)
     all_goals (first|refine fin _ _ _ ?_ ?_ ?_ ?_|refine fin2 _ _ _ ?_ ?_ ?_ ?_)<;>(simp only [wS,simprocAttr,Int.toNat_natCast,hs];try exact rfl)
    ·have d1:decide (n ≥ 0)=true:=decide_eq_true h0
     have d2:decide (n≤7)=true:=decide_eq_true h1
     have d3:(m==0)=false:=by simp [h2]
     rcases hf' with rfl|hn
     all_goals
      repeat' (first|(refine u'S ?_;simp only [wS,simprocAttr,e28,b1,b2,d1,d2,d3,d4,hn])|refine u'Q fun _ _=>?_|refine aO ?_|refine aP (fun hg=>?_) fun hg=>?_|fail)
     all_goals (first|refine fin _ _ _ ?_ ?_ ?_ ?_|refine fin2 _ _ _ ?_ ?_ ?_ ?_)<;>(simp only [wS,simprocAttr,Int.toNat_natCast,hs];try exact rfl)
    ·have d1:decide (n ≥ 0)=true:=decide_eq_true h0
     have d2:decide (n≤7)=true:=decide_eq_true h1
     have d3:(m==0)=true:=by simp [h2]
     have d4:(((EE.length:Nat):Int)==0)=false:=by
      have:es.length≠0:=fun h=>h3 (hE.2 h)
      exact beq_false_of_ne (by omega)
     rcases hf' with rfl|hn
     all_goals
      repeat' (first|(refine u'S ?_;simp only [wS,simprocAttr,e28,b1,b2,d1,d2,d3,d4,hn])|refine u'Q fun _ _=>?_|refine aO ?_|refine aP (fun hg=>?_) fun hg=>?_|fail)
     all_goals (first|refine fin _ _ _ ?_ ?_ ?_ ?_|refine fin2 _ _ _ ?_ ?_ ?_ ?_)<;>(simp only [wS,simprocAttr,Int.toNat_natCast,hs];try exact rfl)
  ·have hc:T.chk free put 28 n m es (ok,kn)=(false,kn):=by
    have hg':(ok&&(decide ((0:Int)≤28∧(28:Int)≤28)&&(free || !decide (n= -100))))=false:=by
     rw [show decide ((0:Int)≤28∧(28:Int)≤28)=true from rfl,Bool.true_and]
     simpa using hg
    rw [T.chk,if_neg (fun h=>by rw [hg'] at h;cases h.2),hg']
   rw [hc]
   have hn:True:=trivial
   have hs:True:=trivial
   cases ok with
   |false=>
    repeat' (first|(refine u'S ?_;simp only [wS,simprocAttr,e28,b1,b2,hn])|refine u'Q fun _ _=>?_|refine aO ?_|refine aP (fun hg=>?_) fun hg=>?_|fail)
    all_goals (first|refine fin _ _ _ ?_ ?_ ?_ ?_|refine fin2 _ _ _ ?_ ?_ ?_ ?_)<;>(simp only [wS,simprocAttr,Int.toNat_natCast,hs];try exact rfl)
   |true=>
    have hfr:free=false:=by cases free<;>simp at hg ⊢
    subst hfr
    have hn:(n != -100)=false:=by simpa using hg
    repeat' (first|(refine u'S ?_;simp only [wS,simprocAttr,e28,b1,b2,hn])|refine u'Q fun _ _=>?_|refine aO ?_|refine aP (fun hg=>?_) fun hg=>?_|fail)
    all_goals (first|refine fin _ _ _ ?_ ?_ ?_ ?_|refine fin2 _ _ _ ?_ ?_ ?_ ?_)<;>(simp only [wS,simprocAttr,Int.toNat_natCast,hs];try exact rfl)
 ·have e28:(k==28)=false:=by simp [hk]
  have hc:T.chk free put k n m es (ok,kn)=(ok&&(decide (0≤k∧k≤28)&&(free || !decide (n= -100))),kn):=by rw [T.chk,if_neg fun h=>hk h.1]
  rw [hc]
  obtain ⟨x,hx⟩:∃ x,x=(ok&&(decide (0≤k∧k≤28)&&(free || !decide (n= -100)))):=⟨_,rfl⟩
  rw [← hx]
  have hs:True:=trivial
  have fin3:∀ y,y=x→ARow.cells 0 [.bool y]=.cells 0 [.bool x]:=fun y h=>by rw [h]
  repeat' (first|(refine u'S ?_;simp only [wS,simprocAttr,e28,b1,b2,hs])|refine u'Q fun _ _=>?_|refine aO ?_|refine aP (fun hg=>?_) fun hg=>?_|fail)
  all_goals (first|refine fin _ _ _ ?_ ?_ ?_ ?_|refine fin2 _ _ _ ?_ ?_ ?_ ?_)<;>(simp only [wS,simprocAttr]<;>first|exact rfl|(refine fin3 _ ?_;rw [hx];by_cases hnn:n= -100<;>first|(simp_all;done)|(simp_all<;>omega)))
theorem mR {n:Nat} {d:Option Tmp} {rest:List POp} {m:Option Acc} {s:AS} {K:Option Acc→AS→Prop} {OC:List AV} {f:FuncId} {args:List AV} {q q':Bool × List Bool} (h:VC OC f args q q') (hr:VR OC s.row q)
  (hk:aY Tryz.prog G0 n K rest (adv m [0,1,2,3] [1,2]) ((s.wr [(1,knR q'.2),(2,okR q'.1)]).put d (.tup []))):bC Tryz.prog G0 n K d rest m s f args:=by
 unfold bC
 exact ⟨_,_,h s.row hr,hk⟩
theorem T.chk_len {free put:Bool} {k n m:Int} {es:List T} {s:Bool × List Bool} (h:s.2.length=8):(T.chk free put k n m es s).2.length=8:=by
 unfold T.chk
 split
 ·split
  ·simpa using h
  ·exact h
 ·exact h
mutual
theorem T.vis_len (fr:Bool→Bool) (put root:Bool):∀ (t:T) (s:Bool × List Bool),s.2.length=8→(T.vis fr put root t s).2.length=8
 | .mk k n m es,s,h=>by rw [T.vis];exact T.viss_len fr put es _ (T.chk_len h)
theorem T.viss_len (fr:Bool→Bool) (put:Bool):∀ (es:List T) (s:Bool × List Bool),s.2.length=8→(T.viss fr put es s).2.length=8
 | [],s,h=>h
 |e::es,s,h=>by rw [T.viss];exact T.viss_len fr put es _ (T.vis_len fr put false e s h)
end
theorem T.viss_take {fr:Bool→Bool} {put:Bool} {e:T}:∀ {es:List T} {i:Nat} {s:Bool × List Bool},es[i]? =some e→T.viss fr put (es.take (i+1)) s=T.vis fr put false e (T.viss fr put (es.take i) s)
 | [],_,_,h=>by simp at h
 |x::es,0,s,h=>by
  obtain rfl:x=e:=by simpa using h
  simp [T.viss]
 |x::es,i+1,s,h=>by
  have:=T.viss_take (fr:=fr) (put:=put) (e:=e) (es:=es) (i:=i) (s:=T.vis fr put false x s) (by simpa using h)
  simp only [List.take_succ_cons,T.viss,this]
theorem QD {OC:List AV} (ho:inL aC OC=true) (t:T) (root:Bool) (s:Bool × List Bool) (hl:s.2.length=8):VC OC 94 [.agg (T.enc t),.bool root,.ptr 3 0 0] s (T.chk root false t.kind t.num t.low t.kids s):=by
 have hc:=OS ho root false t s hl
 have htr:=T.enc_tree t
 obtain ⟨a,b,c,e,hte⟩:=aI t
 rw [hte] at htr hc ⊢
 have hin:inE aC e=true:=by simpa only [inL,inR,Bool.true_and,Bool.and_true] using htr
 generalize T.chk root false t.kind t.num t.low t.kids s=s' at hc
 refine j9 ho Tryz.func94 rfl (by kernel_rfl) (by simp [Tryz.ntmps94]) (by simp only [inL,inR,aA hin,Bool.and_self];rfl) ?_
 simp only [Tryz.ntmps94,aH,Nat.reduceAdd]
 repeat' (first|(refine u'S ?_;simp only [wS,simprocAttr,ckR])|refine u'Q fun _ _=>?_|refine aV ?_|refine aR (fun hg=>?_) fun hg=>?_|fail)
 refine mR hc ⟨by simp only [wS,simprocAttr];try exact rfl,by simp only [wS,simprocAttr];try exact rfl,by simp only [wS,simprocAttr];try exact rfl,by simp only [wS,simprocAttr];try exact rfl⟩ ?_
 simp only [wS,simprocAttr]
 repeat' (first|(refine u'S ?_;simp only [wS,simprocAttr])|refine u'Q fun _ _=>?_|refine aV ?_|refine aR (fun hg=>?_) fun hg=>?_|fail)
 refine j1 rfl ⟨rfl,⟨by simp only [wS,simprocAttr];try exact rfl,by simp only [wS,simprocAttr];try exact rfl,by simp only [wS,simprocAttr];try exact rfl,by simp only [wS,simprocAttr];try exact rfl⟩⟩
theorem RM {nm:ByteArray} {f p:T} {b:Int} (t:T) (root:Bool) (s:Bool × List Bool) (hl:s.2.length=8):VC (opE nm f p b) 95 [.agg (T.enc t),.bool root,.ptr 3 0 0,.ptr 0 0 0] s (T.chk (decide (f.num= -100)) true t.kind t.num t.low t.kids s):=by
 have ho:=gI nm f p b
 have hc:=OS ho (decide (f.num= -100)) true t s hl
 have hf:(f.num== -100)=decide (f.num= -100):=by by_cases h:f.num= -100<;>simp [h]
 have htr:=T.enc_tree t
 obtain ⟨a,b',c,e,hte⟩:=aI t
 obtain ⟨fk,fn,fm,fs⟩:=f
 obtain ⟨pk,pn,pm,ps⟩:=p
 simp only [T.num] at hf hc
 rw [hte] at htr hc ⊢
 have hin:inE aC e=true:=by simpa only [inL,inR,Bool.true_and,Bool.and_true] using htr
 generalize T.chk (decide (fn= -100)) true t.kind t.num t.low t.kids s=s' at hc ⊢
 refine j9 ho Tryz.func95 rfl (by kernel_rfl) (by simp [Tryz.ntmps95]) (by simp only [inL,inR,aA hin,Bool.and_self];rfl) ?_
 simp only [Tryz.ntmps95,aH,Nat.reduceAdd]
 repeat' (first|(refine u'S ?_;simp only [wS,simprocAttr,ckR,opE,T.enc,List.cons_append,List.nil_append,hf])|refine u'Q fun _ _=>?_|refine aV ?_|refine aR (fun hg=>?_) fun hg=>?_|fail)
 refine mR hc ⟨by simp only [wS,simprocAttr];try exact rfl,by simp only [wS,simprocAttr];try exact rfl,by simp only [wS,simprocAttr];try exact rfl,by simp only [wS,simprocAttr];try exact rfl⟩ ?_
 simp only [wS,simprocAttr]
 repeat' (first|(refine u'S ?_;simp only [wS,simprocAttr])|refine u'Q fun _ _=>?_|refine aV ?_|refine aR (fun hg=>?_) fun hg=>?_|fail)
 refine j1 rfl ⟨rfl,⟨by simp only [wS,simprocAttr];try exact rfl,by simp only [wS,simprocAttr];try exact rfl,by simp only [wS,simprocAttr];try exact rfl,by simp only [wS,simprocAttr];try exact rfl⟩⟩
def LZ:ARow:=.cells 0 [.fn (.func 121) [] [.ptr 5 0 0,.ptr 6 0 0]]
def six:Nat→Bool:=fun r=>([0,1,2,3,5,6]:List Nat).contains r
structure V6 (OC:List AV) (fc:FuncId) (caps:List AV) (rows:Nat→ARow) (s:Bool × List Bool):Prop where
 v:VR OC rows s
 r5:rows 5=.cells 0 [.fn (.func fc) [] caps]
 r6:rows 6=LZ
theorem JM {m:Nat} (hm:7≤m):∀ r,six r=true→decide (r<m)=true:=fun r h=>by simp [six] at h ⊢;omega
theorem V6.ins {OC:List AV} {fc:FuncId} {caps:List AV} {rows:Nat→ARow} {s:Bool × List Bool} (ho:inL aC OC=true) (hc:inL wT caps=true) (h:V6 OC fc caps rows s):∀ r∈([0,1,2,3,5,6]:List Nat),aG six (rows r)=true:=by
 have h46:∀ r,wT r=true→six r=true:=fun r h=>by simp [wT] at h;simp [six];omega
 intro r hr
 simp only [List.mem_cons,List.not_mem_nil,or_false] at hr
 rcases hr with rfl|rfl|rfl|rfl|rfl|rfl
 ·rw [h.v.r0];exact aD ho
 ·rw [h.v.r1];exact KW _ _
 ·rw [h.v.r2];rfl
 ·rw [h.v.r3];rfl
 ·rw [h.r5];simp only [aG,inL,inR,Bool.and_true,Bool.true_and];exact cC h46 hc
 ·rw [h.r6];rfl
theorem FA {OC:List AV} {fc:FuncId} {caps:List AV} {f:FuncId} {fn:Func} {c:Code} {args:List AV} {s s':Bool × List Bool} (ho:inL aC OC=true) (hc:inL wT caps=true) (hf:Tryz.prog.funcs[f]? =some fn) (hb:fn.body=some c) (hgo:eP Tryz.prog f=true) (hn:args.length≤fn.ntmps) (hargs:inL six args=true)
  (hbody:AWp Tryz.prog G0 fn.ntmps 7 c (dR Tryz.prog fn fun v t=>v=.tup []∧V6 OC fc caps t.row s') ⟨mkF (aH 0 args),[.cells 0 OC,knR s.2,okR s.1,ckR,.dead,.cells 0 [.fn (.func fc) [] caps],LZ]⟩):∀ rows,V6 OC fc caps rows s→dH Tryz.prog G0 f args rows [0,1,2,3,5,6] ⟨.tup [],[(1,knR s'.2),(2,okR s'.1)]⟩:=by
 intro rows h
 refine cD [.cells 0 OC,knR s.2,okR s.1,ckR,.dead,.cells 0 [.fn (.func fc) [] caps],LZ] hG0 hf hb hgo hn ?_ ?_ (cC (JM (by simp)) hargs) (fun r hr=>cY (JM (by simp)) (h.ins ho hc r hr)) ?_ ?_ ?_
 ·intro r hr
  simp only [List.mem_cons,List.not_mem_nil,or_false] at hr
  rcases hr with rfl|rfl|rfl|rfl|rfl|rfl
  ·exact h.v.r0.symm
  ·exact h.v.r1.symm
  ·exact h.v.r2.symm
  ·exact h.v.r3.symm
  ·exact h.r5.symm
  ·exact h.r6.symm
 ·intro r hr
  match r,hr with
  |0,hr=>exact absurd (by simp) hr
  |1,hr=>exact absurd (by simp) hr
  |2,hr=>exact absurd (by simp) hr
  |3,hr=>exact absurd (by simp) hr
  |4,_=>simp
  |5,hr=>exact absurd (by simp) hr
  |6,hr=>exact absurd (by simp) hr
  |r+7,_=>simp
 ·intro r hr h2
  simp only [List.mem_cons,List.not_mem_nil,or_false] at hr
  simp only [List.length_cons,List.length_nil] at h2
  omega
 ·intro p hp
  simp at hp
  rcases hp with rfl|rfl<;>simp
 ·refine iR hbody (nJ fun v t=>?_)
  rintro ⟨rfl,g⟩
  refine ⟨.inl rfl,rfl,fun r hr=>⟨?_,g.ins ho hc r hr⟩⟩
  simp only [List.mem_cons,List.not_mem_nil,or_false] at hr
  rcases hr with rfl|rfl|rfl|rfl|rfl|rfl
  ·rw [g.v.r0];simp [upd,h.v.r0]
  ·rw [g.v.r1];simp [upd]
  ·rw [g.v.r2];simp [upd]
  ·rw [g.v.r3];simp [upd,h.v.r3]
  ·rw [g.r5];simp [upd,h.r5]
  ·rw [g.r6];simp [upd,h.r6]
theorem EN {n:Nat} {d:Option Tmp} {rest:List POp} {m:Option Acc} {s:AS} {K:Option Acc→AS→Prop} {OC:List AV} {fc:FuncId} {caps:List AV} {f:FuncId} {args:List AV} {q q':Bool × List Bool} (h:∀ rows,V6 OC fc caps rows q→dH Tryz.prog G0 f args rows [0,1,2,3,5,6] ⟨.tup [],[(1,knR q'.2),(2,okR q'.1)]⟩) (hr:V6 OC fc caps s.row q)
  (hk:aY Tryz.prog G0 n K rest (adv m [0,1,2,3,5,6] [1,2]) ((s.wr [(1,knR q'.2),(2,okR q'.1)]).put d (.tup []))):bC Tryz.prog G0 n K d rest m s f args:=by
 unfold bC
 exact ⟨_,_,h s.row hr,hk⟩
set_option maxHeartbeats 4000000 in
theorem SB {OC:List AV} (ho:inL aC OC=true) {fc:FuncId} {caps:List AV} (hcp:inL wT caps=true) (fr:Bool→Bool) (put:Bool) (hC:∀ (t:T) (root:Bool) (s:Bool × List Bool),s.2.length=8→VC OC fc (.agg (T.enc t)::.bool root::caps) s (T.chk (fr root) put t.kind t.num t.low t.kids s)):
  ∀ (N:Nat) (t:T),T.size t≤N→N≤1000000000000→∀ (root:Bool) (s:Bool × List Bool),s.2.length=8→∀ rows,V6 OC fc caps rows s→dH Tryz.prog G0 121 [.agg (T.enc t),.bool root,.ptr 5 0 0,.ptr 6 0 0] rows [0,1,2,3,5,6] ⟨.tup [],[(1,knR (T.vis fr put root t s).2),(2,okR (T.vis fr put root t s).1)]⟩:=by
 intro N
 induction N with
 |zero=>intro t h;have:=T.size_pos t;omega
 |succ N ih=>
  intro t ht hN root s hl
  have hCt:=hC t root s hl
  obtain ⟨k,n,m,es⟩:=t
  have hls:=T.len_sizes es
  simp only [T.size] at ht
  have htr:=T.enc_tree (.mk k n m es)
  have hte:=T.encs_tree es
  rw [T.vis]
  simp only [T.kind,T.num,T.low,T.kids] at hCt
  have hl1:=T.chk_len (free:=fr root) (put:=put) (k:=k) (n:=n) (m:=m) (es:=es) hl
  generalize T.chk (fr root) put k n m es s=s1 at hCt hl1
  refine FA ho hcp Tryz.func121 rfl (by kernel_rfl) (by simp [Tryz.ntmps121]) (by simp only [inL,inR,aD htr,Bool.and_self];rfl) ?_
  simp only [Tryz.ntmps121,aH,Nat.reduceAdd,T.enc] at hCt ⊢
  have hgt:=fun (i:Nat) (e:T)=>T.encs_get (es:=es) (i:=i) (e:=e)
  have hln:=T.encs_len es
  generalize T.encs es=EE at hgt hln hte hCt
  repeat' (first|(refine u'S ?_;simp only [wS,simprocAttr])|refine u'Q fun _ _=>?_|refine aV ?_|refine aR (fun hg=>?_) fun hg=>?_|fail)
  refine mR hCt ⟨by simp only [wS,simprocAttr];try exact rfl,by simp only [wS,simprocAttr];try exact rfl,by simp only [wS,simprocAttr];try exact rfl,by simp only [wS,simprocAttr];try exact rfl⟩ ?_
  simp only [wS,simprocAttr]
  repeat' (first|(refine u'S ?_;simp only [wS,simprocAttr])|refine u'Q fun _ _=>?_|refine aV ?_|refine aR (fun hg=>?_) fun hg=>?_|fail)
  refine aJ (α:={i:Nat // i≤es.length}) (fun i=>[(3,.ptr 6 0 0),(13,.sl false EE),(14,.int .i64 (es.length:Nat)),(15,.int .i64 (i.1:Nat))]) (fun i=>[.cells 0 OC,knR (T.viss fr put (es.take i.1) s1).2,okR (T.viss fr put (es.take i.1) s1).1,ckR,.dead,.cells 0 [.fn (.func fc) [] caps],LZ,.cells 0 [.int .i64 k,.int .i64 n,.int .i64 m,.sl false EE]]) (fun i=>es.length - i.1) ⟨0,Nat.zero_le _⟩ (Weak.ref ⟨?_,.inl ?_⟩) ?_
  ·simp only [wS,simprocAttr,hln];try exact rfl
  ·simp only [wS,simprocAttr,List.take_zero,T.viss];try exact rfl
  ·rintro ⟨i,hi⟩ K2 hK2
   have hli:=T.viss_len fr put (es.take i) s1 hl1
   generalize hsi:T.viss fr put (es.take i) s1=si at hli
   repeat' (first|(refine u'S ?_;simp only [wS,simprocAttr])|refine u'Q fun _ _=>?_|refine aV ?_|refine aR (fun hg=>?_) fun hg=>?_|fail)
   refine ⟨fun h=>?_,fun h=>?_⟩
   ·have hlt:i<es.length:=by simpa using h
    have hltE:i<EE.length:=by omega
    obtain ⟨e,he⟩:∃ e,es[i]? =some e:=⟨_,List.getElem?_eq_getElem hlt⟩
    have hg:=hgt i e he
    have hce:=ih e (by have:=T.size_mem (List.mem_of_getElem? he);omega) (by omega) false si hli
    have htk:=T.viss_take (fr:=fr) (put:=put) (s:=s1) he
    rw [hsi] at htk
    rw [← htk] at hce
    have e1:=aL (k:=i) hlt (by omega)
    obtain ⟨ea,eb,ec,ed,hee⟩:=aI e
    rw [hee] at hg hce
    repeat' (first|(refine u'S ?_;simp only [wS,simprocAttr,hg,hltE,hlt,LZ])|refine u'Q fun _ _=>?_|refine aV ?_|refine aR (fun hg=>?_) fun hg=>?_|fail)
    refine EN hce ⟨⟨by simp only [wS,simprocAttr];try exact rfl,by simp only [wS,simprocAttr];try exact rfl,by simp only [wS,simprocAttr];try exact rfl,by simp only [wS,simprocAttr];try exact rfl⟩,by simp only [wS,simprocAttr];try exact rfl,by simp only [wS,simprocAttr];try exact rfl⟩ ?_
    simp only [wS,simprocAttr]
    repeat' (first|(refine u'S ?_;simp only [wS,simprocAttr,e1])|refine u'Q fun _ _=>?_|refine aV ?_|refine aR (fun hg=>?_) fun hg=>?_|fail)
    refine hK2.go ⟨i+1,hlt⟩ (Weak.ref ⟨?_,.inr ⟨by simp,?_,fun g cs hg=>aD (hG0 g cs hg),?_,?_⟩⟩) (by simp only;omega)
    ·exact u'p
    ·exact u'p
    ·intro z hz
     simp only [List.mem_cons,List.not_mem_nil,or_false] at hz
     rcases hz with rfl|rfl|rfl|rfl<;>first|rfl|exact aA hte
    ·simp only [List.all_cons,List.all_nil,Bool.and_true,Bool.and_eq_true]
     refine ⟨aD ho,KW _ _,rfl,rfl,rfl,?_,rfl,?_⟩
     ·simp only [aG,inL,inR,Bool.and_true,Bool.true_and];exact cC (B0 (by simp)) hcp
     ·simp only [aG,inL,inR,aA hte,Bool.and_self]
   ·have hge:i=es.length:=by simp at h;omega
    rw [hge,List.take_length] at hsi
    repeat' (first|(refine u'S ?_;simp only [wS,simprocAttr])|refine u'Q fun _ _=>?_|refine aV ?_|refine aR (fun hg=>?_) fun hg=>?_|fail)
    rw [hsi]
    refine j1 rfl ⟨rfl,⟨⟨by simp only [wS,simprocAttr];try exact rfl,by simp only [wS,simprocAttr];try exact rfl,by simp only [wS,simprocAttr];try exact rfl,by simp only [wS,simprocAttr];try exact rfl⟩,by simp only [wS,simprocAttr];try exact rfl,by simp only [wS,simprocAttr];try exact rfl⟩⟩
theorem GE {OC:List AV} (ho:inL aC OC=true) {fc:FuncId} {caps:List AV} (hcp:inL wT caps=true) (fr:Bool→Bool) (put:Bool) (hC:∀ (t:T) (root:Bool) (s:Bool × List Bool),s.2.length=8→VC OC fc (.agg (T.enc t)::.bool root::caps) s (T.chk (fr root) put t.kind t.num t.low t.kids s))
  (t:T) (ht:T.size t≤1000000000000) (s:Bool × List Bool) (hl:s.2.length=8):VC OC 93 [.agg (T.enc t),.fn (.func fc) [] caps] s (T.vis fr put true t s):=by
 have hce:=SB ho hcp fr put hC _ t (Nat.le_refl _) ht true s hl
 have htr:=T.enc_tree t
 obtain ⟨ea,eb,ec,ed,hee⟩:=aI t
 rw [hee] at hce htr ⊢
 have hin:inE aC ed=true:=by simpa only [inL,inR,Bool.true_and,Bool.and_true] using htr
 generalize T.vis fr put true t s=s' at hce
 refine j9 ho Tryz.func93 rfl (by kernel_rfl) (by simp [Tryz.ntmps93]) (by simp only [inL,inR,aA hin,hcp,Bool.and_self]) ?_
 simp only [Tryz.ntmps93,aH,Nat.reduceAdd]
 repeat' (first|(refine u'S ?_;simp only [wS,simprocAttr])|refine u'Q fun _ _=>?_|refine aV ?_|refine aR (fun hg=>?_) fun hg=>?_|fail)
 refine EN hce ⟨⟨by simp only [wS,simprocAttr];try exact rfl,by simp only [wS,simprocAttr];try exact rfl,by simp only [wS,simprocAttr];try exact rfl,by simp only [wS,simprocAttr];try exact rfl⟩,by simp only [wS,simprocAttr];try exact rfl,by simp only [wS,simprocAttr];try exact rfl⟩ ?_
 simp only [wS,simprocAttr]
 repeat' (first|(refine u'S ?_;simp only [wS,simprocAttr])|refine u'Q fun _ _=>?_|refine aV ?_|refine aR (fun hg=>?_) fun hg=>?_|fail)
 refine j1 rfl ⟨rfl,⟨by simp only [wS,simprocAttr];try exact rfl,by simp only [wS,simprocAttr];try exact rfl,by simp only [wS,simprocAttr];try exact rfl,by simp only [wS,simprocAttr];try exact rfl⟩⟩
end Go.Proofs.YtggflhbigolakaaGreatDoor
