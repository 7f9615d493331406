import Derived.Test.YtggflhbigolakaaGreatDoorUJ
import Derived.Test.YtggflhbigolakaaGreatDoorVK
set_option linter.unusedVariables false
set_option linter.unusedSimpArgs false
namespace Go.Proofs.YtggflhbigolakaaGreatDoor
open Go.AM
attribute [local irreducible] AWp aY bC bI bU bW aN aS bL
set_option maxRecDepth 100000
def oL0:List AV:=[.str ⟨#[112,108,117,115]⟩,.int .i64 9,.int .i64 0,.int .i64 0,.sl true [[.int .i64 28,.int .i64 0,.int .i64 0,.sl true []],[.int .i64 28,.int .i64 1,.int .i64 0,.sl true []]],.int .i64 9,.int .i64 1,.int .i64 0,.sl true [[.int .i64 28,.int .i64 0,.int .i64 0,.sl true []],[.int .i64 28,.int .i64 1,.int .i64 0,.sl true []]],.int .i64 1]
def oL1:List AV:=[.str ⟨#[109,105,110,117,115]⟩,.int .i64 9,.int .i64 1,.int .i64 0,.sl true [[.int .i64 28,.int .i64 0,.int .i64 0,.sl true []],[.int .i64 28,.int .i64 1,.int .i64 0,.sl true []]],.int .i64 9,.int .i64 0,.int .i64 0,.sl true [[.int .i64 28,.int .i64 0,.int .i64 0,.sl true []],[.int .i64 28,.int .i64 1,.int .i64 0,.sl true []]],.int .i64 0]
def oL2:List AV:=[.str ⟨#[108,101,115,115]⟩,.int .i64 9,.int .i64 10,.int .i64 0,.sl true [[.int .i64 28,.int .i64 0,.int .i64 0,.sl true []],[.int .i64 28,.int .i64 1,.int .i64 0,.sl true []]],.int .i64 9,.int .i64 11,.int .i64 0,.sl true [[.int .i64 28,.int .i64 0,.int .i64 0,.sl true []],[.int .i64 28,.int .i64 1,.int .i64 0,.sl true []]],.int .i64 3]
def oL3:List AV:=[.str ⟨#[115,97,109,101]⟩,.int .i64 9,.int .i64 11,.int .i64 0,.sl true [[.int .i64 28,.int .i64 0,.int .i64 0,.sl true []],[.int .i64 28,.int .i64 1,.int .i64 0,.sl true []]],.int .i64 9,.int .i64 10,.int .i64 0,.sl true [[.int .i64 28,.int .i64 0,.int .i64 0,.sl true []],[.int .i64 28,.int .i64 1,.int .i64 0,.sl true []]],.int .i64 2]
def oL4:List AV:=[.str ⟨#[98,111,116,104]⟩,.int .i64 9,.int .i64 12,.int .i64 0,.sl true [[.int .i64 28,.int .i64 0,.int .i64 0,.sl true []],[.int .i64 28,.int .i64 1,.int .i64 0,.sl true []]],.int .i64 9,.int .i64 13,.int .i64 0,.sl true [[.int .i64 28,.int .i64 0,.int .i64 0,.sl true []],[.int .i64 28,.int .i64 1,.int .i64 0,.sl true []]],.int .i64 5]
def oL5:List AV:=[.str ⟨#[115,111,109,101]⟩,.int .i64 9,.int .i64 13,.int .i64 0,.sl true [[.int .i64 28,.int .i64 0,.int .i64 0,.sl true []],[.int .i64 28,.int .i64 1,.int .i64 0,.sl true []]],.int .i64 9,.int .i64 12,.int .i64 0,.sl true [[.int .i64 28,.int .i64 0,.int .i64 0,.sl true []],[.int .i64 28,.int .i64 1,.int .i64 0,.sl true []]],.int .i64 4]
def oL6:List AV:=[.str ⟨#[110,101,103,97,116,101]⟩,.int .i64 17,.int .i64 0,.int .i64 0,.sl true [[.int .i64 28,.int .i64 0,.int .i64 0,.sl true []],[.int .i64 28,.int .i64 1,.int .i64 0,.sl true []],[.int .i64 28,.int .i64 2,.int .i64 0,.sl true []]],.int .i64 17,.int .i64 0,.int .i64 0,.sl true [[.int .i64 10,.int .i64 0,.int .i64 0,.sl true [[.int .i64 28,.int .i64 0,.int .i64 0,.sl true []]]],[.int .i64 28,.int .i64 1,.int .i64 0,.sl true []],[.int .i64 28,.int .i64 2,.int .i64 0,.sl true []]],.int .i64 7]
def oL7:List AV:=[.str ⟨#[97,102,102,105,114,109]⟩,.int .i64 17,.int .i64 0,.int .i64 0,.sl true [[.int .i64 10,.int .i64 0,.int .i64 0,.sl true [[.int .i64 28,.int .i64 0,.int .i64 0,.sl true []]]],[.int .i64 28,.int .i64 1,.int .i64 0,.sl true []],[.int .i64 28,.int .i64 2,.int .i64 0,.sl true []]],.int .i64 17,.int .i64 0,.int .i64 0,.sl true [[.int .i64 28,.int .i64 0,.int .i64 0,.sl true []],[.int .i64 28,.int .i64 1,.int .i64 0,.sl true []],[.int .i64 28,.int .i64 2,.int .i64 0,.sl true []]],.int .i64 6]
def oL8:List AV:=[.str ⟨#[115,119,97,112]⟩,.int .i64 17,.int .i64 0,.int .i64 0,.sl true [[.int .i64 28,.int .i64 0,.int .i64 0,.sl true []],[.int .i64 28,.int .i64 1,.int .i64 0,.sl true []],[.int .i64 28,.int .i64 2,.int .i64 0,.sl true []]],.int .i64 17,.int .i64 0,.int .i64 0,.sl true [[.int .i64 28,.int .i64 0,.int .i64 0,.sl true []],[.int .i64 28,.int .i64 2,.int .i64 0,.sl true []],[.int .i64 28,.int .i64 1,.int .i64 0,.sl true []]],.int .i64 8]
def oL9:List AV:=[.str ⟨#[116,117,114,110]⟩,.int .i64 9,.int .i64 1,.int .i64 0,.sl true [[.int .i64 28,.int .i64 0,.int .i64 0,.sl true []],[.int .i64 28,.int .i64 1,.int .i64 0,.sl true []]],.int .i64 9,.int .i64 1,.int .i64 0,.sl true [[.int .i64 28,.int .i64 1,.int .i64 0,.sl true []],[.int .i64 28,.int .i64 0,.int .i64 0,.sl true []]],.int .i64 9]
def T3:List AV:=[.str ⟨#[114,105,115,101]⟩,.int .i64 5,.int .i64 0,.int .i64 0,.sl true [],.int .i64 5,.int .i64 1,.int .i64 0,.sl true [],.int .i64 11]
def T2:List AV:=[.str ⟨#[102,97,108,108]⟩,.int .i64 5,.int .i64 1,.int .i64 0,.sl true [],.int .i64 5,.int .i64 0,.int .i64 0,.sl true [],.int .i64 10]
def T1:List AV:=[.str ⟨#[111,110,101]⟩,.int .i64 4,.int .i64 0,.int .i64 0,.sl true [],.int .i64 4,.int .i64 1,.int .i64 0,.sl true [],.int .i64 13]
def T0:List AV:=[.str ⟨#[122,101,114,111]⟩,.int .i64 4,.int .i64 1,.int .i64 0,.sl true [],.int .i64 4,.int .i64 0,.int .i64 0,.sl true [],.int .i64 12]
def SZ:List AV:=[.str ⟨#[116,105,109,101,115]⟩,.int .i64 9,.int .i64 2,.int .i64 0,.sl true [[.int .i64 28,.int .i64 0,.int .i64 0,.sl true []],[.int .i64 28,.int .i64 1,.int .i64 0,.sl true []]],.int .i64 9,.int .i64 3,.int .i64 0,.sl true [[.int .i64 28,.int .i64 0,.int .i64 0,.sl true []],[.int .i64 28,.int .i64 1,.int .i64 0,.sl true []]],.int .i64 15]
def SY:List AV:=[.str ⟨#[100,105,118,105,100,101]⟩,.int .i64 9,.int .i64 3,.int .i64 0,.sl true [[.int .i64 28,.int .i64 0,.int .i64 0,.sl true []],[.int .i64 28,.int .i64 1,.int .i64 0,.sl true []]],.int .i64 9,.int .i64 2,.int .i64 0,.sl true [[.int .i64 28,.int .i64 0,.int .i64 0,.sl true []],[.int .i64 28,.int .i64 1,.int .i64 0,.sl true []]],.int .i64 14]
def SX:List AV:=[.str ⟨#[97,110,100]⟩,.int .i64 9,.int .i64 5,.int .i64 0,.sl true [[.int .i64 28,.int .i64 0,.int .i64 0,.sl true []],[.int .i64 28,.int .i64 1,.int .i64 0,.sl true []]],.int .i64 9,.int .i64 6,.int .i64 0,.sl true [[.int .i64 28,.int .i64 0,.int .i64 0,.sl true []],[.int .i64 28,.int .i64 1,.int .i64 0,.sl true []]],.int .i64 17]
def SW:List AV:=[.str ⟨#[111,114]⟩,.int .i64 9,.int .i64 6,.int .i64 0,.sl true [[.int .i64 28,.int .i64 0,.int .i64 0,.sl true []],[.int .i64 28,.int .i64 1,.int .i64 0,.sl true []]],.int .i64 9,.int .i64 5,.int .i64 0,.sl true [[.int .i64 28,.int .i64 0,.int .i64 0,.sl true []],[.int .i64 28,.int .i64 1,.int .i64 0,.sl true []]],.int .i64 16]
def SV:List AV:=[.str ⟨#[108,101,102,116]⟩,.int .i64 9,.int .i64 8,.int .i64 0,.sl true [[.int .i64 28,.int .i64 0,.int .i64 0,.sl true []],[.int .i64 28,.int .i64 1,.int .i64 0,.sl true []]],.int .i64 9,.int .i64 9,.int .i64 0,.sl true [[.int .i64 28,.int .i64 0,.int .i64 0,.sl true []],[.int .i64 28,.int .i64 1,.int .i64 0,.sl true []]],.int .i64 19]
def SU:List AV:=[.str ⟨#[114,105,103,104,116]⟩,.int .i64 9,.int .i64 9,.int .i64 0,.sl true [[.int .i64 28,.int .i64 0,.int .i64 0,.sl true []],[.int .i64 28,.int .i64 1,.int .i64 0,.sl true []]],.int .i64 9,.int .i64 8,.int .i64 0,.sl true [[.int .i64 28,.int .i64 0,.int .i64 0,.sl true []],[.int .i64 28,.int .i64 1,.int .i64 0,.sl true []]],.int .i64 18]
def ST:List AV:=[.str ⟨#[104,117,115,104]⟩,.int .i64 24,.int .i64 0,.int .i64 0,.sl true [[.int .i64 28,.int .i64 0,.int .i64 0,.sl true []]],.int .i64 25,.int .i64 0,.int .i64 0,.sl true [],.int .i64 (-1)]
def SR:List AV:=[.str ⟨#[111,110,99,101]⟩,.int .i64 18,.int .i64 0,.int .i64 0,.sl true [[.int .i64 28,.int .i64 0,.int .i64 0,.sl true []],[.int .i64 28,.int .i64 1,.int .i64 0,.sl true []]],.int .i64 17,.int .i64 0,.int .i64 0,.sl true [[.int .i64 28,.int .i64 0,.int .i64 0,.sl true []],[.int .i64 28,.int .i64 1,.int .i64 0,.sl true []],[.int .i64 13,.int .i64 0,.int .i64 0,.sl true []]],.int .i64 (-1)]
def SQ:List AV:=[.str ⟨#[110,101,120,116]⟩,.int .i64 7,.int .i64 (-100),.int .i64 0,.sl true [[.int .i64 28,.int .i64 0,.int .i64 0,.sl true []]],.int .i64 7,.int .i64 (-100),.int .i64 0,.sl true [[.int .i64 9,.int .i64 0,.int .i64 0,.sl true [[.int .i64 28,.int .i64 0,.int .i64 0,.sl true []],[.int .i64 4,.int .i64 1,.int .i64 0,.sl true []]]]],.int .i64 23]
def SP:List AV:=[.str ⟨#[98,97,99,107]⟩,.int .i64 7,.int .i64 (-100),.int .i64 0,.sl true [[.int .i64 9,.int .i64 0,.int .i64 0,.sl true [[.int .i64 28,.int .i64 0,.int .i64 0,.sl true []],[.int .i64 4,.int .i64 1,.int .i64 0,.sl true []]]]],.int .i64 7,.int .i64 (-100),.int .i64 0,.sl true [[.int .i64 28,.int .i64 0,.int .i64 0,.sl true []]],.int .i64 22]
def iV:AV:=.sl true [oL0,oL1,oL2,oL3,oL4,oL5,oL6,oL7,oL8,oL9,T3,T2,T1,T0,SZ,SY,SX,SW,SV,SU,ST,SR,SQ,SP]
theorem PO:Pure Tryz.prog G0 46 [] iV:=kF 60 60 _ [] D9 hG0 (by kernel_rfl) (by kernel_rfl) (by kernel_rfl)
def toT:Nat→List AV→T
 |f+1,[.int _ k,.int _ n,.int _ m,.sl _ es]=>.mk k n m (es.map (toT f))
 |_,_=>T.zero
def C7:List AV→OpT
 | [.str s,a,b,c,d,e,f,g,h,.int _ z]=>(s,toT 9 [a,b,c,d],toT 9 [e,f,g,h],z)
 |_=>(ByteArray.empty,T.zero,T.zero,0)
def n6:List (List AV):=match iV with
 | .sl _ es=>es
 |_=>[]
def JF:List OpT:=n6.map C7
theorem JE:n6.map wkL=JF.map opC:=by kernel_rfl
theorem MJ:iV=.sl true n6:=by kernel_rfl
theorem s6:inE aC n6=true:=by kernel_rfl
theorem GJ:n6.length=24:=by kernel_rfl
theorem JD:∀ o∈JF,T.size o.2.1≤100∧T.size o.2.2.1≤100:=fun o ho=>by
 have h:(JF.all fun o=>decide (T.size o.2.1≤100)&&decide (T.size o.2.2.1≤100))=true:=by kernel_rfl
 have:=List.all_eq_true.1 h o ho
 simpa using this
theorem KH (nm:ByteArray) (f p:T) (b:Int):wkL (opE nm f p b)=opE nm f p b:=by
 have hf:=T.wk_enc f
 have hp:=T.wk_enc p
 obtain ⟨fa,fb,fc,fd,hfe⟩:=aI f
 obtain ⟨pa,pb,pc,pd,hpe⟩:=aI p
 rw [hfe] at hf
 rw [hpe] at hp
 simp only [wkL,AM.wk,List.cons.injEq,true_and,and_true,AV.sl.injEq] at hf hp
 simp only [opE,hfe,hpe,List.cons_append,List.nil_append,wkL,AM.wk,hf,hp]
theorem jN {l:List (List AV)} (h:inE aC l=true):∀ e∈l,inL aC e=true:=by
 induction l with
 |nil=>intro e he;cases he
 |cons a l ih=>
  simp only [inE,Bool.and_eq_true] at h
  intro e he
  rcases List.mem_cons.1 he with rfl|he
  ·exact h.1
  ·exact ih h.2 e he
def shp:List AV→Bool
 | [.str _,.int .i64 _,.int .i64 _,.int .i64 _,.sl _ _,.int .i64 _,.int .i64 _,.int .i64 _,.sl _ _,.int .i64 _]=>true
 |_=>false
theorem PC {e:List AV} (h:shp e=true):∃ nm fa fb fc fl fd pa pb pc pl pd z,e=[.str nm,.int .i64 fa,.int .i64 fb,.int .i64 fc,.sl fl fd,.int .i64 pa,.int .i64 pb,.int .i64 pc,.sl pl pd,.int .i64 z]:=by
 unfold shp at h
 split at h
 ·exact ⟨_,_,_,_,_,_,_,_,_,_,_,_,rfl⟩
 ·cases h
theorem MK:n6.all shp=true:=by kernel_rfl
def OE (e:List AV):Prop:=e.length=10∧inL aC e=true∧∃ o:OpT,wkL e=opC o∧OpB o
theorem CC {k:Nat} (hk:k<24):∃ nm fa fb fc fl fd pa pb pc pl pd z,n6[k]? =some [.str nm,.int .i64 fa,.int .i64 fb,.int .i64 fc,.sl fl fd,.int .i64 pa,.int .i64 pb,.int .i64 pc,.sl pl pd,.int .i64 z]∧∀ y:Int,OE [.str nm,.int .i64 fa,.int .i64 fb,.int .i64 fc,.sl fl fd,.int .i64 pa,.int .i64 pb,.int .i64 pc,.sl pl pd,.int .i64 y]:=by
 obtain ⟨e,he⟩:∃ e,n6[k]? =some e:=⟨_,List.getElem?_eq_getElem (by rw [GJ];exact hk)⟩
 have hm:=List.mem_of_getElem? he
 obtain ⟨nm,fa,fb,fc,fl,fd,pa,pb,pc,pl,pd,z,rfl⟩:=PC (List.all_eq_true.1 MK e hm)
 have ht:=jN s6 _ hm
 have hw2:(JF.map opC)[k]? =some (wkL [.str nm,.int .i64 fa,.int .i64 fb,.int .i64 fc,.sl fl fd,.int .i64 pa,.int .i64 pb,.int .i64 pc,.sl pl pd,.int .i64 z]):=by rw [← JE,List.getElem?_map,he];rfl
 rw [List.getElem?_map] at hw2
 obtain ⟨⟨onm,f,p,b⟩,ho',hoe⟩:=Option.map_eq_some_iff.1 hw2
 have hos:=JD _ (List.mem_of_getElem? ho')
 refine ⟨nm,fa,fb,fc,fl,fd,pa,pb,pc,pl,pd,z,he,fun y=>⟨rfl,by simpa only [inL,inR,Bool.true_and,Bool.and_true] using ht,(onm,f,p,y),?_,Nat.le_trans hos.1 (by decide),Nat.le_trans hos.2 (by decide)⟩⟩
 obtain ⟨ga,gb,gc,gd,hge⟩:=aI f
 obtain ⟨qa,qb,qc,qd,hqe⟩:=aI p
 simp only [opC,opE,hge,hqe,List.cons_append,List.nil_append,wkL,AM.wk,List.cons.injEq,AV.int.injEq,AV.sl.injEq,AV.str.injEq,true_and,and_true] at hoe ⊢
 simp only [hoe,and_self]
theorem FI:∀ {l:List (List AV)},(∀ e∈l,OE e)→∃ O:List OpT,l.map wkL=O.map opC∧O.length=l.length∧∀ o∈O,OpB o
 | [],_=>⟨[],rfl,rfl,fun o h=>by cases h⟩
 |e::l,h=>by
  obtain ⟨_,_,o,h1,h2⟩:=h e (by simp)
  obtain ⟨O,g1,g2,g3⟩:=FI (l:=l) fun e he=>h e (by simp [he])
  exact ⟨o::O,by simp only [List.map_cons,h1,g1],by simp [g2],fun x hx=>by
   rcases List.mem_cons.1 hx with rfl|hx
   ·exact h2
   ·exact g3 x hx⟩
theorem GT (nm:ByteArray) (f p:T) (b:Int):(opC (nm,f,p,b)).length=10:=by
 obtain ⟨ga,gb,gc,gd,hge⟩:=aI f
 obtain ⟨qa,qb,qc,qd,hqe⟩:=aI p
 simp only [opC,opE,hge,hqe];rfl
theorem i6 {l:List (List AV)} (h:∀ e∈l,OE e):inE aC l=true:=iL fun e he=>(h e he).2.1
theorem v6 (l:List Int) (hl:∀ x∈l,cI x) (i m:Nat) (hm:0<m):∃ k:Nat,k<m∧Pure Tryz.prog G0 70 [b9 l,.int .i64 (i:Nat),.int .i64 (m:Nat)] (.int .i64 (k:Nat)):=by
 have h:=rP l (i:Int) (m:Int) hl (by omega)
 have hb:=HO l (i:Int) (m:Int) (by omega)
 exact ⟨(atS l i m).toNat,by omega,by rw [Int.toNat_of_nonneg hb.1];exact h⟩
set_option maxHeartbeats 16000000 in
theorem RP (c:T) (hc:T.size c≤16000000000) (l:List Int) (hl:∀ x∈l,cI x):∃ O:List OpT,Pure Tryz.prog G0 35 [.agg (T.enc c),b9 l] (.sl false (O.map opC))∧O.length≤7∧∀ o∈O,OpB o:=by
 have kst:=PO
 rw [MJ] at kst
 have hsl:=GJ
 have hst:=s6
 obtain ⟨kf,hkf⟩:∃ f:Nat→Nat,∀ i:Nat,i<3→f i<11∧Pure Tryz.prog G0 70 [b9 l,.int .i64 (i:Nat),.int .i64 11] (.int .i64 (f i:Nat)):=
  ⟨fun i=>(v6 l hl i 11 (by decide)).choose,fun i _=>(v6 l hl i 11 (by decide)).choose_spec⟩
 have hA:∃ A B:Nat→List AV,∀ i,i<3→OE (A i)∧OE (B i)∧∃ nm fa fb fc fl fd pa pb pc pl pd z nm' fa' fb' fc' fl' fd' pa' pb' pc' pl' pd' z',n6[2*kf i]? =some [.str nm,.int .i64 fa,.int .i64 fb,.int .i64 fc,.sl fl fd,.int .i64 pa,.int .i64 pb,.int .i64 pc,.sl pl pd,.int .i64 z]∧n6[2*kf i+1]? =some [.str nm',.int .i64 fa',.int .i64 fb',.int .i64 fc',.sl fl' fd',.int .i64 pa',.int .i64 pb',.int .i64 pc',.sl pl' pd',.int .i64 z']∧
   A i=[.str nm,.int .i64 fa,.int .i64 fb,.int .i64 fc,.sl fl fd,.int .i64 pa,.int .i64 pb,.int .i64 pc,.sl pl pd,.int .i64 (if kf i=10 then -1 else if kf i=4 then (2*i:Nat) else IntKind.i64.wrap (IntKind.i64.wrap (((2*i:Nat):Int)+z) - ((2*kf i:Nat):Int)))]∧
   B i=[.str nm',.int .i64 fa',.int .i64 fb',.int .i64 fc',.sl fl' fd',.int .i64 pa',.int .i64 pb',.int .i64 pc',.sl pl' pd',.int .i64 (if kf i=10 then -1 else if kf i=4 then (2*i+1:Nat) else IntKind.i64.wrap (IntKind.i64.wrap (((2*i:Nat):Int)+z') - ((2*kf i:Nat):Int)))]:=by
  have h1:∀ i:Nat,∃ A B:List AV,i<3→OE A∧OE B∧∃ nm fa fb fc fl fd pa pb pc pl pd z nm' fa' fb' fc' fl' fd' pa' pb' pc' pl' pd' z',n6[2*kf i]? =some [.str nm,.int .i64 fa,.int .i64 fb,.int .i64 fc,.sl fl fd,.int .i64 pa,.int .i64 pb,.int .i64 pc,.sl pl pd,.int .i64 z]∧n6[2*kf i+1]? =some [.str nm',.int .i64 fa',.int .i64 fb',.int .i64 fc',.sl fl' fd',.int .i64 pa',.int .i64 pb',.int .i64 pc',.sl pl' pd',.int .i64 z']∧
    A=[.str nm,.int .i64 fa,.int .i64 fb,.int .i64 fc,.sl fl fd,.int .i64 pa,.int .i64 pb,.int .i64 pc,.sl pl pd,.int .i64 (if kf i=10 then -1 else if kf i=4 then (2*i:Nat) else IntKind.i64.wrap (IntKind.i64.wrap (((2*i:Nat):Int)+z) - ((2*kf i:Nat):Int)))]∧
    B=[.str nm',.int .i64 fa',.int .i64 fb',.int .i64 fc',.sl fl' fd',.int .i64 pa',.int .i64 pb',.int .i64 pc',.sl pl' pd',.int .i64 (if kf i=10 then -1 else if kf i=4 then (2*i+1:Nat) else IntKind.i64.wrap (IntKind.i64.wrap (((2*i:Nat):Int)+z') - ((2*kf i:Nat):Int)))]:=fun i=>by
   by_cases hi:i<3
   ·have hk:=(hkf i hi).1
    obtain ⟨nm,fa,fb,fc,fl,fd,pa,pb,pc,pl,pd,z,h1,h2⟩:=CC (k:=2*kf i) (by omega)
    obtain ⟨nm',fa',fb',fc',fl',fd',pa',pb',pc',pl',pd',z',g1,g2⟩:=CC (k:=2*kf i+1) (by omega)
    exact ⟨_,_,fun _=>⟨h2 _,g2 _,nm,fa,fb,fc,fl,fd,pa,pb,pc,pl,pd,z,nm',fa',fb',fc',fl',fd',pa',pb',pc',pl',pd',z',h1,g1,rfl,rfl⟩⟩
   ·exact ⟨[],[],fun h=>absurd h hi⟩
  exact ⟨fun i=>(h1 i).choose,fun i=>(h1 i).choose_spec.choose,fun i hi=>(h1 i).choose_spec.choose_spec hi⟩
 obtain ⟨A,B,hAB⟩:=hA
 obtain ⟨q3,hq3,ka3⟩:=v6 l hl 3 3 (by decide)
 have htr:=T.enc_tree c
 have hp6:=GS _ c (Nat.le_refl _) (by omega)
 have hSl:(T.paths c).length=T.size c:=T.paths_len c
 have hsp:=T.size_pos c
 obtain ⟨q4,hq4,ka4⟩:=v6 l hl 4 (T.paths c).length (by omega)
 obtain ⟨q5,hq5,ka5⟩:=v6 l hl 5 (T.paths c).length (by omega)
 obtain ⟨p4,hp4⟩:∃ p,(T.paths c)[q4]? =some p:=⟨_,List.getElem?_eq_getElem hq4⟩
 obtain ⟨p5,hp5⟩:∃ p,(T.paths c)[q5]? =some p:=⟨_,List.getElem?_eq_getElem hq5⟩
 obtain ⟨hl4,x4,hx4,hz4⟩:=T.paths_sub c p4 (List.mem_of_getElem? hp4)
 obtain ⟨hl5,x5,hx5,hz5⟩:=T.paths_sub c p5 (List.mem_of_getElem? hp5)
 have kat4:=AA p4 c (by omega)
 have kat5:=AA p5 c (by omega)
 rw [hx4,fJ] at kat4
 rw [hx5,fJ] at kat5
 obtain ⟨_,⟨mnm,mf,mp,mb,rfl,hm1,hm2⟩,kma⟩:=Q3 l hl x4 x5 (by omega) (by omega)
 have hcg4:=AD hp4
 have hcg5:=AD hp5
 have hcl:=l5 (T.paths c)
 have hctr:=nC (T.paths c)
 rw [← hcl] at ka4 ka5 hq4 hq5
 generalize PE (T.paths c)=SEs at hp6 hcg4 hcg5 hcl hctr ka4 ka5 hq4 hq5
 obtain ⟨appL,happ0,happS⟩:∃ f:Nat→List (List AV),f 0=[]∧∀ i,f (i+1)=f i++[A i,B i]:=⟨fun i=>((List.range i).map fun j=>[A j,B j]).flatten,rfl,fun i=>by simp [List.range_succ]⟩
 have happO:∀ i,i≤3→∀ e∈appL i,OE e:=fun i=>by
  induction i with
  |zero=>intro _ e he;rw [happ0] at he;cases he
  |succ i ih=>
   intro hi e he
   rw [happS] at he
   rcases List.mem_append.1 he with he|he
   ·exact ih (by omega) e he
   ·obtain ⟨h1,h2,_⟩:=hAB i (by omega)
    rcases List.mem_cons.1 he with rfl|he
    ·exact h1
    ·rw [List.mem_singleton.1 he];exact h2
 have happl:∀ i,(appL i).length=2*i:=fun i=>by
  induction i with
  |zero=>rw [happ0];rfl
  |succ i ih=>rw [happS,List.length_append,ih];simp;omega
 have hmade:OE (opC (mnm,mf,mp,mb)):=⟨GT mnm mf mp mb,gI _ _ _ _,(mnm,mf,mp,mb),KH _ _ _ _,by show T.size mf≤_;omega,by show T.size mp≤_;omega⟩
 by_cases hq:q3=0
 ·obtain ⟨O,hO1,hO2,hO3⟩:=FI (l:=appL 3++[opC (mnm,mf,mp,mb)]) fun e he=>by
   rcases List.mem_append.1 he with he|he
   ·exact happO 3 (by decide) e he
   ·rw [List.mem_singleton.1 he];exact hmade
  refine ⟨O,?_,by rw [hO2,List.length_append,happl];simp,hO3⟩
  have hkf':∀ i:Nat,i<3→kf i<11∧_:=hkf
  have hLt:inE aC (l.map fun n=>[AV.int .i64 n])=true:=aW l
  have hrt:=eI O
  simp only [b9] at ka3 ka4 ka5 kma hkf' ⊢
  generalize (l.map fun n=>[AV.int .i64 n])=EL at hLt ka3 ka4 ka5 kma hkf' ⊢
  obtain ⟨ca,cb,cc,cd,hce⟩:=aI c
  obtain ⟨xa,xb,xc,xd,hxe⟩:=aI x4
  obtain ⟨ya,yb,yc,yd,hye⟩:=aI x5
  rw [hce] at hp6 htr kat4 kat5 ⊢
  rw [hxe] at kat4 kma
  rw [hye] at kat5 kma
  generalize aE p4=i4 at hcg4 kat4
  generalize aE p5=i5 at hcg5 kat5
  generalize n6=SL at kst hsl hst hAB
  refine aU hG0 Tryz.func35 rfl (by kernel_rfl) (by simp [Tryz.ntmps35]) (by simp only [inL,inR,hLt,Bool.true_and,Bool.and_true] at htr ⊢;exact htr) (by simp only [inR];exact hrt) ?_
  simp only [Tryz.ntmps35,aH,Nat.reduceAdd]
  
  refine jD ?_
  repeat' (first|(refine u'S ?_;simp only [wS,simprocAttr])|refine u'Q fun _ _=>?_|refine aO ?_|refine aP (fun hg=>?_) fun hg=>?_|refine bH hG0 (kst) (u'T ?_))
  refine aJ (α:={i:Nat // i≤3}) (fun i=>[(1,.sl false EL),(2,.ptr 0 0 0),(5,.sl true SL),(6,rv 1 (i.1 - 1) 10 (appL i.1)),(7,.int .i64 (i.1:Nat))]) (fun i=>[.cells 0 [.int .i64 ca,.int .i64 cb,.int .i64 cc,.sl false cd],rvR (i.1 - 1) (appL i.1)]) (fun i=>3 - i.1) ⟨0,Nat.zero_le _⟩ (bN [] (kp [0,1]) hG0 (fun r hr=>absurd hr (Nat.not_lt_zero r)) ?_ ?_ ?_) ?_
  ·simp only [wS,simprocAttr,cS,Frz,and_true,true_or,happ0,dS];try exact .toRsv
  ·simp only [List.all_cons,List.all_nil,Bool.and_true,Bool.and_eq_true,inR,aA hLt,aA hst,true_and,Nat.zero_sub];exact ⟨rfl,cH rfl⟩
  ·simp only [wS,simprocAttr,happ0,dM]
   simp only [ToH,and_true]
   exact kr rfl (aD htr) (by simp)
  ·rintro ⟨i,hi⟩ K hK
   try simp only at hi
   have happl':=happl i
   by_cases hlt:i<3
   ·have c1:decide (((i:Nat):Int)<3)=true:=by simp;omega
    have e3:=aL (k:=i) hlt (by omega)
    obtain ⟨hk11,hka⟩:=hkf' i hlt
    obtain ⟨hoA,hoB,nm,fa,fb,fc,fl,fd,pa,pb,pc,pl,pd,z,nm',fa',fb',fc',fl',fd',pa',pb',pc',pl',pd',z',ha,hb,hAi,hBi⟩:=hAB i hlt
    have hA:2*kf i<SL.length:=by omega
    have hB:2*kf i+1<SL.length:=by omega
    have w1:IntKind.i64.wrap (2*((kf i:Nat):Int))=((2*kf i:Nat):Int):=by rw [cB (by omega) (by omega)];omega
    have w2:IntKind.i64.wrap (((2*kf i:Nat):Int)+1)=((2*kf i+1:Nat):Int):=by rw [cB (by omega) (by omega)];omega
    have w3:IntKind.i64.wrap (2*((i:Nat):Int))=((2*i:Nat):Int):=by rw [cB (by omega) (by omega)];omega
    have w4:IntKind.i64.wrap (((2*i:Nat):Int)+1)=((2*i+1:Nat):Int):=by rw [cB (by omega) (by omega)];omega
    have htk:=happS i
    have hps:∀ e∈appL i,e.length=10:=fun e he=>(happO i (by omega) e he).1
    have hvv:i=if appL i=[] then 0 else i - 1+1:=by
     by_cases h0:appL i=[]
     ·rw [if_pos h0];rw [h0] at happl';simp at happl';omega
     ·rw [if_neg h0]
      have:i≠0:=fun hz=>h0 (by rw [hz];exact happ0)
      omega
    by_cases h10:kf i=10
    ·have h4:¬ kf i=4:=by omega
     have c4:(((kf i:Nat):Int)==4)=false:=by simp;omega
     have c10:(((kf i:Nat):Int)==10)=true:=by simp;omega
     simp only [h10,h4,if_true,if_false,reduceIte] at hAi hBi
     rw [hAi,hBi] at htk
     repeat' (first|(refine u'S ?_;simp only [wS,simprocAttr,c1,ha,hb,hA,hB,w1,w2,w3,w4,c4,c10,e3,Bool.not_true,Bool.not_false])|refine u'Q fun _ _=>?_|refine aO ?_|refine aP (fun hg=>?_) fun hg=>?_|refine bH hG0 (hka) (u'T ?_)|refine b8 (v':=i) (es:=[[.str nm,.int .i64 fa,.int .i64 fb,.int .i64 fc,.sl fl fd,.int .i64 pa,.int .i64 pb,.int .i64 pc,.sl pl pd,.int .i64 (-1)],[.str nm',.int .i64 fa',.int .i64 fb',.int .i64 fc',.sl fl' fd',.int .i64 pa',.int .i64 pb',.int .i64 pc',.sl pl' pd',.int .i64 (-1)]]) (by':=120) (by kernel_rfl) u'p hvv hps (by simp [cJ]) (by simp) (by rw [happl'];simp only [List.length_cons,List.length_nil];omega) (u'T ?_))
     refine hK.go ⟨i+1,hlt⟩ (Weak.ref ⟨?_,.inr ⟨by first|exact Nat.zero_le _|exact Nat.le_refl _|simp,?_,fun g cs hg=>aD (hG0 g cs hg),?_,?_⟩⟩) (by simp only;omega)
     ·simp only [wS,simprocAttr,Nat.add_sub_cancel,htk];try exact rfl
     ·simp only [wS,simprocAttr,Nat.add_sub_cancel,htk];try exact rfl
     ·intro z hz
      simp only [List.mem_cons,List.not_mem_nil,or_false] at hz
      rcases hz with rfl|rfl|rfl|rfl|rfl<;>first|rfl|(simp only [inR];first|exact aA hLt|exact aA hst|exact cH rfl)
     ·simp only [List.all_cons,List.all_nil,Bool.and_true,Bool.and_eq_true];try exact ⟨aD htr,bQ (aA (i6 (happO _ hlt)))⟩
    ·by_cases h4:kf i=4
     ·have c4:(((kf i:Nat):Int)==4)=true:=by simp;omega
      have c10:(((kf i:Nat):Int)==10)=false:=by simp;omega
      simp only [h10,h4,if_true,if_false,reduceIte] at hAi hBi
      rw [hAi,hBi] at htk
      repeat' (first|(refine u'S ?_;simp only [wS,simprocAttr,c1,ha,hb,hA,hB,w1,w2,w3,w4,c4,c10,e3,Bool.not_true,Bool.not_false])|refine u'Q fun _ _=>?_|refine aO ?_|refine aP (fun hg=>?_) fun hg=>?_|refine bH hG0 (hka) (u'T ?_)|refine b8 (v':=i) (es:=[[.str nm,.int .i64 fa,.int .i64 fb,.int .i64 fc,.sl fl fd,.int .i64 pa,.int .i64 pb,.int .i64 pc,.sl pl pd,.int .i64 (((2*i:Nat):Int))],[.str nm',.int .i64 fa',.int .i64 fb',.int .i64 fc',.sl fl' fd',.int .i64 pa',.int .i64 pb',.int .i64 pc',.sl pl' pd',.int .i64 (((2*i+1:Nat):Int))]]) (by':=120) (by kernel_rfl) u'p hvv hps (by simp [cJ]) (by simp) (by rw [happl'];simp only [List.length_cons,List.length_nil];omega) (u'T ?_))
      refine hK.go ⟨i+1,hlt⟩ (Weak.ref ⟨?_,.inr ⟨by first|exact Nat.zero_le _|exact Nat.le_refl _|simp,?_,fun g cs hg=>aD (hG0 g cs hg),?_,?_⟩⟩) (by simp only;omega)
      ·simp only [wS,simprocAttr,Nat.add_sub_cancel,htk];try exact rfl
      ·simp only [wS,simprocAttr,Nat.add_sub_cancel,htk];try exact rfl
      ·intro z hz
       simp only [List.mem_cons,List.not_mem_nil,or_false] at hz
       rcases hz with rfl|rfl|rfl|rfl|rfl<;>first|rfl|(simp only [inR];first|exact aA hLt|exact aA hst|exact cH rfl)
      ·simp only [List.all_cons,List.all_nil,Bool.and_true,Bool.and_eq_true];try exact ⟨aD htr,bQ (aA (i6 (happO _ hlt)))⟩
     ·have c4:(((kf i:Nat):Int)==4)=false:=by simp;omega
      have c10:(((kf i:Nat):Int)==10)=false:=by simp;omega
      simp only [h10,h4,if_true,if_false,reduceIte] at hAi hBi
      rw [hAi,hBi] at htk
      repeat' (first|(refine u'S ?_;simp only [wS,simprocAttr,c1,ha,hb,hA,hB,w1,w2,w3,w4,c4,c10,e3,Bool.not_true,Bool.not_false])|refine u'Q fun _ _=>?_|refine aO ?_|refine aP (fun hg=>?_) fun hg=>?_|refine bH hG0 (hka) (u'T ?_)|refine b8 (v':=i) (es:=[[.str nm,.int .i64 fa,.int .i64 fb,.int .i64 fc,.sl fl fd,.int .i64 pa,.int .i64 pb,.int .i64 pc,.sl pl pd,.int .i64 (IntKind.i64.wrap (IntKind.i64.wrap (((2*i:Nat):Int)+z) - ((2*kf i:Nat):Int)))],[.str nm',.int .i64 fa',.int .i64 fb',.int .i64 fc',.sl fl' fd',.int .i64 pa',.int .i64 pb',.int .i64 pc',.sl pl' pd',.int .i64 (IntKind.i64.wrap (IntKind.i64.wrap (((2*i:Nat):Int)+z') - ((2*kf i:Nat):Int)))]]) (by':=120) (by kernel_rfl) u'p hvv hps (by simp [cJ]) (by simp) (by rw [happl'];simp only [List.length_cons,List.length_nil];omega) (u'T ?_))
      refine hK.go ⟨i+1,hlt⟩ (Weak.ref ⟨?_,.inr ⟨by first|exact Nat.zero_le _|exact Nat.le_refl _|simp,?_,fun g cs hg=>aD (hG0 g cs hg),?_,?_⟩⟩) (by simp only;omega)
      ·simp only [wS,simprocAttr,Nat.add_sub_cancel,htk];try exact rfl
      ·simp only [wS,simprocAttr,Nat.add_sub_cancel,htk];try exact rfl
      ·intro z hz
       simp only [List.mem_cons,List.not_mem_nil,or_false] at hz
       rcases hz with rfl|rfl|rfl|rfl|rfl<;>first|rfl|(simp only [inR];first|exact aA hLt|exact aA hst|exact cH rfl)
      ·simp only [List.all_cons,List.all_nil,Bool.and_true,Bool.and_eq_true];try exact ⟨aD htr,bQ (aA (i6 (happO _ hlt)))⟩
   ·have c1:decide (((i:Nat):Int)<3)=false:=by simp;omega
    obtain rfl:i=3:=by omega
    have c3:(((q3:Nat):Int)==0)=true:=by simp;omega
    have hLtree:=i6 (l:=appL 3++[opC (mnm,mf,mp,mb)]) fun e he=>by
     rcases List.mem_append.1 he with he|he
     ·exact happO 3 (by decide) e he
     ·rw [List.mem_singleton.1 he];exact hmade
    obtain ⟨mfa,mfb,mfc,mfd,hmf⟩:=aI mf
    obtain ⟨mpa,mpb,mpc,mpd,hmp⟩:=aI mp
    have hcm:opC (mnm,mf,mp,mb)=[.str mnm,.int .i64 mfa,.int .i64 mfb,.int .i64 mfc,.sl false mfd,.int .i64 mpa,.int .i64 mpb,.int .i64 mpc,.sl false mpd,.int .i64 mb]:=by simp only [opC,opE,hmf,hmp,List.cons_append,List.nil_append]
    rw [show AV.agg (opE mnm mf mp mb)=.agg (opC (mnm,mf,mp,mb)) from rfl,hcm] at kma
    rw [hcm] at hLtree hO1
    have hp3:∀ e∈appL 3,e.length=10:=fun e he=>(happO 3 (by decide) e he).1
    have hv3:3=if appL 3=[] then 0 else 3 - 1+1:=by rw [if_neg (fun h=>by rw [h] at happl';simp at happl')]
    repeat' (first|(refine u'S ?_;simp only [wS,simprocAttr,c1,c3,hcg4,hcg5,hq4,hq5,Bool.not_true,Bool.not_false])|refine u'Q fun _ _=>?_|refine aO ?_|refine aP (fun hg=>?_) fun hg=>?_|refine bH hG0 (ka3) (u'T ?_)|refine bH hG0 (hp6) (u'T ?_)|refine bH hG0 (ka4) (u'T ?_)|refine bH hG0 (kat4) (u'T ?_)|refine bH hG0 (ka5) (u'T ?_)|refine bH hG0 (kat5) (u'T ?_)|refine bH hG0 (kma) (u'T ?_)|refine b8 (v':=3) (es:=[[.str mnm,.int .i64 mfa,.int .i64 mfb,.int .i64 mfc,.sl false mfd,.int .i64 mpa,.int .i64 mpb,.int .i64 mpc,.sl false mpd,.int .i64 mb]]) (by':=120) (by kernel_rfl) u'p hv3 hp3 (by simp [cJ]) (by simp) (by rw [happl'];simp only [List.length_cons,List.length_nil];omega) (u'T ?_))
    refine ⟨_,bN [1] (kp []) (l:=[(4,.sl false (appL 3++[[.str mnm,.int .i64 mfa,.int .i64 mfb,.int .i64 mfc,.sl false mfd,.int .i64 mpa,.int .i64 mpb,.int .i64 mpc,.sl false mpd,.int .i64 mb]]))]) (h:=[]) hG0 (fun r hr=>absurd hr (Nat.not_lt_zero r)) ?_ ?_ ?_,aB rfl ?_⟩
    ·simp only [wS,simprocAttr,cS,Frz,and_true,true_or]
     exact .inr (fB (v:=3) u'p (by simp) (fun e he=>by
      rcases List.mem_append.1 he with he|he
      ·exact hp3 e he
      ·rw [List.mem_singleton.1 he];rfl) hLtree)
    ·simp only [List.all_cons,List.all_nil,Bool.and_true,inR];exact aA hLtree
    ·simp only [wS,simprocAttr]
     simp only [ToH,and_true]
     refine ⟨?_,?_,?_,?_⟩<;>rfl
    ·simp only [wS,simprocAttr]
     rw [AM.wk,dI,hO1]
 ·obtain ⟨O,hO1,hO2,hO3⟩:=FI (happO 3 (by decide))
  refine ⟨O,?_,by rw [hO2,happl];simp,hO3⟩
  have hkf':∀ i:Nat,i<3→kf i<11∧_:=hkf
  have hLt:inE aC (l.map fun n=>[AV.int .i64 n])=true:=aW l
  have hrt:=eI O
  simp only [b9] at ka3 ka4 ka5 kma hkf' ⊢
  generalize (l.map fun n=>[AV.int .i64 n])=EL at hLt ka3 ka4 ka5 kma hkf' ⊢
  obtain ⟨ca,cb,cc,cd,hce⟩:=aI c
  obtain ⟨xa,xb,xc,xd,hxe⟩:=aI x4
  obtain ⟨ya,yb,yc,yd,hye⟩:=aI x5
  rw [hce] at hp6 htr kat4 kat5 ⊢
  rw [hxe] at kat4 kma
  rw [hye] at kat5 kma
  generalize aE p4=i4 at hcg4 kat4
  generalize aE p5=i5 at hcg5 kat5
  generalize n6=SL at kst hsl hst hAB
  refine aU hG0 Tryz.func35 rfl (by kernel_rfl) (by simp [Tryz.ntmps35]) (by simp only [inL,inR,hLt,Bool.true_and,Bool.and_true] at htr ⊢;exact htr) (by simp only [inR];exact hrt) ?_
  simp only [Tryz.ntmps35,aH,Nat.reduceAdd]
  
  refine jD ?_
  repeat' (first|(refine u'S ?_;simp only [wS,simprocAttr])|refine u'Q fun _ _=>?_|refine aO ?_|refine aP (fun hg=>?_) fun hg=>?_|refine bH hG0 (kst) (u'T ?_))
  refine aJ (α:={i:Nat // i≤3}) (fun i=>[(1,.sl false EL),(2,.ptr 0 0 0),(5,.sl true SL),(6,rv 1 (i.1 - 1) 10 (appL i.1)),(7,.int .i64 (i.1:Nat))]) (fun i=>[.cells 0 [.int .i64 ca,.int .i64 cb,.int .i64 cc,.sl false cd],rvR (i.1 - 1) (appL i.1)]) (fun i=>3 - i.1) ⟨0,Nat.zero_le _⟩ (bN [] (kp [0,1]) hG0 (fun r hr=>absurd hr (Nat.not_lt_zero r)) ?_ ?_ ?_) ?_
  ·simp only [wS,simprocAttr,cS,Frz,and_true,true_or,happ0,dS];try exact .toRsv
  ·simp only [List.all_cons,List.all_nil,Bool.and_true,Bool.and_eq_true,inR,aA hLt,aA hst,true_and,Nat.zero_sub];exact ⟨rfl,cH rfl⟩
  ·simp only [wS,simprocAttr,happ0,dM]
   simp only [ToH,and_true]
   exact kr rfl (aD htr) (by simp)
  ·rintro ⟨i,hi⟩ K hK
   try simp only at hi
   have happl':=happl i
   by_cases hlt:i<3
   ·have c1:decide (((i:Nat):Int)<3)=true:=by simp;omega
    have e3:=aL (k:=i) hlt (by omega)
    obtain ⟨hk11,hka⟩:=hkf' i hlt
    obtain ⟨hoA,hoB,nm,fa,fb,fc,fl,fd,pa,pb,pc,pl,pd,z,nm',fa',fb',fc',fl',fd',pa',pb',pc',pl',pd',z',ha,hb,hAi,hBi⟩:=hAB i hlt
    have hA:2*kf i<SL.length:=by omega
    have hB:2*kf i+1<SL.length:=by omega
    have w1:IntKind.i64.wrap (2*((kf i:Nat):Int))=((2*kf i:Nat):Int):=by rw [cB (by omega) (by omega)];omega
    have w2:IntKind.i64.wrap (((2*kf i:Nat):Int)+1)=((2*kf i+1:Nat):Int):=by rw [cB (by omega) (by omega)];omega
    have w3:IntKind.i64.wrap (2*((i:Nat):Int))=((2*i:Nat):Int):=by rw [cB (by omega) (by omega)];omega
    have w4:IntKind.i64.wrap (((2*i:Nat):Int)+1)=((2*i+1:Nat):Int):=by rw [cB (by omega) (by omega)];omega
    have htk:=happS i
    have hps:∀ e∈appL i,e.length=10:=fun e he=>(happO i (by omega) e he).1
    have hvv:i=if appL i=[] then 0 else i - 1+1:=by
     by_cases h0:appL i=[]
     ·rw [if_pos h0];rw [h0] at happl';simp at happl';omega
     ·rw [if_neg h0]
      have:i≠0:=fun hz=>h0 (by rw [hz];exact happ0)
      omega
    by_cases h10:kf i=10
    ·have h4:¬ kf i=4:=by omega
     have c4:(((kf i:Nat):Int)==4)=false:=by simp;omega
     have c10:(((kf i:Nat):Int)==10)=true:=by simp;omega
     simp only [h10,h4,if_true,if_false,reduceIte] at hAi hBi
     rw [hAi,hBi] at htk
     repeat' (first|(refine u'S ?_;simp only [wS,simprocAttr,c1,ha,hb,hA,hB,w1,w2,w3,w4,c4,c10,e3,Bool.not_true,Bool.not_false])|refine u'Q fun _ _=>?_|refine aO ?_|refine aP (fun hg=>?_) fun hg=>?_|refine bH hG0 (hka) (u'T ?_)|refine b8 (v':=i) (es:=[[.str nm,.int .i64 fa,.int .i64 fb,.int .i64 fc,.sl fl fd,.int .i64 pa,.int .i64 pb,.int .i64 pc,.sl pl pd,.int .i64 (-1)],[.str nm',.int .i64 fa',.int .i64 fb',.int .i64 fc',.sl fl' fd',.int .i64 pa',.int .i64 pb',.int .i64 pc',.sl pl' pd',.int .i64 (-1)]]) (by':=120) (by kernel_rfl) u'p hvv hps (by simp [cJ]) (by simp) (by rw [happl'];simp only [List.length_cons,List.length_nil];omega) (u'T ?_))
     refine hK.go ⟨i+1,hlt⟩ (Weak.ref ⟨?_,.inr ⟨by first|exact Nat.zero_le _|exact Nat.le_refl _|simp,?_,fun g cs hg=>aD (hG0 g cs hg),?_,?_⟩⟩) (by simp only;omega)
     ·simp only [wS,simprocAttr,Nat.add_sub_cancel,htk];try exact rfl
     ·simp only [wS,simprocAttr,Nat.add_sub_cancel,htk];try exact rfl
     ·intro z hz
      simp only [List.mem_cons,List.not_mem_nil,or_false] at hz
      rcases hz with rfl|rfl|rfl|rfl|rfl<;>first|rfl|(simp only [inR];first|exact aA hLt|exact aA hst|exact cH rfl)
     ·simp only [List.all_cons,List.all_nil,Bool.and_true,Bool.and_eq_true];try exact ⟨aD htr,bQ (aA (i6 (happO _ hlt)))⟩
    ·by_cases h4:kf i=4
     ·have c4:(((kf i:Nat):Int)==4)=true:=by simp;omega
      have c10:(((kf i:Nat):Int)==10)=false:=by simp;omega
      simp only [h10,h4,if_true,if_false,reduceIte] at hAi hBi
      rw [hAi,hBi] at htk
      repeat' (first|(refine u'S ?_;simp only [wS,simprocAttr,c1,ha,hb,hA,hB,w1,w2,w3,w4,c4,c10,e3,Bool.not_true,Bool.not_false])|refine u'Q fun _ _=>?_|refine aO ?_|refine aP (fun hg=>?_) fun hg=>?_|refine bH hG0 (hka) (u'T ?_)|refine b8 (v':=i) (es:=[[.str nm,.int .i64 fa,.int .i64 fb,.int .i64 fc,.sl fl fd,.int .i64 pa,.int .i64 pb,.int .i64 pc,.sl pl pd,.int .i64 (((2*i:Nat):Int))],[.str nm',.int .i64 fa',.int .i64 fb',.int .i64 fc',.sl fl' fd',.int .i64 pa',.int .i64 pb',.int .i64 pc',.sl pl' pd',.int .i64 (((2*i+1:Nat):Int))]]) (by':=120) (by kernel_rfl) u'p hvv hps (by simp [cJ]) (by simp) (by rw [happl'];simp only [List.length_cons,List.length_nil];omega) (u'T ?_))
      refine hK.go ⟨i+1,hlt⟩ (Weak.ref ⟨?_,.inr ⟨by first|exact Nat.zero_le _|exact Nat.le_refl _|simp,?_,fun g cs hg=>aD (hG0 g cs hg),?_,?_⟩⟩) (by simp only;omega)
      ·simp only [wS,simprocAttr,Nat.add_sub_cancel,htk];try exact rfl
      ·simp only [wS,simprocAttr,Nat.add_sub_cancel,htk];try exact rfl
      ·intro z hz
       simp only [List.mem_cons,List.not_mem_nil,or_false] at hz
       rcases hz with rfl|rfl|rfl|rfl|rfl<;>first|rfl|(simp only [inR];first|exact aA hLt|exact aA hst|exact cH rfl)
      ·simp only [List.all_cons,List.all_nil,Bool.and_true,Bool.and_eq_true];try exact ⟨aD htr,bQ (aA (i6 (happO _ hlt)))⟩
     ·have c4:(((kf i:Nat):Int)==4)=false:=by simp;omega
      have c10:(((kf i:Nat):Int)==10)=false:=by simp;omega
      simp only [h10,h4,if_true,if_false,reduceIte] at hAi hBi
      rw [hAi,hBi] at htk
      repeat' (first|(refine u'S ?_;simp only [wS,simprocAttr,c1,ha,hb,hA,hB,w1,w2,w3,w4,c4,c10,e3,Bool.not_true,Bool.not_false])|refine u'Q fun _ _=>?_|refine aO ?_|refine aP (fun hg=>?_) fun hg=>?_|refine bH hG0 (hka) (u'T ?_)|refine b8 (v':=i) (es:=[[.str nm,.int .i64 fa,.int .i64 fb,.int .i64 fc,.sl fl fd,.int .i64 pa,.int .i64 pb,.int .i64 pc,.sl pl pd,.int .i64 (IntKind.i64.wrap (IntKind.i64.wrap (((2*i:Nat):Int)+z) - ((2*kf i:Nat):Int)))],[.str nm',.int .i64 fa',.int .i64 fb',.int .i64 fc',.sl fl' fd',.int .i64 pa',.int .i64 pb',.int .i64 pc',.sl pl' pd',.int .i64 (IntKind.i64.wrap (IntKind.i64.wrap (((2*i:Nat):Int)+z') - ((2*kf i:Nat):Int)))]]) (by':=120) (by kernel_rfl) u'p hvv hps (by simp [cJ]) (by simp) (by rw [happl'];simp only [List.length_cons,List.length_nil];omega) (u'T ?_))
      refine hK.go ⟨i+1,hlt⟩ (Weak.ref ⟨?_,.inr ⟨by first|exact Nat.zero_le _|exact Nat.le_refl _|simp,?_,fun g cs hg=>aD (hG0 g cs hg),?_,?_⟩⟩) (by simp only;omega)
      ·simp only [wS,simprocAttr,Nat.add_sub_cancel,htk];try exact rfl
      ·simp only [wS,simprocAttr,Nat.add_sub_cancel,htk];try exact rfl
      ·intro z hz
       simp only [List.mem_cons,List.not_mem_nil,or_false] at hz
       rcases hz with rfl|rfl|rfl|rfl|rfl<;>first|rfl|(simp only [inR];first|exact aA hLt|exact aA hst|exact cH rfl)
      ·simp only [List.all_cons,List.all_nil,Bool.and_true,Bool.and_eq_true];try exact ⟨aD htr,bQ (aA (i6 (happO _ hlt)))⟩
   ·have c1:decide (((i:Nat):Int)<3)=false:=by simp;omega
    obtain rfl:i=3:=by omega
    have c3:(((q3:Nat):Int)==0)=false:=by simp;omega
    have hLtree:=i6 (happO 3 (by decide))
    have hp3:∀ e∈appL 3,e.length=10:=fun e he=>(happO 3 (by decide) e he).1
    repeat' (first|(refine u'S ?_;simp only [wS,simprocAttr,c1,c3,hcg4,hcg5,hq4,hq5,Bool.not_true,Bool.not_false])|refine u'Q fun _ _=>?_|refine aO ?_|refine aP (fun hg=>?_) fun hg=>?_|refine bH hG0 (ka3) (u'T ?_))
    refine ⟨_,bN [1] (kp []) (l:=[(4,.sl false (appL 3))]) (h:=[]) hG0 (fun r hr=>absurd hr (Nat.not_lt_zero r)) ?_ ?_ ?_,aB rfl ?_⟩
    ·simp only [wS,simprocAttr,cS,Frz,and_true,true_or]
     exact .inr (fB (v:=2) u'p (by simp) hp3 hLtree)
    ·simp only [List.all_cons,List.all_nil,Bool.and_true,inR];exact aA hLtree
    ·simp only [wS,simprocAttr]
     simp only [ToH,and_true]
     refine ⟨?_,?_⟩<;>rfl
    ·simp only [wS,simprocAttr]
     rw [AM.wk,dI,hO1]
end Go.Proofs.YtggflhbigolakaaGreatDoor
