import Derived.Test.YtggflhbigolakaaGreatDoorEK
set_option linter.unusedSimpArgs false
namespace Go.Proofs.YtggflhbigolakaaGreatDoor
open Go.AM
attribute [local irreducible] cG bG bI bL bW bZ aQ aV bN
set_option maxRecDepth 100000
theorem r8 {P:Program} {fn:Func} {Rp:AV->AS->Prop} {s:AS} {t u:Tmp} {ty ty':TypeId} {v w:AV} (h:fn.results= #[.cell t ty,.cell u ty']) (hl:iC P ty (s.get t) s.row=some v) (hl':iC P ty' (s.get u) s.row=some w) (hR:Rp (.tup [v,w]) s):eR P fn Rp .ret s:=⟨_,by simp [dF,fF,kC,h,hl,hl'],hR⟩
def fI (f:List Si->ByteArray) (S:List Si):Nat->List ByteArray × List (List Si)
 |0=>([],[])
 |i+1=>kB f (d9 (i+1) S []) (fI f S i)
set_option maxHeartbeats 16000000 in
theorem W7 [rd:i6] {b:Nat} (hround:rd.round=none) (hbase:rd.base=some b) (c:T) (hc:T.size c<=1000000000) (O:List hI) (hO:∀ o∈O,wJ o) (S:List Si) (od:Nat) (hod:od<=3) (f:List Si->ByteArray) (SS:List (List AV))
  (ks:Pure Tryz.prog G0 33 [.agg (T.enc c),.sl false (O.map eE)] (.sl false SS)) (kl:Pure Tryz.prog G0 52 [.agg (T.enc c),.sl false (O.map eE),.sl false SS] (.sl false (mC S)))
  (hsl:S.length<=1000000) (hsp:∀ s∈S,s.1.length<=1000000000)
  (hf:∀ i,i<od->∀ m∈d9 (i+1) S [],f m=T.key (oP c O m))
  (hL:∀ i,i<od->∀ m∈d9 (i+1) S [],T.size (oP c O m)<=500000000000/\T.rg (oP c O m)/\m.length<=1000/\∀ s∈m,s.1.length<=1000000000)
  (hb:∀ i,i<od->(fI f S i).2.length+(d9 (i+1) S []).length<=511)
  {cd:Code} (hcd:Tryz.f20.body=some cd) (Q:Exit->AS->Prop)
  (hQ:∀ s:AS,s.get 6=.ptr 2 0 0->s.get 7=.ptr 3 0 0->s.row 2=.cells 0 [.sl false (fV (fI f S od).2)]->s.row 3=.cells 0 [.int .i64 0]->Q .ret s):
  cG Tryz.prog G0 61 0 cd (fun e s=>∃ s',Ref G0 61 0 s s'/\Q e s') ⟨eJ (aK 0 [.agg (T.enc c),.sl false (O.map eE),.int .i64 (od:Nat)]),[]⟩:=by
 simp only [Tryz.f20,ao] at hcd
 subst hcd
 have hct:=T.enc_tree c
 have hOt:=dH O
 have hst:=cX S
 have kch:=fun i=>R8 (i+1) S
 have htk:∀ i,i<od->_:=fun i hi=>RH c hc O hO S od i (i+1) f (d9 (i+1) S []) (fI f S i) (hf i hi) (hL i hi) (hb i hi)
 obtain ⟨ck,cn,cm,ce⟩:=c
 have hce:T.enc (.mk ck cn cm ce)=[.int .i64 ck,.int .i64 cn,.int .i64 cm,.sl false (T.encs ce)]:=rfl
 rw [hce] at ks kl hct ⊢
 have hct':cQ aE (T.encs ce)=true:=by simpa only [aP,aI,ac,ab] using hct
 have c0:decide ((od:Int)<0)=false:=by rw [decide_eq_false_iff_not];omega
 have c3:decide ((3:Int)<(od:Int))=false:=by rw [decide_eq_false_iff_not];omega
 simp only [aK,Nat.reduceAdd]
 refine dM (bF c0 c3)
 refine cK (cA [0,1] (kp [2,3,4,5,6]) (l:=[(3,.imm [.int .i64 ck,.int .i64 cn,.int .i64 cm,.sl false (T.encs ce)]),(4,.imm [.sl false (O.map eE)]),(6,.ptr 2 0 0),(7,.ptr 3 0 0),(8,.sl false (mC S)),(9,.ptr 5 0 0),(10,.ptr 6 0 0),(29,.int .i64 (od:Nat)),(30,.int .i64 0)]) (h:=[.none,.none,.cells 0 [.sl true []],.cells 0 [.int .i64 0],.map [] [],.cells 0 [.omp 4],.cells 0 [.sl true []]]) bX (fun r hr=>absurd hr (bm r)) ?_ ?_ ?_) ?_
 .simp only [wS,simprocAttr,dL,iD,and_true,true_or]
  exact ⟨(.ptr (cs:=[.int .i64 ck,.int .i64 cn,.int .i64 cm,.sl false (T.encs ce)]) (by simp) (by (simp only [wS,simprocAttr,aU];try exact rfl)) (.cons (.same rfl) (.cons (.same rfl) (.cons (.same rfl) (.cons (.same (by simp only [aI];exact hct')) .nil))))),(.ptr (cs:=[.sl false (O.map eE)]) (by simp) (by (simp only [wS,simprocAttr,aU];try exact rfl)) (.cons (.same (by simp only [aI];exact hOt)) .nil))⟩
 .simp only [bg,bz,ab,aI,aP,ac,ae];exact ⟨aB hct',aB hOt,rfl,rfl,aB hst,rfl,rfl⟩
 .refine aA
  simp only [hY,and_true]
  exact ⟨.inl rfl,.inl rfl,kr rfl rfl (by simp),kr rfl rfl (by simp),kr rfl rfl (by simp),kr rfl rfl (by simp),kr rfl rfl (by simp)⟩
 refine aJ (α:={i:Nat // i<=od}) (fun i=>[(3,.imm [.int .i64 ck,.int .i64 cn,.int .i64 cm,.sl false (T.encs ce)]),(4,.imm [.sl false (O.map eE)]),(6,.ptr 2 0 0),(7,.ptr 3 0 0),(8,.sl false (mC S)),(9,.ptr 5 0 0),(10,.ptr 6 0 0),(29,.int .i64 (od:Nat)),(30,.int .i64 (i.1:Nat))]) (fun i=>[eX ((fI f S i.1).2.length - 1) (fV (fI f S i.1).2),.none,.cells 0 [.sl true []],.cells 0 [.int .i64 0],.map (kS (fI f S i.1).1) (vS (fI f S i.1).1),.cells 0 [.omp 4],.cells 0 [rv 0 ((fI f S i.1).2.length - 1) 1 (fV (fI f S i.1).2)]]) (fun i=>od - i.1) ⟨0,az _⟩ (cA [] (kp [0,2,3,4,5,6]) bX (fun r hr=>absurd hr (bm r)) ?_ ?_ ?_) ?_
 .simp only [wS,simprocAttr,dL,iD,and_true,true_or]
 .simp only [bg,bz,ab,aI,aP,ac,ae];exact ⟨aB hct',aB hOt,rfl,rfl,aB hst,rfl,rfl⟩
 .simp only [wS,simprocAttr,fI,fV,bu,eG,eI,kS,vS]
  simp only [hY,and_true]
  exact ⟨.inr ⟨rfl,rfl,.inr ⟨.inl (by simp),.inl rfl⟩⟩,.inl rfl,kr rfl rfl (by simp),kr rfl rfl (by simp),kr rfl rfl (by simp),kr rfl rfl (by simp),.inr ⟨rfl,rfl,.inr ⟨.inl (by simp),.inr ⟨0,_,_,rfl,rfl,.inr .toRsv,trivial⟩⟩⟩⟩
 .rintro ⟨i,hi⟩ K hK
  try simp only at hi
  by_cases hlt:i<od
  .have c1:decide ((i:Int)<(od:Int))=true:=by simp;omega
   have e3:=aO (k:=i) hlt (by omega)
   have key:=aCw (htk i hlt) (i+1) (by omega) S hsl hsp (ap _) (fun j m h=>by rw [bc,h];rfl)
   rw [jn (Nat.le_succ _)] at key
   have kc:=kch i
   refine c7 (bF c1 e3)
   refine cK (cA [] (kp [0,2,3,4,5,6]) (l:=[(3,.imm [.int .i64 ck,.int .i64 cn,.int .i64 cm,.sl false (T.encs ce)]),(4,.imm [.sl false (O.map eE)]),(6,.ptr 2 0 0),(7,.ptr 3 0 0),(8,.sl false (mC S)),(9,.ptr 5 0 0),(10,.ptr 6 0 0),(29,.int .i64 (od:Nat)),(30,.int .i64 (i:Nat)),(36,.fn (.func 86) [] [.imm [.int .i64 ((i+1:Nat):Nat)],.imm [.sl false (mC S)]])]) (h:=[eX ((fI f S i).2.length - 1) (fV (fI f S i).2),.none,.cells 0 [.sl true []],.cells 0 [.int .i64 0],.map (kS (fI f S i).1) (vS (fI f S i).1),.cells 0 [.omp 4],.cells 0 [rv 0 ((fI f S i).2.length - 1) 1 (fV (fI f S i).2)]]) bX (fun r hr=>absurd hr (bm r)) ?_ ?_ ?_) ?_
   .simp only [wS,simprocAttr,dL,iD,and_true,true_or]
   .simp only [bg,bz,ab,aI,aP,ac,ae];exact ⟨aB hct',aB hOt,rfl,rfl,aB hst,rfl,rfl,aB hst⟩
   .refine aA
    simp only [hY,and_true]
    exact ⟨kr rfl (bA (aB (cS _))) (by simp),.inl rfl,kr rfl rfl (by simp),kr rfl rfl (by simp),kr rfl (by simp only [aG,ae];exact ⟨bE (iV _),bE (iQ _)⟩) (by simp),kr rfl rfl (by simp),kr rfl (by simp only [aG,aP,ab];exact bU rfl) (by simp)⟩
   refine iB (first:=[]) (cap:=[.imm [.int .i64 ((i+1:Nat):Nat)],.imm [.sl false (mC S)]]) hround hbase ?hg (key _ ?hr) (.inl ⟨(List.range 61).map fun t=>(eJ [(3,.imm [.int .i64 ck,.int .i64 cn,.int .i64 cm,.sl false (T.encs ce)]),(4,.imm [.sl false (O.map eE)]),(6,.ptr 2 0 0),(7,.ptr 3 0 0),(8,.sl false (mC S)),(9,.ptr 5 0 0),(10,.ptr 6 0 0),(29,.int .i64 (od:Nat)),(30,.int .i64 (i:Nat)),(36,.fn (.func 86) [] [.imm [.int .i64 ((i+1:Nat):Nat)],.imm [.sl false (mC S)]])]).getD t .undef,XW.1,XW.2.1,XW.2.2,?hl,?hk⟩)
   case hg=>refine aA
   case hr=>
    intro r hr
    have:r=0\/r=1\/r=2\/r=3\/r=4\/r=5\/r=6\/r=7:=by omega
    rcases this with rfl|rfl|rfl|rfl|rfl|rfl|rfl|rfl<;>rfl
   case hl=>rfl
   case hk=>
   simp only [wS,simprocAttr,oI,AA,bi]
   refine aR e3
   refine hK.go ⟨i+1,hlt⟩ aX (by simp only;omega)
   .exact aZ
   .simp only [wS,simprocAttr,fI];try exact rfl
   .intro z hz
    replace hz:=aC hz
    rcases hz with rfl|rfl|rfl|rfl|rfl|rfl|rfl|rfl|rfl<;>first|rfl|(simp only [aI,aP,ab,ac];first|exact aB hct'|exact aB hOt|exact aB hst)
   .refine aS;try exact ⟨bA (aB (cS _)),rfl,rfl,rfl,by simp only [aG,ae];exact ⟨bE (iV _),bE (iQ _)⟩,rfl,by simp only [aG,aP,ab];exact bU rfl⟩
  .have c1:decide ((i:Int)<(od:Int))=false:=by rw [decide_eq_false_iff_not];omega
   obtain rfl:i=od:=by omega
   refine cP c1
   refine Cont.go (by assumption) ?_
   refine cP c1
   refine Cont.go (by assumption) (cK (cA [0] (kp [2,3,6]) (l:=[(6,.ptr 2 0 0),(7,.ptr 3 0 0),(10,.ptr 6 0 0)]) (h:=[.none,.none,.cells 0 [.sl true []],.cells 0 [.int .i64 0],.none,.none,.cells 0 [.sl false (fV (fI f S i).2)]]) bX (fun r hr=>absurd hr (bm r)) ?_ ?_ ?_) ?_)
   .simp only [wS,simprocAttr,dL,iD,and_true,true_or]
   .rfl
   .refine aA
    simp only [hY,and_true]
    exact ⟨.inl rfl,.inl rfl,kr rfl rfl (by simp),kr rfl rfl (by simp),.inl rfl,.inl rfl,.inr ⟨rfl,by simp only [aG,aP,aI,ab];exact aB (cS _),.inr ⟨.inl (by simp),.inr ⟨0,_,_,rfl,rfl,.inr (eA (v:=(fI f S i).2.length - 1) rfl (by simp) (uR _) (cS _)),trivial⟩⟩⟩⟩
   refine aF
   refine ⟨_,mQ,hQ _ ?_ ?_ ?_ ?_⟩<;>(refine aA;try exact rfl)
set_option maxHeartbeats 8000000 in
theorem aAR (c:T) (hc:T.size c<=1000000000) (O:List hI) (hO:∀ o∈O,wJ o) (S:List Si) (od:Nat) (hod:od<=3) (f:List Si->ByteArray) (SS:List (List AV))
  (ks:Pure Tryz.prog G0 33 [.agg (T.enc c),.sl false (O.map eE)] (.sl false SS)) (kl:Pure Tryz.prog G0 52 [.agg (T.enc c),.sl false (O.map eE),.sl false SS] (.sl false (mC S)))
  (hsl:S.length<=1000000) (hsp:∀ s∈S,s.1.length<=1000000000)
  (hf:∀ i,i<od->∀ m∈d9 (i+1) S [],f m=T.key (oP c O m))
  (hL:∀ i,i<od->∀ m∈d9 (i+1) S [],T.size (oP c O m)<=500000000000/\T.rg (oP c O m)/\m.length<=1000/\∀ s∈m,s.1.length<=1000000000)
  (hb:∀ i,i<od->(fI f S i).2.length+(d9 (i+1) S []).length<=511):
  Pure Tryz.prog G0 20 [.agg (T.enc c),.sl false (O.map eE),.int .i64 (od:Nat)] (.tup [.sl false (fV (fI f S od).2),.int .i64 0]):=by
 have hO':=cS (fI f S od).2
 refine ⟨by simp only [aI,aP,ab];exact hO',fun rows=>?_⟩
 refine lH (H:=[]) ⟨bX,by simp,fun r _=>by simp,by simp,by simp⟩ Tryz.func20 rfl (by kernel_rfl) (by simp [Tryz.ntmps20]) ?_ (by simp) fun b=>?_
 .simp only [aP,aI,ab,ae]
  exact ⟨bE (T.enc_tree c),aB (dH O)⟩
 refine @jH ⟨none,some b⟩ _ _ _ _ _ _ _ ?_
 refine @W7 ⟨none,some b⟩ b rfl rfl c hc O hO S od hod f SS ks kl hsl hsp hf hL hb _ rfl _ fun s h6 h7 h2 h3=>?_
 refine r8 (v:=.sl false (fV (fI f S od).2)) (w:=.int .i64 0) rfl ?_ ?_ ?_
 .rw [h6];simp [iC,aU,h2];try exact rfl
 .rw [h7];simp [iC,aU,h3];try exact rfl
 refine ⟨rfl,?_,fun r hr=>by cases hr⟩
 simp only [aI,aP,ab]
 exact aB hO'
end Go.Proofs.YtggflhbigolakaaGreatDoor
