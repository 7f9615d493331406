import Derived.Test.YtggflhbigolakaaGreatDoorEV
import Derived.Test.YtggflhbigolakaaGreatDoorEO
import Derived.Test.YtggflhbigolakaaGreatDoorUR
import Derived.Test.YtggflhbigolakaaGreatDoorM1
import Derived.ProofKit
import Derived.SizedLaws
import Derived.OpenShut
import Derived.LaidMore
import Derived.Lay
import Derived.Stop.Joined
set_option linter.unusedSimpArgs false
namespace Go.Proofs.YtggflhbigolakaaGreatDoor
open Go.AM
attribute [local irreducible] cG bG bI bL bW bZ aQ aV bN
set_option maxRecDepth 100000
theorem VO:HE 1 14=14/\HE 2 14=91/\HE 3 14=364:=by decide
theorem B2 (S:List Si) (n:Nat) (m:List Si) (h:m∈d9 n S []):m.length=n/\∀ s∈m,s∈S:=by
 rw [<- wR] at h
 obtain ⟨p,hp,rfl⟩:=cf.1 h
 exact ⟨(G3 S n p hp).1,(G3 S n p hp).2.1⟩
theorem WA (f:List Si->ByteArray) (S:List Si) (hS:S.length<=14):(fI f S 0).2.length<=0/\(fI f S 1).2.length<=14/\(fI f S 2).2.length<=105/\(fI f S 3).2.length<=469:=by
 obtain ⟨h1,h2,h3⟩:=VO
 have hc:=fun n=>dj (pX S n [] (az _)) (N7 (k:=n - 0) hS)
 have e0:(fI f S 0).2.length<=0:=ap _
 have e1:=tT f (d9 1 S []) (fI f S 0)
 have e2:=tT f (d9 2 S []) (fI f S 1)
 have e3:=tT f (d9 3 S []) (fI f S 2)
 have c1:=hc 1
 have c2:=hc 2
 have c3:=hc 3
 simp only [dm,h1,h2,h3,ak] at c1 c2 c3
 have g1:fI f S 1=kB f (d9 1 S []) (fI f S 0):=rfl
 have g2:fI f S 2=kB f (d9 2 S []) (fI f S 1):=rfl
 have g3:fI f S 3=kB f (d9 3 S []) (fI f S 2):=rfl
 rw [<- g1] at e1
 rw [<- g2] at e2
 rw [<- g3] at e3
 exact ⟨e0,by omega,by omega,by omega⟩
theorem QX (f:Si->ByteArray) (l:List Si):(∀ s∈iH f l [] [],s∈l)/\(iH f l [] []).length<=l.length:=by
 have h1:=z4 f l [] []
 have h2:=rX f l [] []
 refine ⟨fun s hs=>?_,?_⟩
 .rw [<- h2] at hs
  obtain ⟨p,hp,rfl⟩:=cf.1 hs
  rw [<- h1]
  exact cf.2 ⟨p,(List.mem_filter.1 hp).1,rfl⟩
 .rw [<- h2,bp]
  have:=List.length_filter_le (fun x:Si × Bool=>x.2) (oK f l [] [])
  have h3:=congrArg List.length h1
  rw [bp] at h3
  omega
theorem aCD (c:T) (hc:T.size c<=250) (hr:T.rg c) (O:List hI) (hO7:O.length<=7) (hO:∀ o∈O,wJ o) (h14:(eZ c O).length<=14) (x:Int):WM (T.enc c) (O.map eE) x:=by
 by_cases hx:x<0\/3<x
 .have k1:=aAQ (T.enc c) (T.enc_tree c) (aN c) (O.map eE) (dH O) x hx
  have k2:=aAw (T.enc c) (T.enc_tree c) (aN c) (O.map eE) (dH O) x hx
  exact ⟨true,[],5,rfl,k1,k2,x9 true [] (by simp) (fun m h=>by cases h)⟩
 .obtain ⟨od,rfl⟩:∃ od:Nat,x=(od:Int):=⟨x.toNat,by omega⟩
  have hod:od<=3:=by omega
  obtain ⟨LR,hLR⟩:∃ LR,LR=(eZ c O).map siA:=⟨_,rfl⟩
  have hLl:LR.length<=14:=by rw [hLR,bp];exact h14
  have ks:=XJ c (by omega) false O (fun o ho=>⟨by have:=(hO o ho).1.1;omega,by have:=(hO o ho).1.2;omega⟩) (by omega)
  have kr:=IM c (by omega) false O (fun o ho=>(hO o ho).1) (by omega)
  rw [aCF,<- hLR] at ks kr
  have hLs:∀ s∈LR,∃ x∈eZ c O,s=siA x:=fun s h=>by
   rw [hLR] at h
   obtain ⟨y,h1,rfl⟩:=cf.1 h
   exact ⟨y,h1,rfl⟩
  have hLp:∀ s∈LR,s.1.length<=1000000000:=fun s h=>by
   obtain ⟨y,h1,rfl⟩:=hLs s h
   have:=M1 c O y h1
   show y.1.length<=_
   omega
  have hxr:=fun s=>ZW hc hr hO s
  have hmr:=fun M=>aAV hc hr hO M
  have kl:=YI c (by omega) hr O hO LR (by omega) hLp (fun s _=>⟨by have:=(hxr s).1;omega,(hxr s).2⟩)
  obtain ⟨f,hf⟩:∃ f:Si->ByteArray,f=fun s=>T.key (HB c O s):=⟨_,rfl⟩
  obtain ⟨F,hF⟩:∃ F:List Si->ByteArray,F=fun m=>T.key (oP c O m):=⟨_,rfl⟩
  rw [<- hf] at kl
  obtain ⟨hm1,hm2⟩:=QX f LR
  obtain ⟨S,hS⟩:∃ S,S=iH f LR [] []:=⟨_,rfl⟩
  rw [<- hS] at kl hm1 hm2
  have hcong:∀ X s t r,s∈LR->t∈LR->t.1=s.1->f t=f s->F (X++s::r)=F (X++t::r):=fun X s t r hs ht h1 h2=>by
   obtain ⟨_,_,_,us,_,_,_,_,e1⟩:=x6 (hLs s hs)
   obtain ⟨_,_,_,ut,_,_,_,_,e2⟩:=x6 (hLs t ht)
   have x1:HB c O s=us:=by rw [HB,e1]
   have x2:HB c O t=ut:=by rw [HB,e2]
   have q1:=hxr s
   have q2:=hxr t
   rw [hf] at h2
   have h3:HB c O t=HB c O s:=T.key_inj q2.2 q1.2 (by omega) (by omega) h2
   have h4:fK c O t=fK c O s:=by rw [e1,e2,<- x1,<- x2,h3]
   rw [hF]
   show T.key (oP c O _)=T.key (oP c O _)
   rw [UC h1 h4 X r]
  have heq:∀ i,fI F S i=jD F LR i:=fun i=>by
   induction i with
   |zero=>rfl
   |succ i ih=>
    rw [fI,jD,ih,wR,hS]
    exact VJ F f LR hcong (i+1) _
  have hlen:=WA F S (by omega)
  obtain ⟨h1,h2,h3⟩:=VO
  have hcS:=fun n=>dj (pX S n [] (az _)) (N7 (k:=n - 0) (show S.length<=14 by omega))
  have hcL:=fun n=>dj (pX LR n [] (az _)) (N7 (k:=n - 0) hLl)
  have k1:=aAR c (by omega) O hO S od hod F (mC LR) ks kl (by omega) (fun s hs=>hLp s (hm1 s hs)) (fun i _ m _=>by rw [hF]) (fun i hi m hm=>by
   obtain ⟨g1,g2⟩:=B2 S _ m hm
   exact ⟨by have:=(hmr m).1;omega,(hmr m).2,by omega,fun s hs=>hLp s (hm1 s (g2 s hs))⟩) (fun i hi=>by
   have:=hcS (i+1)
   obtain rfl|rfl|rfl:i=0\/i=1\/i=2:=by omega
   all_goals (simp only [Nat.reduceAdd,dm,ak,h1,h2,h3,cp] at this ⊢;omega))
  have hlL:∀ n,(lv LR n).length=(d9 n LR []).length:=fun n=>by rw [<- wR,bp]
  have k2:=aAx c (by omega) O hO LR od hod F kr (by omega) hLp (fun n hn=>by
   rw [hlL n]
   have:=hcL n
   obtain rfl|rfl|rfl|rfl:n=0\/n=1\/n=2\/n=3:=by omega
   all_goals (simp only [dm,ak,h1,h2,h3,HE] at this;omega)) (fun i _ m _=>by rw [hF]) (fun i hi m hm=>by
   rw [wR] at hm
   obtain ⟨g1,g2⟩:=B2 LR _ m hm
   exact ⟨by have:=(hmr m).1;omega,(hmr m).2,by omega,fun s hs=>hLp s (g2 s hs)⟩) (fun i hi=>by
   rw [<- heq i]
   obtain rfl|rfl|rfl|rfl:i=0\/i=1\/i=2\/i=3:=by omega
   all_goals omega)
  rw [<- heq od] at k2
  have hall : ∀ i, i <= 3 -> ∀ m ∈ (fI F S i).2, m.length <= 3 /\ ∀ s ∈ m, s.1.length <= 1000000000 := by
   have step:∀ (l:List (List Si)) (a:List ByteArray × List (List Si)),∀ m∈(kB F l a).2,m∈a.2\/m∈l:=by
    intro l
    induction l with
    |nil=>intro a m hm;exact .inl hm
    |cons y l ih=>
     intro a m hm
     rw [tU] at hm
     rcases ih _ m hm with hm|hm
     .rw [HD] at hm
      split at hm
      .exact .inl hm
      .rcases bo.1 hm with hm|hm
       .exact .inl hm
       .rw [bd.1 hm];exact .inr (by simp)
     .exact .inr (by simp [hm])
   intro i
   induction i with
   |zero=>intro _ m hm;cases hm
   |succ i ih=>
    intro hi m hm
    rw [fI] at hm
    rcases step _ _ m hm with hm|hm
    .exact ih (by omega) m hm
    .obtain ⟨g1,g2⟩:=B2 S _ m hm
     exact ⟨by omega,fun s hs=>hLp s (hm1 s (g2 s hs))⟩
  refine ⟨false,fV (fI F S od).2,0,cS _,k1,k2,x9 false _ ?_ fun m hm=>⟨by have:=(hall od hod m hm).1;omega,fun s hs=>by have:=(hall od hod m hm).2 s hs;omega⟩⟩
  obtain rfl|rfl|rfl|rfl:od=0\/od=1\/od=2\/od=3:=by omega
  all_goals omega
theorem FX (hlv:Pure Tryz.prog G0 16 [] (.bool true)) (l m:List Int) (n:Int) (hl:∀ x∈l,bR x) (hm:∀ x∈m,bR x) (hn:bR n):Pure Tryz.prog G0 5 [cY l,cY m,.int .i64 n] (.bool true):=by
 obtain ⟨c,O,klab,hc,hr,hO7,hOB,h14⟩:=aCm l m hl hm
 have hx:=aCD c hc hr O hO7 hOB h14
 have htc:=T.enc_tree c
 obtain ⟨ca,cb,cc,cd,hce⟩:=aN c
 rw [hce] at klab hx htc
 exact W9 hlv l m n (pS n 4) ca cb cc cd (O.map eE) (by simpa only [aP,aI,ab,ac] using htc) (dH O) klab (ED n 4 hn (by decide)) hx
theorem BO (l m:List Int) (n:Int) (hl:∀ x∈l,bR x) (hm:∀ x∈m,bR x) (hn:bR n):Pure Tryz.prog G0 5 [cY l,cY m,.int .i64 n] (.bool true):=FX UG l m n hl hm hn
open Go.ChangeShapes Go.WideShapes Go.ChangeAt Go.RowKit
theorem rV {W:World} (_:laidMetH Tryz.prog Rows.mutantAllRow.laid W):Inv G0 (E0 W):=GC fun g cs hg=>by cases hg
theorem BN (os:Os):laidMetH Tryz.prog Rows.mutantAllRow.laid ((World.laidAll Tryz.prog os Rows.mutantAllRow.laid).forCall (fun _ _=>0) ⟨#[], #[.slice none 0 0,.slice none 0 0,.int .i64 0],[]⟩).memory:=by
 rw [MakeChecks.laidMetH_plain _ _ _ (by kernel_rfl)]
 exact laidMet_laidAll _ (by kernel_rfl) (by kernel_rfl)
theorem uP (os:Os) (started:os.Started) (H:Type) (enc:TypeId × Value->H):
  ReturnsInHanded {} Tryz.checked os 5 .any (fun w args=>(Rows.mutantAllSpec.pre enc Tryz.prog Tryz.f5 [] false w args/\laidMetH Tryz.prog Rows.mutantAllRow.laid w)/\sizedMet enc Tryz.prog Tryz.f5 (OpenSpec.ofChange Rows.mutantAllSpec) false w args)
   (Rows.mutantAllSpec.post enc Tryz.prog Tryz.f5 false true false false):=by
 refine returnsInHanded_of_change_and (C:=Tryz.checked) (X:=fun w _=>laidMetH Tryz.prog Rows.mutantAllRow.laid w) (fun _ _ _ hh h=>h.of_heap hh) aCZ started (by kernel_rfl) Tryz.func5
  (ChangeSpec.witness_shaped (enc:=enc) (C:=Tryz.checked) (os:=os) (X:=fun w _=>laidMetH Tryz.prog Rows.mutantAllRow.laid w) false (World.laidAll Tryz.prog os Rows.mutantAllRow.laid) #[.slice none 0 0,.slice none 0 0,.int .i64 0] 8 (World.laidAll_os _ _ _) (World.shaped_of_ZipB (by kernel_rfl) (by kernel_rfl)) (by kernel_rfl) (by kernel_rfl) (by kernel_rfl) (BN os)) ?_
 intro W base args ds gs before hval0 hW _ hsz0 hL _
 have hsz:(DataW.weightsEach Tryz.prog (Tryz.f5.params.toList++Rows.mutantAllSpec.plain.varTypes Tryz.prog) (ds++gs)).all (·<=reachBytes)=true:=hsz0
 clear hsz0
 have hval:∀ (j:Nat) t v,Tryz.f5.params[j]? =some t->args[j]? =some v->Value.okWide Tryz.prog W .any base t v:=hval0
 have hW':=hW
 obtain ⟨p,q,hA0,hV,rfl,_,_⟩:=hW
 have hA:DataW.TrodAll enc Tryz.prog W 0 (fun _=>true) true Tryz.f5.params.toList args.toList ds p:=hA0
 rw [Tryz.params5] at hA hval hsz
 obtain ⟨arr⟩:=args
 simp only at hA
 obtain ⟨v0,r0,d0,e0,p0,q0,h0,rfl,rfl,g0,hA0⟩:=trodAll_cons hA
 obtain ⟨v1,r1,d1,e1,p1,q1,h1,rfl,rfl,g1,hA1⟩:=trodAll_cons hA0
 obtain ⟨v2,r2,d2,e2,p2,q2,h2,rfl,rfl,g2,hA2⟩:=trodAll_cons hA1
 obtain ⟨h3,rfl,rfl⟩:=trodAll_nil hA2
 subst h3 h2 h1 h0
 obtain ⟨rfl,rfl⟩:=trodVars_none hV
 have b0:∀ x∈p0,x.block<W.heap.size:=fun x hx=>by simpa using hW'.lt x (by simp [hx])
 obtain ⟨l0,a0,s0,z0⟩:=IU hsz (j:=0) rfl rfl (hval 0 22 v0 rfl rfl) g0 b0
 have b1:∀ x∈p1,x.block<W.heap.size:=fun x hx=>by simpa using hW'.lt x (by simp [hx])
 obtain ⟨l1,a1,s1,z1⟩:=IU hsz (j:=1) rfl rfl (hval 1 22 v1 rfl rfl) g1 b1
 obtain ⟨n2,rfl,rfl,rfl,w2⟩:=open_int Tryz.underlying3 (hval 2 3 v2 rfl rfl) g2
 clear hA0 hval0
 refine (YJ (us:=[v0,v1,.int .i64 n2]) (BO l0 l1 n2 s0 s1 (HI w2)) (rV hL) (by simp only [RelL];exact ⟨_,_,rfl,a0,⟨_,_,rfl,a1,⟨_,_,rfl,XY,rfl⟩⟩⟩)).mono fun e W' ⟨he,hb⟩=>?_
 subst he
 exact ⟨_,rfl,_,_,_,[],_,[],hW',trodAll_mk1 (shut_bool Tryz.underlying4 true),(trodAll_cons_mk (Below.trod Tryz.laidOut (by kernel_rfl) (of_decide_eq_true (by kernel_rfl)) g0 hb b0) (trodAll_cons_mk (Below.trod Tryz.laidOut (by kernel_rfl) (of_decide_eq_true (by kernel_rfl)) g1 hb b1) (trodAll_cons_mk (shut_int Tryz.underlying3 w2) (xD)))),rfl,hb.frame _,fun h=>by cases h⟩
theorem wA:Rows.MutantAllSaid:=
 OpenClaim.holds_of_wide 5 Tryz.f5 rfl rfl rfl rfl rfl rfl rfl ⟨rfl,rfl,rfl,rfl,rfl⟩ rfl rfl rfl rfl rfl (by kernel_rfl) Tryz.func5 (by kernel_rfl)
  (of_decide_eq_true (by kernel_rfl)) (by unfold Func.isWrapper;first|(rw [if_pos (by decide +kernel)];kernel_rfl)|(rw [if_neg (by decide +kernel)];exact ⟨rfl,rfl⟩))
  (fun os started H enc _=>uP os started H enc)
end Go.Proofs.YtggflhbigolakaaGreatDoor
