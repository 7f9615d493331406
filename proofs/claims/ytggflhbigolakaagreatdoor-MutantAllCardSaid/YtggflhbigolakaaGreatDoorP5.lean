import Derived.Test.YtggflhbigolakaaGreatDoorP4
set_option linter.unusedSimpArgs false
namespace Go.Proofs.YtggflhbigolakaaGreatDoor
open Go.AM
attribute [local irreducible] cG bG bI bL bW bZ aQ aV bN
set_option maxRecDepth 100000
theorem YP (c0:List AV) (hc0:aP aE c0=true) (c:List AV) (hc:aP aE c=true) (qs:List (List Int)):([R0 qs,LP c0,.cells 0 [.yld 1],.cells 0 [.fn (.func 124) [] [.ptr 2 0 0,.ptr 3 0 0]],.dead,.cells 0 c,R6 qs]:List ARow).all (aG fun r=>decide (r<7))=true:=by
 have m:∀ x:List AV,aP aE x=true->aP (fun r=>decide (r<7)) x=true:=fun x=>b7 (p:=aE) (fun r hr=>by cases hr)
 refine aS
 exact ⟨qA rfl,lZ hc0 rfl,rfl,rfl,rfl,m _ hc,oN⟩
set_option maxHeartbeats 4000000 in
theorem WW {D:Nat} (c0:List AV) (hc0:aP aE c0=true) (c:T) (hc:T.size c<=D+1) (hD:D+1<=1000000000000) (hlen:(fM [] c).length<=4398046511104) (rows:Nat->ARow)
  (h0:rows 0=R0 []) (h1:rows 1=LP c0) (h2:rows 2=.cells 0 [.yld 1]) (h3:rows 3=.cells 0 [.fn (.func 124) [] [.ptr 2 0 0,.ptr 3 0 0]]) (h6:rows 6=.none):
  c8 Tryz.prog G0 124 [.agg (T.enc c),.sl true [],.ptr 2 0 0,.ptr 3 0 0] rows [0,1,2,3,6] ⟨.bool true,[(0,R0 (fM [] c)),(6,R6 (fM [] c))]⟩:=by
 have hctree:=T.enc_tree c
 obtain ⟨kk,nn,mm,ks⟩:=c
 rw [T.enc] at hctree ⊢
 have hEt:=T.encs_tree ks
 have hgt:=fun (i:Nat) (e:T)=>T.encs_get (es:=ks) (i:=i) (e:=e)
 have hln:=T.encs_len ks
 have hls:=T.len_sizes ks
 simp only [T.size] at hc
 generalize hEE:T.encs ks=EE at hctree hEt hgt hln ⊢
 rw [wL] at hlen ⊢
 simp only [af] at hlen
 refine bT [R0 [],LP c0,.cells 0 [.yld 1],.cells 0 [.fn (.func 124) [] [.ptr 2 0 0,.ptr 3 0 0]],.dead] bX Tryz.func124 rfl (by kernel_rfl) (by simp [Tryz.ntmps124]) ?_ ?_ ?_ ?_ ?_ ?_ ?_
 .intro r hr
  replace hr:=aC hr
  rcases hr with rfl|rfl|rfl|rfl|rfl
  .exact h0.symm
  .exact h1.symm
  .exact h2.symm
  .exact h3.symm
  .exact h6.symm
 .intro r hr
  match r,hr with
  |0,hr=>exact absurd (by simp) hr
  |1,hr=>exact absurd (by simp) hr
  |2,hr=>exact absurd (by simp) hr
  |3,hr=>exact absurd (by simp) hr
  |4,_=>simp
  |5,_=>simp
  |6,hr=>exact absurd (by simp) hr
  |r+7,_=>simp
 .simp only [aP,aI,cQ,af,ak,Nat.reduceAdd,Nat.reduceLT,decide_true,ac,ab]
  exact eN (p:=aE) (fun r hr=>by cases hr) hEt
 .intro r hr
  replace hr:=aC hr
  rcases hr with rfl|rfl|rfl|rfl|rfl
  .rw [h0];rfl
  .rw [h1];exact lZ hc0 rfl
  .rw [h2];rfl
  .rw [h3];rfl
  .rw [h6];rfl
 .intro r hr h
  replace hr:=aC hr
  simp only [af,ak] at h
  rcases hr with rfl|rfl|rfl|rfl|rfl
  .omega
  .omega
  .omega
  .omega
  .exact h6
 .simp
 simp only [Tryz.ntmps124,aK,Nat.reduceAdd,af,ak]
 refine aF
 refine bO bX (Pure.lend bX E4 (.cons (.full rfl) .nil)) ?_
 simp only [wS,simprocAttr,qL]
 refine ER (LM c0 hc0 [] (by simp) [] _ lQ lQ aZ) ?_
 refine aA
 refine aF
 refine ⟨by kernel_rfl,?_⟩
 refine f8 (eB @gH @JW hln)
 refine r9 (α:={i:Nat // i<=ks.length}) (fun i=>[(1,.sl true []),(2,.ptr 2 0 0),(3,.ptr 3 0 0),(15,.sl false EE),(16,.int .i64 (ks.length:Nat)),(17,.int .i64 (i.1:Nat))]) (fun i=>[R0 ([]::kQ [] 0 (ks.take i.1)),LP c0,.cells 0 [.yld 1],.cells 0 [.fn (.func 124) [] [.ptr 2 0 0,.ptr 3 0 0]],.dead,.cells 0 [.int .i64 kk,.int .i64 nn,.int .i64 mm,.sl false EE],R6 ([]::kQ [] 0 (ks.take i.1))]) (fun i=>ks.length - i.1) ⟨0,az _⟩ ⟨?_,.inl ?_⟩ ?_
 .exact aZ
 .simp only [wS,simprocAttr,kQ];try exact rfl
 .rintro ⟨i,hi⟩ K3 hK3
  refine aF
  refine ⟨fun h=>?_,fun h=>?_⟩
  .have hlt:i<ks.length:=by simpa using h
   obtain ⟨e,he⟩:∃ e,ks[i]? =some e:=⟨_,ah hlt⟩
   have hne2:T.size e<=D:=by have:=T.size_mem (aj he);omega
   have hg:=hgt i e he
   have hltE:i<EE.length:=by omega
   have htk:=uG (p:=[]) he
   have hle:=EV [] ks (i+1)
   rw [htk,an] at hle
   have e3:=aO (k:=i) hlt (by omega)
   obtain ⟨ea,eb,ec,ed,hee⟩:=aN e
   rw [hee] at hg
   repeat' (first|(refine cC ?_;simp only [wS,simprocAttr,hg,hltE,hlt])|refine aH|fail)
   refine fO (sz:=1) (by':=8) (mm:=1) (new:=[.int .i64 (i:Int)]) (es:=[]) (by kernel_rfl) ?hb (by simp) ?hc (by decide) (by simp) ?_
   case hb=>refine aA;try exact rfl
   case hc=>simp [cW]
   refine aA
   refine cM (EU (p:=[]) (S2 (b:=8) (by decide) (ZB D)) hc0 hne2 hee i (by simpa using hD) (ps:=[]::kQ [] 0 (ks.take i)) (by simp) (by simp only [af];omega) 0 _ lQ lQ lQ lQ aZ lQ) ?_
   refine aA
   refine ⟨by kernel_rfl,?_⟩
   refine f8 e3
   refine hK3.go ⟨i+1,hlt⟩ ⟨?_,.inr ⟨?_,?_,?_,?_,?_⟩⟩ (by simp only;omega)
   .exact aZ
   .exact aZ
   .simp only [wS,simprocAttr,htk,bj];try exact rfl
   .exact fun g cs hg=>b7 (p:=aE) (fun r hr=>by cases hr) (bX g cs hg)
   .intro q hq
    replace hq:=aC hq
    rcases hq with rfl|rfl|rfl|rfl|rfl|rfl<;>first|rfl|exact eN (p:=aE) (fun r hr=>by cases hr) hEt
   .exact YP c0 hc0 [.int .i64 kk,.int .i64 nn,.int .i64 mm,.sl false EE] hctree _
  .have hge:i=ks.length:=by simp at h;omega
   refine aF
   refine aD rfl ?_
   simp only [wS,simprocAttr,aI,hge,bi,gH]
   intro r hr
   replace hr:=aC hr
   rcases hr with rfl|rfl|rfl|rfl|rfl
   .exact ⟨rfl,qA rfl⟩
   .exact ⟨h1.symm,lZ hc0 rfl⟩
   .exact ⟨h2.symm,rfl⟩
   .exact ⟨h3.symm,rfl⟩
   .exact ⟨rfl,oN (ps:=[]::kQ [] 0 ks)⟩
theorem M8 {D:Nat} (c0:List AV) (hc0:aP aE c0=true) (c:T) (hc:T.size c<=D+1) (hD:D+1<=1000000000000) (hlen:(fM [] c).length<=4398046511104) (rows:Nat->ARow)
  (h0:rows 0=R0 []) (h1:rows 1=LP c0) (h6:rows 6=.none):c8 Tryz.prog G0 123 [.yld 1,.imm (T.enc c)] rows [0,1,6] ⟨.tup [],[(0,R0 (fM [] c)),(6,R6 (fM [] c))]⟩:=by
 have hctree:=T.enc_tree c
 generalize hvis:fM [] c=qs at hlen ⊢
 obtain ⟨a0,b0,d0,e0,hee⟩:=aN c
 have hEt:cQ aE e0=true:=by rw [hee] at hctree;simpa only [aP,aI,ac,ab] using hctree
 refine bT [R0 [],LP c0] bX Tryz.func123 rfl (by kernel_rfl) (by simp [Tryz.ntmps123]) ?_ ?_ ?_ ?_ ?_ ?_ ?_
 .intro r hr
  replace hr:=aC hr
  rcases hr with rfl|rfl|rfl
  .exact h0.symm
  .exact h1.symm
  .exact h6.symm
 .intro r hr
  match r,hr with
  |0,hr=>exact absurd (by simp) hr
  |1,hr=>exact absurd (by simp) hr
  |r+2,_=>simp
 .rw [hee]
  simp only [aP,aI,cQ,af,ak,Nat.reduceAdd,Nat.reduceLT,decide_true,ac,ab]
  exact eN (p:=aE) (fun r hr=>by cases hr) hEt
 .intro r hr
  replace hr:=aC hr
  rcases hr with rfl|rfl|rfl
  .rw [h0];rfl
  .rw [h1];exact lZ hc0 rfl
  .rw [h6];rfl
 .intro r hr h
  replace hr:=aC hr
  simp only [af,ak] at h
  rcases hr with rfl|rfl|rfl
  .omega
  .omega
  .exact h6
 .simp
 simp only [Tryz.ntmps123,aK,Nat.reduceAdd,af,ak]
 rw [hee]
 refine aF
 have key:=fun rows a b c' d e=>WW c0 hc0 c hc hD (by rw [hvis];exact hlen) rows a b c' d e
 rw [hvis,hee] at key
 refine cM (key _ lQ lQ lQ lQ aZ) ?_
 refine aA
 refine aF
 refine jC rfl ?_
 simp only [wS,simprocAttr,aI,aP]
 intro r hr
 replace hr:=aC hr
 rcases hr with rfl|rfl|rfl
 .exact ⟨rfl,qA (ps:=qs) rfl⟩
 .exact ⟨h1.symm,lZ hc0 rfl⟩
 .exact ⟨rfl,oN (ps:=qs)⟩
theorem aBf [rd:i6] {b:Nat} (hround:rd.round=none) (hbase:rd.base=some b) {D:Nat} (c:T) (hc:T.size c<=D+1) (hD:D+1<=1000000000000) (hlen:(fM [] c).length<=4398046511104) {cd:Code} (hcd:Tryz.f122.body=some cd) (Q:Exit->AS->Prop)
  (hQ:∀ s,s.get 4=.sl false (PE (fM [] c))->s.h=[]->Q .ret s):cG Tryz.prog G0 13 0 cd (fun e s=>∃ s',Ref G0 13 0 s s'/\Q e s') ⟨eJ (aK 0 [.sl true [],.fn (.func 123) [] [.imm (T.enc c)]]),[]⟩:=by
 simp only [Tryz.f122,ao] at hcd
 subst hcd
 have hct:=T.enc_tree c
 simp only [aK,Nat.reduceAdd]
 refine aF
 obtain ⟨q0,qs,hqs⟩:∃ q0 qs,fM [] c=q0::qs:=by
  obtain ⟨kk,nn,mm,ks⟩:=c
  exact ⟨_,_,wL _ _ _ _ _⟩
 have key:=M8 (T.enc c) hct c hc hD hlen
 rw [hqs] at key hQ
 have hav:hU [] 6 1 (PE (q0::qs))=.osl 6 qs.length 0 (qs.length+1) 1 false:=by simp [hU,PE]
 have har:R6 (q0::qs)=.cells qs.length (PE (q0::qs)).flatten:=by simp [R6,dQ,PE]
 refine iB (gf:=123) (first:=[]) (cap:=[.imm (T.enc c)]) (fp:=[0,1,6]) (eff:=⟨.tup [],[(0,R0 (q0::qs)),(6,R6 (q0::qs))]⟩) hround hbase ?hg (key _ ?h0 ?h1 ?h6) (.inl ⟨FR (T.enc c),uN.1,uN.2.1,uN.2.2,?hl,?hk⟩)
 case hg=>refine aA
 case h0=>rfl
 case h1=>rfl
 case h6=>rfl
 case hl=>rfl
 case hk=>
 refine aA
 repeat' (first|(refine cC ?_;simp only [wS,simprocAttr,R0,hav])|refine aH|fail)
 refine ⟨_,OH [] bX (t:=4) (r:=6) (ver:=qs.length) (m:=qs.length+1) (sz:=1) (full:=false) (es:=PE (q0::qs)) (cs:=(PE (q0::qs)).flatten) lQ (by refine aA;exact har) ?_ (by simp [PE]) (WI _) (qS _) trivial (by simp),hQ _ ?_ rfl⟩
 .rw [bx (by rw [dE (WI _)];simp [PE])]
 .refine aA
theorem aBX {D:Nat} (c:T) (hc:T.size c<=D+1) (hD:D+1<=1000000000000) (hlen:(fM [] c).length<=4398046511104):Pure Tryz.prog G0 122 [.sl true [],.fn (.func 123) [] [.imm (T.enc c)]] (.sl false (PE (fM [] c))):=by
 refine ⟨by simp only [aI];exact qS _,fun rows=>?_⟩
 refine lH (H:=[]) ⟨bX,by simp,fun r _=>by simp,by simp,by simp⟩ Tryz.func122 rfl (by kernel_rfl) (by simp [Tryz.ntmps122]) ?_ (by simp) fun b=>?_
 .simp only [aP,aI,cQ,ac,ab]
  exact b7 (p:=aE) (fun r hr=>by cases hr) (T.enc_tree c)
 refine @jH ⟨none,some b⟩ _ _ _ _ _ _ _ ?_
 refine @aBf ⟨none,some b⟩ b rfl rfl D c hc hD hlen _ rfl _ fun s h4 hh=>?_
 refine aD rfl ?_
 rw [h4]
 refine ⟨rfl,?_,fun r hr=>by cases hr⟩
 simp only [aI]
 exact eN (p:=aE) (fun r hr=>by cases hr) (qS _)
theorem N6 {D:Nat} (c:T) (hc:T.size c<=D+1) (hD:D+1<=1000000000000) (hlen:(fM [] c).length<=4398046511104):Pure Tryz.prog G0 100 [.fn (.func 123) [] [.imm (T.enc c)]] (.sl false (PE (fM [] c))):=by
 refine aL bX Tryz.func100 rfl (by kernel_rfl) (by simp [Tryz.ntmps100]) (by simp [aP,aI,(T.enc_tree c)]) (by simp only [aI];exact qS _) ?_
 simp only [Tryz.ntmps100,aK,Nat.reduceAdd]
 refine aF
 refine bO bX (aBX c hc hD hlen) ?_
 refine aA
 refine aF
 refine aD rfl ?_
 refine aA
theorem QM (c:List AV) (hc:aP aE c=true) (h4:∃ k n m b es,c=[.int .i64 k,.int .i64 n,.int .i64 m,.sl b es]) (rows:Nat->ARow) (h1:rows 1=.none):c8 Tryz.prog G0 101 [.agg c] rows [1] ⟨.fn (.func 123) [] [.ptr 1 0 0],[(1,.cells 0 c)]⟩:=by
 obtain ⟨k,n,m,b,es,rfl⟩:=h4
 have hm:∀ q:Nat->Bool,aP q [.int .i64 k,.int .i64 n,.int .i64 m,.sl b es]=true:=fun q=>b7 (p:=aE) (fun r hr=>by cases hr) hc
 refine bT [.dead] bX Tryz.func101 rfl (by kernel_rfl) (by simp [Tryz.ntmps101]) ?_ ?_ ?_ ?_ ?_ ?_ ?_
 .intro r hr
  rw [bd.1 hr];exact h1.symm
 .intro r hr
  match r,hr with
  |0,_=>simp
  |1,hr=>exact absurd (by simp) hr
  |r+2,_=>simp
 .have:=hm (fun r=>decide (r< [ARow.dead].length))
  simp only [aP,aI,ab] at this ⊢
  exact this
 .intro r hr
  rw [bd.1 hr,h1];rfl
 .intro r hr _
  rw [bd.1 hr];exact h1
 .simp
 simp only [Tryz.ntmps101,aK,Nat.reduceAdd,af,ak]
 refine aF
 refine aD rfl ?_
 simp only [wS,simprocAttr,aI,aP]
 refine ⟨rfl,fun r hr=>?_⟩
 rw [bd.1 hr]
 exact ⟨rfl,hm _⟩
theorem TS {D:Nat} (c:T) (hc:T.size c<=D+1) (hD:D+1<=1000000000000) (hlen:(fM [] c).length<=4398046511104):Pure Tryz.prog G0 67 [.agg (T.enc c)] (.sl false (PE (fM [] c))):=by
 have hct:=T.enc_tree c
 have hc4:∃ k n m b es,T.enc c=[.int .i64 k,.int .i64 n,.int .i64 m,.sl b es]:=by
  obtain ⟨a,b,d,e,h⟩:=aN c
  exact ⟨_,_,_,_,_,h⟩
 have k20:=QM (T.enc c) hct hc4
 have k19:=N6 c hc hD hlen
 refine aL bX Tryz.func67 rfl (by kernel_rfl) (by simp [Tryz.ntmps67]) (by simp only [aP,aI,ab];exact hct) (by simp only [aI];exact qS _) ?_
 simp only [Tryz.ntmps67,aK,Nat.reduceAdd]
 obtain ⟨k,n,m,b,es,hee⟩:=hc4
 rw [hee] at k20 k19 hct ⊢
 refine aF
 refine cM (k20 _ aZ) ?_
 refine aA
 refine cM (nZ [1] (k19.2 _) ⟨.inr (.fn .nil (.cons (.ptr (by simp) aZ (.cons (.same rfl) (.cons (.same rfl) (.cons (.same rfl) (.cons (.same ?_) .nil))))) .nil)),trivial⟩ (by simp)) ?_
 .simp only [aP,aI,ac,ab] at hct ⊢
  exact hct
 refine aA
 refine aF
 refine aD rfl ?_
 refine aA
end Go.Proofs.YtggflhbigolakaaGreatDoor
