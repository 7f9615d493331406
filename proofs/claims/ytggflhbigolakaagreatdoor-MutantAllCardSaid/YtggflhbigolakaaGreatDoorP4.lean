import Derived.Test.YtggflhbigolakaaGreatDoorP1
set_option linter.unusedSimpArgs false
namespace Go.Proofs.YtggflhbigolakaaGreatDoor
open Go.AM
attribute [local irreducible] cG bG bI bL bW bZ aQ aV bN
set_option maxRecDepth 100000
theorem YO {ver:Nat} {row4:List AV} (c0:List AV) (hc0:aP aE c0=true) (c:List AV) (hc:aP aE c=true) (qs:List (List Int)) (h4:aP aE row4=true):([R0 qs,LP c0,.cells 0 [.yld 1],.cells 0 [.fn (.func 124) [] [.ptr 2 0 0,.ptr 3 0 0]],.cells ver row4,.dead,R6 qs,.cells 0 c]:List ARow).all (aG fun r=>decide (r<8))=true:=by
 have m:∀ x:List AV,aP aE x=true->aP (fun r=>decide (r<8)) x=true:=fun x=>b7 (p:=aE) (fun r hr=>by cases hr)
 refine aS
 exact ⟨qA rfl,lZ hc0 rfl,rfl,rfl,m _ h4,rfl,oN,m _ hc⟩
def lA:Nat->List AV
 |0=>[]
 |i+1=>[.int .i64 (i:Nat)]
theorem rU {q:Nat->Bool} (i:Nat):aP q (lA i)=true:=by cases i<;>rfl
theorem UJ {p:List Int} {i:Nat} {x:List AV}:List.take (p.length*1) (cI p++lA i)++x++List.drop ((p.length+1)*1) (cI p++lA i)=cI p++x:=by
 have hl:=AU p
 have h2:(lA i).length<=1:=by cases i<;>simp [lA]
 rw [Nat.mul_one,Nat.mul_one,List.take_append_of_le_length (by omega),bx (by omega),dz (by rw [an];omega),br]
set_option maxHeartbeats 4000000 in
theorem WY {D:Nat} (ih:LI 4 D) (c0:List AV) (hc0:aP aE c0=true) (c:T) (hc:T.size c<=D+1) (p:List Int) (hp:p≠[]) (hpl:p.length+(D+1)<=1000000000000) (ps:List (List Int)) (hps:ps≠[]) (hlen:ps.length+(fM p c).length<=4398046511104) (ver:Nat) (rows:Nat->ARow)
  (h0:rows 0=R0 ps) (h1:rows 1=LP c0) (h2:rows 2=.cells 0 [.yld 1]) (h3:rows 3=.cells 0 [.fn (.func 124) [] [.ptr 2 0 0,.ptr 3 0 0]]) (h4:rows 4=.cells ver (cI p)) (h6:rows 6=R6 ps):
  c8 Tryz.prog G0 124 [.agg (T.enc c),.osl 4 ver 0 p.length 1 true,.ptr 2 0 0,.ptr 3 0 0] rows [4,0,1,2,3,6] ⟨.bool true,[(0,R0 (ps++fM p c)),(6,R6 (ps++fM p c))]⟩:=by
 have hctree:=T.enc_tree c
 obtain ⟨kk,nn,mm,ks⟩:=c
 rw [T.enc] at hctree ⊢
 have hEt:=T.encs_tree ks
 have hgt:=fun (i:Nat) (e:T)=>T.encs_get (es:=ks) (i:=i) (e:=e)
 have hln:=T.encs_len ks
 have hls:=T.len_sizes ks
 simp only [T.size] at hc
 generalize hEE:T.encs ks=EE at hctree hEt hgt hln ⊢
 have hPne:PE ps≠[]:=fun e=>hps ((WJ ps).1 e)
 rw [wL] at hlen ⊢
 simp only [af] at hlen
 have hcl:=AU p
 have hpos:0<p.length:=fh.2 hp
 refine bT [R0 ps,LP c0,.cells 0 [.yld 1],.cells 0 [.fn (.func 124) [] [.ptr 2 0 0,.ptr 3 0 0]],.cells ver (cI p),.dead,R6 ps] bX Tryz.func124 rfl (by kernel_rfl) (by simp [Tryz.ntmps124]) ?_ ?_ ?_ ?_ ?_ ?_ ?_
 .intro r hr
  replace hr:=aC hr
  rcases hr with rfl|rfl|rfl|rfl|rfl|rfl
  .exact h4.symm
  .exact h0.symm
  .exact h1.symm
  .exact h2.symm
  .exact h3.symm
  .exact h6.symm
 .intro r hr
  match r,hr with
  |0,hr=>exact absurd (by simp) hr
  |1,hr=>exact absurd (by simp) hr
  |2,hr=>exact absurd (by simp) hr
  |3,hr=>exact absurd (by simp) hr
  |4,hr=>exact absurd (by simp) hr
  |5,_=>simp
  |6,hr=>exact absurd (by simp) hr
  |r+7,_=>simp
 .simp only [aP,aI,af,ak,Nat.reduceAdd,Nat.reduceLT,decide_true,ac,ab]
  exact eN (p:=aE) (fun r hr=>by cases hr) hEt
 .intro r hr
  replace hr:=aC hr
  rcases hr with rfl|rfl|rfl|rfl|rfl|rfl
  .rw [h4];exact gX _ p
  .rw [h0];exact qA rfl
  .rw [h1];exact lZ hc0 rfl
  .rw [h2];rfl
  .rw [h3];rfl
  .rw [h6];exact oN
 .intro r hr h
  replace hr:=aC hr
  simp only [af,ak] at h
  omega
 .simp
 simp only [Tryz.ntmps124,aK,Nat.reduceAdd,af,ak]
 refine aF
 refine cM (KP p hp (by omega) ver true _ lQ aZ) ?_
 simp only [wS,simprocAttr,qL]
 refine ER (C2 [8] (LM c0 hc0 ps (by omega) p _ lQ lQ lQ) ⟨.inr (.osl (cs:=cI p) (by simp) aZ (by simp) (by intro e he;obtain ⟨x,_,rfl⟩:=cf.1 he;rfl) (by rw [co,bx (by omega),PV]) (bD p)),trivial⟩ (by decide)) ?_
 refine aA
 refine aF
 refine ⟨by kernel_rfl,?_⟩
 refine f8 (eB @gH @JW hln)
 refine r9 (α:={i:Nat // i<=ks.length}) (fun i=>[(1,.osl 4 ver 0 p.length 1 true),(2,.ptr 2 0 0),(3,.ptr 3 0 0),(15,.sl false EE),(16,.int .i64 (ks.length:Nat)),(17,.int .i64 (i.1:Nat))]) (fun i=>[R0 (ps++p::kQ p 0 (ks.take i.1)),LP c0,.cells 0 [.yld 1],.cells 0 [.fn (.func 124) [] [.ptr 2 0 0,.ptr 3 0 0]],.cells ver (cI p),.dead,R6 (ps++p::kQ p 0 (ks.take i.1)),.cells 0 [.int .i64 kk,.int .i64 nn,.int .i64 mm,.sl false EE]]) (fun i=>ks.length - i.1) ⟨0,az _⟩ ⟨?_,.inr ⟨?_,?_,?_,?_,?_⟩⟩ ?_
 .exact aZ
 .exact aZ
 .simp only [wS,simprocAttr,kQ,lA,gH,JW];try exact rfl
 .exact fun g cs hg=>b7 (p:=aE) (fun r hr=>by cases hr) (bX g cs hg)
 .intro q hq
  replace hq:=aC hq
  rcases hq with rfl|rfl|rfl|rfl|rfl|rfl<;>first|rfl|exact eN (p:=aE) (fun r hr=>by cases hr) hEt
 .exact YO (ver:=ver) (row4:=cI p) c0 hc0 [.int .i64 kk,.int .i64 nn,.int .i64 mm,.sl false EE] hctree _ (by exact gX _ _)
 .rintro ⟨i,hi⟩ K3 hK3
  refine aF
  refine ⟨fun h=>?_,fun h=>?_⟩
  .have hlt:i<ks.length:=by simpa using h
   obtain ⟨e,he⟩:∃ e,ks[i]? =some e:=⟨_,ah hlt⟩
   have hne2:T.size e<=D:=by have:=T.size_mem (aj he);omega
   have hg:=hgt i e he
   have hltE:i<EE.length:=by omega
   have htk:=uG (p:=p) he
   have hle:=EV p ks (i+1)
   rw [htk,an] at hle
   have e3:=aO (k:=i) hlt (by omega)
   obtain ⟨ea,eb,ec,ed,hee⟩:=aN e
   rw [hee] at hg
   repeat' (first|(refine cC ?_;simp only [wS,simprocAttr,hg,hltE,hlt])|refine aH|fail)
   refine VE (sz:=1) (by':=8) (mm:=1) (new:=[.int .i64 (i:Int)]) (cs:=cI p) (by kernel_rfl) ?ha (by omega) ?hb ?hc (by decide) (by omega) ?_
   case ha=>refine aA
   case hb=>refine aA;try exact rfl
   case hc=>simp [cW]
   have hcut:List.take (p.length*1) (List.drop 0 (cI p))=cI p:=by rw [co,bx (by omega)]
   rw [hcut]
   refine aA
   refine cM (EU (S2 (b:=9) (by decide) ih) hc0 hne2 hee i (by omega) (ps:=ps++p::kQ p 0 (ks.take i)) (by simp) (by simp only [an,af];omega) 0 _ lQ lQ lQ lQ aZ lQ) ?_
   refine aA
   refine ⟨by kernel_rfl,?_⟩
   refine f8 e3
   refine hK3.go ⟨i+1,hlt⟩ ⟨?_,.inr ⟨?_,?_,?_,?_,?_⟩⟩ (by simp only;omega)
   .exact aZ
   .exact aZ
   .simp only [wS,simprocAttr,htk,bj,lA];try exact rfl
   .exact fun g cs hg=>b7 (p:=aE) (fun r hr=>by cases hr) (bX g cs hg)
   .intro q hq
    replace hq:=aC hq
    rcases hq with rfl|rfl|rfl|rfl|rfl|rfl<;>first|rfl|exact eN (p:=aE) (fun r hr=>by cases hr) hEt
   .exact YO (ver:=ver) (row4:=cI p) c0 hc0 [.int .i64 kk,.int .i64 nn,.int .i64 mm,.sl false EE] hctree _ (by exact gX _ _)
  .have hge:i=ks.length:=by simp at h;omega
   refine aF
   refine aD rfl ?_
   simp only [wS,simprocAttr,aI,hge,bi,gH,T.kids]
   intro r hr
   replace hr:=aC hr
   rcases hr with rfl|rfl|rfl|rfl|rfl|rfl
   .exact ⟨h4.symm,by exact gX _ p⟩
   .exact ⟨rfl,qA rfl⟩
   .exact ⟨h1.symm,lZ hc0 rfl⟩
   .exact ⟨h2.symm,rfl⟩
   .exact ⟨h3.symm,rfl⟩
   .exact ⟨rfl,oN⟩
set_option maxHeartbeats 4000000 in
theorem WX {D:Nat} (ih:LI 4 D) (c0:List AV) (hc0:aP aE c0=true) (c:T) (hc:T.size c<=D+1) (p:List Int) (hp:p≠[]) (hpl:p.length+(D+1)<=1000000000000) (ps:List (List Int)) (hps:ps≠[]) (hlen:ps.length+(fM p c).length<=4398046511104) (ver:Nat) (rows:Nat->ARow)
  (h0:rows 0=R0 ps) (h1:rows 1=LP c0) (h2:rows 2=.cells 0 [.yld 1]) (h3:rows 3=.cells 0 [.fn (.func 124) [] [.ptr 2 0 0,.ptr 3 0 0]]) (h4:rows 4=.cells ver (cI p)) (h6:rows 6=R6 ps):
  c8 Tryz.prog G0 124 [.agg (T.enc c),.rsl 4 ver 0 p.length 1,.ptr 2 0 0,.ptr 3 0 0] rows [4,0,1,2,3,6] ⟨.bool true,[(0,R0 (ps++fM p c)),(6,R6 (ps++fM p c)),(4,.cells ver (cI p++lA (T.kids c).length))]⟩:=by
 have hctree:=T.enc_tree c
 obtain ⟨kk,nn,mm,ks⟩:=c
 rw [T.enc] at hctree ⊢
 have hEt:=T.encs_tree ks
 have hgt:=fun (i:Nat) (e:T)=>T.encs_get (es:=ks) (i:=i) (e:=e)
 have hln:=T.encs_len ks
 have hls:=T.len_sizes ks
 simp only [T.size] at hc
 generalize hEE:T.encs ks=EE at hctree hEt hgt hln ⊢
 have hPne:PE ps≠[]:=fun e=>hps ((WJ ps).1 e)
 rw [wL] at hlen ⊢
 simp only [af] at hlen
 have hcl:=AU p
 have hpos:0<p.length:=fh.2 hp
 refine bT [R0 ps,LP c0,.cells 0 [.yld 1],.cells 0 [.fn (.func 124) [] [.ptr 2 0 0,.ptr 3 0 0]],.cells ver (cI p),.dead,R6 ps] bX Tryz.func124 rfl (by kernel_rfl) (by simp [Tryz.ntmps124]) ?_ ?_ ?_ ?_ ?_ ?_ ?_
 .intro r hr
  replace hr:=aC hr
  rcases hr with rfl|rfl|rfl|rfl|rfl|rfl
  .exact h4.symm
  .exact h0.symm
  .exact h1.symm
  .exact h2.symm
  .exact h3.symm
  .exact h6.symm
 .intro r hr
  match r,hr with
  |0,hr=>exact absurd (by simp) hr
  |1,hr=>exact absurd (by simp) hr
  |2,hr=>exact absurd (by simp) hr
  |3,hr=>exact absurd (by simp) hr
  |4,hr=>exact absurd (by simp) hr
  |5,_=>simp
  |6,hr=>exact absurd (by simp) hr
  |r+7,_=>simp
 .simp only [aP,aI,af,ak,Nat.reduceAdd,Nat.reduceLT,decide_true,ac,ab]
  exact eN (p:=aE) (fun r hr=>by cases hr) hEt
 .intro r hr
  replace hr:=aC hr
  rcases hr with rfl|rfl|rfl|rfl|rfl|rfl
  .rw [h4];exact gX _ p
  .rw [h0];exact qA rfl
  .rw [h1];exact lZ hc0 rfl
  .rw [h2];rfl
  .rw [h3];rfl
  .rw [h6];exact oN
 .intro r hr h
  replace hr:=aC hr
  simp only [af,ak] at h
  omega
 .simp
 simp only [Tryz.ntmps124,aK,Nat.reduceAdd,af,ak]
 refine aF
 refine cM (AQ (KP p hp (by omega) ver false _ lQ aZ)) ?_
 simp only [wS,simprocAttr,qL]
 refine ER (C2 [8] (LM c0 hc0 ps (by omega) p _ lQ lQ lQ) ⟨.inr (.osl (cs:=cI p) (by simp) aZ (by simp) (by intro e he;obtain ⟨x,_,rfl⟩:=cf.1 he;rfl) (by rw [co,bx (by omega),PV]) (bD p)),trivial⟩ (by decide)) ?_
 refine aA
 refine aF
 refine ⟨by kernel_rfl,?_⟩
 refine f8 (eB @gH @JW hln)
 refine r9 (α:={i:Nat // i<=ks.length}) (fun i=>[(1,.rsl 4 ver 0 p.length 1),(2,.ptr 2 0 0),(3,.ptr 3 0 0),(15,.sl false EE),(16,.int .i64 (ks.length:Nat)),(17,.int .i64 (i.1:Nat))]) (fun i=>[R0 (ps++p::kQ p 0 (ks.take i.1)),LP c0,.cells 0 [.yld 1],.cells 0 [.fn (.func 124) [] [.ptr 2 0 0,.ptr 3 0 0]],.cells ver (cI p++lA i.1),.dead,R6 (ps++p::kQ p 0 (ks.take i.1)),.cells 0 [.int .i64 kk,.int .i64 nn,.int .i64 mm,.sl false EE]]) (fun i=>ks.length - i.1) ⟨0,az _⟩ ⟨?_,.inr ⟨?_,?_,?_,?_,?_⟩⟩ ?_
 .exact aZ
 .exact aZ
 .simp only [wS,simprocAttr,kQ,lA,gH,JW];try exact rfl
 .exact fun g cs hg=>b7 (p:=aE) (fun r hr=>by cases hr) (bX g cs hg)
 .intro q hq
  replace hq:=aC hq
  rcases hq with rfl|rfl|rfl|rfl|rfl|rfl<;>first|rfl|exact eN (p:=aE) (fun r hr=>by cases hr) hEt
 .exact YO (ver:=ver) (row4:=cI p++lA 0) c0 hc0 [.int .i64 kk,.int .i64 nn,.int .i64 mm,.sl false EE] hctree _ (by exact lC (gX _ _) (rU _))
 .rintro ⟨i,hi⟩ K3 hK3
  refine aF
  refine ⟨fun h=>?_,fun h=>?_⟩
  .have hlt:i<ks.length:=by simpa using h
   obtain ⟨e,he⟩:∃ e,ks[i]? =some e:=⟨_,ah hlt⟩
   have hne2:T.size e<=D:=by have:=T.size_mem (aj he);omega
   have hg:=hgt i e he
   have hltE:i<EE.length:=by omega
   have htk:=uG (p:=p) he
   have hle:=EV p ks (i+1)
   rw [htk,an] at hle
   have e3:=aO (k:=i) hlt (by omega)
   obtain ⟨ea,eb,ec,ed,hee⟩:=aN e
   rw [hee] at hg
   repeat' (first|(refine cC ?_;simp only [wS,simprocAttr,hg,hltE,hlt])|refine aH|fail)
   refine VD (sz:=1) (by':=8) (new:=[.int .i64 (i:Int)]) (cs:=cI p++lA i) (by kernel_rfl) ?ha (by rw [an];omega) ?hc ?_
   case ha=>refine aA
   case hc=>simp [cW]
   rw [UJ]
   refine aA
   refine cM (EU ih hc0 hne2 hee i (by omega) (ps:=ps++p::kQ p 0 (ks.take i)) (by simp) (by simp only [an,af];omega) ver _ lQ lQ lQ lQ aZ lQ) ?_
   refine aA
   refine ⟨by kernel_rfl,?_⟩
   refine f8 e3
   refine hK3.go ⟨i+1,hlt⟩ ⟨?_,.inr ⟨?_,?_,?_,?_,?_⟩⟩ (by simp only;omega)
   .exact aZ
   .exact aZ
   .simp only [wS,simprocAttr,htk,bj,lA];try exact rfl
   .exact fun g cs hg=>b7 (p:=aE) (fun r hr=>by cases hr) (bX g cs hg)
   .intro q hq
    replace hq:=aC hq
    rcases hq with rfl|rfl|rfl|rfl|rfl|rfl<;>first|rfl|exact eN (p:=aE) (fun r hr=>by cases hr) hEt
   .exact YO (ver:=ver) (row4:=cI p++lA (i+1)) c0 hc0 [.int .i64 kk,.int .i64 nn,.int .i64 mm,.sl false EE] hctree _ (by exact lC (gX _ _) (rU _))
  .have hge:i=ks.length:=by simp at h;omega
   refine aF
   refine aD rfl ?_
   simp only [wS,simprocAttr,aI,hge,bi,gH,T.kids]
   intro r hr
   replace hr:=aC hr
   rcases hr with rfl|rfl|rfl|rfl|rfl|rfl
   .exact ⟨rfl,by show aP _ (cI p++lA ks.length)=true;exact lC (gX _ _) (rU _)⟩
   .exact ⟨rfl,qA rfl⟩
   .exact ⟨h1.symm,lZ hc0 rfl⟩
   .exact ⟨h2.symm,rfl⟩
   .exact ⟨h3.symm,rfl⟩
   .exact ⟨rfl,oN⟩
theorem WV {D:Nat} (ih:LI 4 D):LI 4 (D+1):=by
 intro c0 hc0 c hc p hp hpl ps hps hlen ver rows h0 h1 h2 h3 h4 h6
 have hl:=AU p
 have m0:∀ (w:List (Nat × ARow)) q,q≠0->q≠6->upd rows [(0,R0 (ps++fM p c)),(6,R6 (ps++fM p c))] q=rows q:=fun _ q a b=>by rw [nF,if_neg b,if_neg a]
 refine KW (pre:=[.agg (T.enc c)]) (post:=[.ptr 2 0 0,.ptr 3 0 0]) (r:=4) (cs:=cI p) (WY ih c0 hc0 c hc p hp hpl ps hps hlen ver rows h0 h1 h2 h3 h4 h6) (WX ih c0 hc0 c hc p hp hpl ps hps hlen ver rows h0 h1 h2 h3 h4 h6) (by simp) h4 ?_ ?_ ?_ ?_ ?_ ?_
 .intro q hq
  replace hq:=aC hq
  rcases hq with rfl|rfl<;>simp
 .exact ⟨cI p,by rw [nF];exact h4,by rw [bi]⟩
 .exact ⟨_,by rw [gH,if_pos rfl],by rw [List.take_append_of_le_length (ap _),bi]⟩
 .intro q _ _;rfl
 .intro q _ hq
  rw [gH,if_neg hq,nF]
 .rw [nF];exact h4
theorem ZB:∀ D,LI 4 D
 |0=>fun c0 hc0 c hc=>by
  have:=T.size_pos c
  omega
 |D+1=>WV (ZB D)
end Go.Proofs.YtggflhbigolakaaGreatDoor
