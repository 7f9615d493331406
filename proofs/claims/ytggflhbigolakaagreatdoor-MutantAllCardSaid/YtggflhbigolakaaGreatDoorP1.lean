import Derived.Test.YtggflhbigolakaaGreatDoorAE
import Derived.Test.YtggflhbigolakaaGreatDoorM1
import Derived.Test.YtggflhbigolakaaGreatDoorT1
import Derived.Test.YtggflhbigolakaaGreatDoorTypes
import Derived.Test.YtggflhbigolakaaGreatDoorN2
set_option linter.unusedSimpArgs false
namespace Go.Proofs.YtggflhbigolakaaGreatDoor
open Go.AM
attribute [local irreducible] cG bG bI bL bW bZ aQ aV bN
set_option maxRecDepth 100000
section
variable {P:Program} {G:Nat->Option (List AV)} {n:Nat} {K:Option eV->AS->Prop} {d:Option Tmp} {rest:List nA} {m:Option eV} {s:AS} {f:FuncId} {args:List AV} {fp:List Nat} {eff:eL}
theorem cM (h:c8 P G f args s.row fp eff) (hk:bG P G n K rest (lM m fp (eff.wr.map (·.1))) ((s.wr eff.wr).put d eff.val)):bI P G n K d rest m s f args:=by
 unfold bI
 exact ⟨_,_,h,hk⟩
theorem ER {r:Nat} (h:wI P G r args s.row fp eff) (hk:bG P G n K rest (lM m fp (eff.wr.map (·.1))) ((s.wr eff.wr).put d eff.val)):ZV P G n K d rest m s r args:=⟨_,_,h,hk⟩
end
def cI (l:List Int):List AV:=l.map fun n=>.int .i64 n
theorem PV (l:List Int):(l.map fun n=>[AV.int .i64 n]).flatten=cI l:=by
 induction l with
 |nil=>rfl
 |cons x l ih=>simp only [ay,cw,ih];rfl
theorem gX (p:Nat->Bool) (l:List Int):aP p (cI l)=true:=by
 induction l with
 |nil=>rfl
 |cons x l ih=>simp only [cI,ay,aP,aI,ac] at ih ⊢;exact ih
theorem AU (l:List Int):(cI l).length=l.length:=by simp [cI]
theorem E4:Pure Tryz.prog G0 68 [cY []] (cY []):=by
 refine bH bX Tryz.func68 rfl (by kernel_rfl) (by simp [Tryz.ntmps68]) (by simp [aP,aI,fP]) (by simp [fP]) ?_
 simp only [Tryz.ntmps68,aK,Nat.reduceAdd]
 repeat' (first|(refine cC ?_;simp only [wS,simprocAttr,cY,bu,List.isEmpty_nil,bf])|refine aH|fail)
 refine ⟨?_,?_⟩<;>refine aF
 .refine aD rfl ?_
  refine aA
  rfl
 .refine tR (sz:=1) (by':=8) (new:=[]) (by kernel_rfl) (by simp) (by simp [cW]) (by simp) ?_
  refine aA
  refine aF
  refine aD rfl ?_
  refine aA
  rfl
theorem KP (p:List Int) (hp:p≠[]) (hl:p.length<=1000000000000) (ver:Nat) (fl:Bool) (rows:Nat->ARow) (h4:rows 4=.cells ver (cI p)) (h8:rows 8=.none):c8 Tryz.prog G0 68 [.osl 4 ver 0 p.length 1 fl] rows [4,8] ⟨.osl 8 0 0 p.length 1 false,[(8,.cells 0 (cI p))]⟩:=by
 refine bT [.dead,.dead,.dead,.dead,.cells ver (cI p),.dead,.dead,.dead] bX Tryz.func68 rfl (by kernel_rfl) (by simp [Tryz.ntmps68]) ?_ ?_ (by simp [aP,aI]) ?_ ?_ ?_ ?_
 .intro r hr
  replace hr:=aC hr
  rcases hr with rfl|rfl
  .exact h4.symm
  .exact h8.symm
 .intro r hr
  match r,hr with
  |0,_=>simp
  |1,_=>simp
  |2,_=>simp
  |3,_=>simp
  |4,hr=>exact absurd (by simp) hr
  |5,_=>simp
  |6,_=>simp
  |7,_=>simp
  |8,hr=>exact absurd (by simp) hr
  |r+9,_=>simp
 .intro r hr
  replace hr:=aC hr
  rcases hr with rfl|rfl
  .rw [h4];exact gX _ p
  .rw [h8];rfl
 .intro r hr h
  replace hr:=aC hr
  simp only [af,ak] at h
  rcases hr with rfl|rfl
  .omega
  .exact h8
 .simp
 simp only [Tryz.ntmps68,aK,Nat.reduceAdd,af,ak]
 have hlen:=AU p
 have hpos:0<p.length:=fh.2 hp
 repeat' (first|(refine cC ?_;simp only [wS,simprocAttr,hlen,Option.isSome_some])|refine aH|fail)
 refine fO (sz:=1) (by':=8) (mm:=p.length) (new:=cI p) (es:=[]) (by kernel_rfl) ?hrow (by simp) ?_ (by omega) (by simp;omega) ?_
 case hrow=>refine aA
 .simp only [wS,simprocAttr,cW,hlen,Nat.mul_one,true_and]
  rw [bx (by omega),if_pos (ap _)]
 refine aA
 refine aF
 refine aD rfl ?_
 simp only [wS,simprocAttr,aI]
 refine ⟨rfl,?_⟩
 intro r hr
 replace hr:=aC hr
 rcases hr with rfl|rfl
 .exact ⟨h4.symm,gX _ p⟩
 .exact ⟨rfl,gX _ p⟩
def XU:Code->Option (Array Tmp × Code × Code)
 | .rangeFunc _ ps a b=>some (ps,a,b)
 | .seq x y=>match XU x with|some z=>some z|none=>XU y
 | .block _ c=>XU c
 |_=>none
noncomputable def uN:Array Tmp × Code × Code:=match Tryz.f122.body with
 |some c=>(XU c).getD (#[],.skip,.skip)
 |none=>(#[],.skip,.skip)
def FR (c:List AV):List AV:=[.sl true [],.fn (.func 123) [] [.imm c],.ptr 0 0 0,.undef,.sl true [],.undef,.fn (.func 123) [] [.imm c],.undef,.undef,.undef,.undef,.undef,.undef]
noncomputable def LP (c:List AV):ARow:=.loop .ready none (FR c) uN.1 uN.2.1 uN.2.2
theorem WI (ps:List (List Int)):∀ e∈PE ps,e.length=1:=TR ps
theorem qS (ps:List (List Int)):cQ aE (PE ps)=true:=lR ps
theorem aBo (ps:List (List Int)):(PE ps).length=ps.length:=mD ps
theorem Q8 (ps:List (List Int)) (p:List Int):PE ps++[[cY p]]=PE (ps++[p]):=(FQ ps p).symm
theorem WJ (ps:List (List Int)):PE ps=[]↔ps=[]:=by simp [PE]
def R0 (ps:List (List Int)):ARow:=.cells 0 [hU [] 6 1 (PE ps)]
def R6 (ps:List (List Int)):ARow:=if PE ps=[] then .none else dQ [] (PE ps)
theorem lZ {p:Nat->Bool} {c:List AV} (hc:aP aE c=true) (h0:p 0=true):aG p (LP c)=true:=by
 have hc':=b7 (p:=aE) (q:=p) (fun r hr=>by cases hr) hc
 simp only [LP,aG,FR,aP,aI,cQ,hc',h0,ai]
theorem qA {p:Nat->Bool} {ps:List (List Int)} (h6:p 6=true):aG p (R0 ps)=true:=by
 simp only [R0,aG,aP,ab]
 exact UR h6 rfl
theorem oN {p:Nat->Bool} {ps:List (List Int)}:aG p (R6 ps)=true:=by
 unfold R6
 split
 .rfl
 .exact RK (qS ps)
theorem WT (c:List AV) (hc:aP aE c=true) (ps:List (List Int)) (rows:Nat->ARow) (h0:rows 0=R0 ps) (h1:rows 1=LP c) (h6:rows 6=R6 ps):BB G0 (eF [R0 ps,LP c,.dead,.dead,.dead,.dead] [] (PE ps)) rows [0,1,6]:=by
 have hl:6<=(eF [R0 ps,LP c,.dead,.dead,.dead,.dead] [] (PE ps)).length:=by unfold eF;split<;>simp
 have hrow:=B6 [R0 ps,LP c,.dead,.dead,.dead,.dead] [] (PE ps)
 simp only [af,ak,Nat.reduceAdd] at hrow
 by_cases ha:PE ps=[]
 .have e:eF [R0 ps,LP c,.dead,.dead,.dead,.dead] [] (PE ps)=[R0 ps,LP c,.dead,.dead,.dead,.dead]:=by rw [eF,if_pos ha]
  rw [e]
  have e6:rows 6=.none:=by rw [h6,R6,if_pos ha]
  have e0:hU [] 6 1 (PE ps)=.sl true []:=by rw [hU,if_pos ha]
  refine ⟨bX,?_,?_,?_,?_⟩
  .intro r hr
   replace hr:=aC hr
   rcases hr with rfl|rfl|rfl
   .exact h0.symm
   .exact h1.symm
   .exact e6.symm
  .intro r hr
   match r,hr with
   |0,hr=>exact absurd (by simp) hr
   |1,hr=>exact absurd (by simp) hr
   |2,_=>simp
   |3,_=>simp
   |4,_=>simp
   |5,_=>simp
   |6,hr=>exact absurd (by simp) hr
   |r+7,_=>simp
  .intro r hr
   replace hr:=aC hr
   rcases hr with rfl|rfl|rfl
   .rw [h0,R0,e0];rfl
   .rw [h1];exact lZ hc (by simp)
   .rw [e6];rfl
  .intro r hr h
   replace hr:=aC hr
   simp only [af,ak,Nat.reduceAdd] at h
   rcases hr with rfl|rfl|rfl
   .omega
   .omega
   .exact e6
 .have e:eF [R0 ps,LP c,.dead,.dead,.dead,.dead] [] (PE ps)=[R0 ps,LP c,.dead,.dead,.dead,.dead,dQ [] (PE ps)]:=by rw [eF,if_neg ha];rfl
  rw [e]
  have e6:rows 6=dQ [] (PE ps):=by rw [h6,R6,if_neg ha]
  refine ⟨bX,?_,?_,?_,?_⟩
  .intro r hr
   replace hr:=aC hr
   rcases hr with rfl|rfl|rfl
   .exact h0.symm
   .exact h1.symm
   .exact e6.symm
  .intro r hr
   match r,hr with
   |0,hr=>exact absurd (by simp) hr
   |1,hr=>exact absurd (by simp) hr
   |2,_=>simp
   |3,_=>simp
   |4,_=>simp
   |5,_=>simp
   |6,hr=>exact absurd (by simp) hr
   |r+7,_=>simp
  .intro r hr
   replace hr:=aC hr
   rcases hr with rfl|rfl|rfl
   .rw [h0];exact qA (by simp)
   .rw [h1];exact lZ hc (by simp)
   .rw [h6];exact oN
  .intro r hr h
   replace hr:=aC hr
   simp only [af,ak,Nat.reduceAdd] at h
   omega
theorem LM (c:List AV) (hc:aP aE c=true) (ps:List (List Int)) (hb:ps.length+1<=4398046511104) (p:List Int) (rows:Nat->ARow) (h0:rows 0=R0 ps) (h1:rows 1=LP c) (h6:rows 6=R6 ps):wI Tryz.prog G0 1 [cY p] rows [0,1,6] ⟨.bool true,[(0,R0 (ps++[p])),(6,R6 (ps++[p]))]⟩:=by
 have hl:6<=(eF [R0 ps,LP c,.dead,.dead,.dead,.dead] [] (PE ps)).length:=by unfold eF;split<;>simp
 have hR6:R6 (ps++[p])=dQ [] (PE ps++[[cY p]]):=by rw [R6,<- Q8,if_neg (by simp)]
 have e7:uN.1= #[7]:=by kernel_rfl
 refine l5 (n:=13) (WT c hc ps rows h0 h1 h6) h1 (by simp) (by omega) rfl (by rw [e7];rfl) (by rw [e7];simp) (by simp only [aP,ab];exact gE (p:=aE) (fun r hr=>by cases hr) (fP p)) (by simp) fun l=>?_
 rw [e7]
 have hfr:vH (FR c) ((#[7]:Array Tmp).toList.zip [cY p])=eJ [(0,.sl true []),(1,.fn (.func 123) [] [.imm c]),(2,.ptr 0 0 0),(4,.sl true []),(6,.fn (.func 123) [] [.imm c]),(7,cY p),(12,.undef)]:=rfl
 rw [hfr]
 obtain ⟨es,he⟩:∃ es,cY p=.sl false es:=⟨_,rfl⟩
 rw [he]
 refine @t3 ⟨some l,none⟩ _ _ _ _ _ _ _ _ ?_
 refine aA
 refine ⟨FR c, #[7],uN.2.1,uN.2.2,?_,?_⟩
 .rw [<- e7]
  exact eO [R0 ps,LP c,.dead,.dead,.dead,.dead] [] (PE ps) (r:=1) (by simp)
 refine @qO ⟨some l,none⟩ _ _ _ _ _ _ _ _ ?_
 refine @t3 ⟨some l,none⟩ _ _ _ _ _ _ _ _ ?_
 simp only [wS,simprocAttr,kN,eO,R0]
 refine wY (H:=[R0 ps,.loop .busy none (FR c) #[7] uN.2.1 uN.2.2,.dead,.dead,.dead,.dead]) (base:=[]) (app:=PE ps) (e:=[.sl false es]) (by':=24) (by kernel_rfl) rfl (wM (by simp)) ?_ (WI ps) ?_ (by simp only [ak,aBo];omega) ?_
 .rfl
 .simp [cW]
 have hav:hU [] 6 1 (PE ps++[[.sl false es]])=.osl 6 (PE ps).length 0 ((PE ps).length+1) 1 false:=by
  rw [<- u6];simp
 simp only [wS,simprocAttr,kN,eO,R0,hav]
 refine ⟨none,FR c, #[7],uN.2.1,uN.2.2,rfl,rfl,rfl,?_⟩
 rw [<- e7]
 have hps:PE (ps++[p])=PE ps++[[.sl false es]]:=by rw [<- Q8,he]
 intro q hq
 replace hq:=aC hq
 rcases hq with rfl|rfl|rfl
 .exact ⟨by simp [hps,hav],by simp [aG,aP,aI]⟩
 .refine ⟨h1.symm,lZ hc (by simp)⟩
 .have e6:R6 (ps++[p])=dQ [] (PE ps++[[.sl false es]]):=by rw [hR6,he]
  exact ⟨by simp [e6],by rw [<- e6];exact oN⟩
def kQ (p:List Int) (i:Nat) (es:List T):List (List Int):=(T.pathss es i).map fun q=>p++q
def fM (p:List Int) (t:T):List (List Int):=(T.paths t).map fun q=>p++q
theorem wL (p:List Int) (k n m:Int) (es:List T):fM p (.mk k n m es)=p::kQ p 0 es:=by simp [fM,kQ,T.paths]
theorem S4 (p:List Int) (t:T):(fM p t).length=T.size t:=by rw [fM,bp,T.paths_len]
theorem HM (p:List Int) (es:List T):(kQ p 0 es).length=T.sizes es:=by rw [kQ,bp,T.pathss_len]
theorem uG {p:List Int} {es:List T} {k:Nat} {e:T} (h:es[k]? =some e):kQ p 0 (es.take (k+1))=kQ p 0 (es.take k)++fM (p++[(k:Int)]) e:=by
 rw [kQ,T.pathss_take h,dq,kQ,fM,gn,cp]
 congr 1
 exact fg fun q _=>by simp
theorem EV (p:List Int) (es:List T) (k:Nat):(kQ p 0 (es.take k)).length<=(kQ p 0 es).length:=by
 rw [HM,HM];exact T.sizes_take_le es k
def LI (b:Nat) (D:Nat):Prop:=∀ (c0:List AV),aP aE c0=true->∀ (c:T),T.size c<=D->∀ (p:List Int),p≠[]->p.length+D<=1000000000000->∀ (ps:List (List Int)),ps≠[]->ps.length+(fM p c).length<=4398046511104->∀ (ver:Nat) (rows:Nat->ARow),
 rows 0=R0 ps->rows 1=LP c0->rows 2=.cells 0 [.yld 1]->rows 3=.cells 0 [.fn (.func 124) [] [.ptr 2 0 0,.ptr 3 0 0]]->rows b=.cells ver (cI p)->rows 6=R6 ps->
 c8 Tryz.prog G0 124 [.agg (T.enc c),.osl b ver 0 p.length 1 false,.ptr 2 0 0,.ptr 3 0 0] rows [b,0,1,2,3,6] ⟨.bool true,[(0,R0 (ps++fM p c)),(6,R6 (ps++fM p c))]⟩
theorem S2 {b D:Nat} (hb:b ∉ [0,1,2,3,4,6]) (h:LI 4 D):LI b D:=by
 intro c0 hc0 c hc p hp hpl ps hps hlen ver rows h0 h1 h2 h3 hrb h6
 have hb':b ∉ [0,1,2,3,6]:=fun hm=>hb (by simp at hm ⊢;omega)
 have hb4:b≠4:=fun e=>hb (by simp [e])
 have key:=h c0 hc0 c hc p hp hpl ps hps hlen ver (fun r=>if r=4 then .cells ver (cI p) else rows r) (by simpa using h0) (by simpa using h1) (by simpa using h2) (by simpa using h3) rfl (by simpa using h6)
 have hin0:∀ r∈[0,1,2,3,6],aG (fun r=>[0,1,2,3,6].contains r) (rows r)=true:=by
  intro r hr
  replace hr:=aC hr
  rcases hr with rfl|rfl|rfl|rfl|rfl
  .rw [h0];exact qA rfl
  .rw [h1];exact lZ hc0 rfl
  .rw [h2];rfl
  .rw [h3];rfl
  .rw [h6];exact oN
 have hren:M5 4 b [(0,R0 (ps++fM p c)),(6,R6 (ps++fM p c))]=[(0,R0 (ps++fM p c)),(6,R6 (ps++fM p c))]:=rfl
 rw [<- hren]
 refine RB bX key (by decide) hb' ?_ ?_ ?_ ?_ rfl ?_
 .simp [hrb]
 .intro r hr
  rw [if_neg (fun e=>by rw [e] at hr;exact absurd hr (by decide))]
 .intro r hr
  rcases bn.1 hr with rfl|hr
  .rw [hrb];exact gX _ p
  .exact hin0 r hr
 .refine ⟨.inl ⟨rfl,?_⟩,.inr ⟨ver,0,p.length,1,false,rfl,rfl⟩,.inl ⟨rfl,rfl⟩,.inl ⟨rfl,rfl⟩,trivial⟩
  simp only [aI]
  exact b7 (p:=aE) (fun r hr=>by cases hr) (T.enc_tree c)
 .intro r hr
  replace hr:=aC hr
  rcases hr with rfl|rfl|rfl|rfl|rfl|rfl
  .exact gX _ p
  .exact qA rfl
  .simp only [upd];exact hin0 1 (by simp)
  .simp only [upd];exact hin0 2 (by simp)
  .simp only [upd];exact hin0 3 (by simp)
  .exact oN
theorem EU {b D:Nat} (h:LI b D) {c0:List AV} (hc0:aP aE c0=true) {c:T} (hc:T.size c<=D) {ce:List AV} (hce:T.enc c=ce) {p:List Int} (i:Nat) (hpl:p.length+(D+1)<=1000000000000) {ps:List (List Int)} (hps:ps≠[]) (hlen:ps.length+(fM (p++[(i:Int)]) c).length<=4398046511104) (ver:Nat) (rows:Nat->ARow)
  (h0:rows 0=R0 ps) (h1:rows 1=LP c0) (h2:rows 2=.cells 0 [.yld 1]) (h3:rows 3=.cells 0 [.fn (.func 124) [] [.ptr 2 0 0,.ptr 3 0 0]]) (hb:rows b=.cells ver (cI p++[.int .i64 (i:Int)])) (h6:rows 6=R6 ps):
  c8 Tryz.prog G0 124 [.agg ce,.osl b ver 0 (p.length+1) 1 false,.ptr 2 0 0,.ptr 3 0 0] rows [b,0,1,2,3,6] ⟨.bool true,[(0,R0 (ps++fM (p++[(i:Int)]) c)),(6,R6 (ps++fM (p++[(i:Int)]) c))]⟩:=by
 have key:=h c0 hc0 c hc (p++[(i:Int)]) (by simp) (by simp;omega) ps hps hlen ver rows h0 h1 h2 h3 (by rw [hb];simp [cI]) h6
 rwa [an,am,hce] at key
end Go.Proofs.YtggflhbigolakaaGreatDoor
