import Derived.Test.YtggflhbigolakaaGreatDoorEF
set_option linter.unusedSimpArgs false
namespace Go.Proofs.YtggflhbigolakaaGreatDoor
open Go.AM
attribute [local irreducible] cG bG bI bL bW bZ aQ aV bN
set_option maxRecDepth 100000
def mL (many:Nat):List Si->List Si->List (List Si)
 | [],_=>[]
 |s::l,M=>(if c6 (M++[s])=true then (if (M++[s]).length=many then [M++[s]] else mL many l (M++[s])) else [])++mL many l M
def d9 (many:Nat) (l M:List Si):List (List Si):=if M.length=many then [M] else mL many l M
theorem kL (many:Nat) (s:Si) (l M:List Si):mL many (s::l) M=(if c6 (M++[s])=true then d9 many l (M++[s]) else [])++mL many l M:=rfl
def oI (B:Nat->ARow):List (Nat × ARow):=[(0,B 0),(1,B 1),(2,B 2),(3,B 3),(4,B 4),(5,B 5),(6,B 6),(7,B 7)]
def tP:Nat->Bool:=fun r=>([0,1,2,3,4,5,6,7]:List Nat).contains r
structure WF (A:Nat->Nat->ARow) (MS:Nat->List Si) (N stop:Nat):Prop where
 ins:∀ k r,r<8->aG tP (A k r)=true
 yld:∀ k,k<N->k<=stop->∀ rows,(∀ r,r<8->rows r=A k r)->wI Tryz.prog G0 7 [mV (MS k)] rows [0,1,2,3,4,5,6,7] ⟨.bool (decide (k<stop)),oI (A (k+1))⟩
theorem tN {m:Nat} (hm:8<=m):∀ r,tP r=true->decide (r<m)=true:=fun r h=>by simp [tP] at h ⊢;omega
theorem V7:∀ r,tP r=true->([0,1,2,3,4,5,6,7,8,9]:List Nat).contains r=true:=fun r h=>by simp [tP] at h ⊢;omega
section
variable {A:Nat->Nat->ARow} {MS:Nat->List Si} {N stop:Nat} (hT:WF A MS N stop) (many:Nat) (hmany:many<=1000) (sites:List Si) (hsl:sites.length<=1000000) (hsp:∀ s∈sites,s.1.length<=1000000000)
include hT hmany hsl hsp
set_option maxHeartbeats 16000000 in
theorem aCE : ∀ (n : Nat) (M : List Si) (i : Nat), i <= sites.length -> sites.length - i <= n -> M.length <= many -> (∀ s ∈ M, s.1.length <= 1000000000) -> ∀ k, k + (d9 many (sites.drop i) M).length <= N -> k <= stop -> (∀ j m, (d9 many (sites.drop i) M)[j]? = some m -> MS (k + j) = m) -> ∀ (SC : List (List AV)), mC sites = SC -> ∀ rows : Nat -> ARow, (∀ r, r < 8 -> rows r = A k r) -> rows 8 = .cells 0 [.yld 7] -> rows 9 = .cells 0 [.fn (.func 87) [] [.imm [.int .i64 (many : Nat)], .ptr 8 0 0, .imm [.sl false SC], .ptr 9 0 0]] -> c8 Tryz.prog G0 87 [mV M, .int .i64 (i : Nat), .imm [.int .i64 (many : Nat)], .ptr 8 0 0, .imm [.sl false SC], .ptr 9 0 0] rows [0, 1, 2, 3, 4, 5, 6, 7, 8, 9] ⟨.bool (decide (k + (d9 many (sites.drop i) M).length <= stop)), oI (A (min (k + (d9 many (sites.drop i) M).length) (stop + 1)))⟩ := by
 intro n
 induction n using Nat.strongRecOn with
 | ind n ih =>
  intro M i hi hn hMl hMp k hkN hks hms SC hSC rows hr8 h8 h9
  have hMt:=cX M
  have hMn:=jA M
  have hMg:=D3 M
  have hst:=cX sites
  have hsn:=jA sites
  have hsg:=fun (i:Nat) (s:Si)=>mE (M:=sites) (i:=i) (s:=s)
  have kap:=fun (s:Si) (hs:s∈sites)=>Q4 (M++[s]) (by simp;omega) (fun x hx=>by
   rcases bo.1 hx with hx|hx
   .have:=hMp x hx;omega
   .rw [bd.1 hx];have:=hsp s hs;omega)
  have hmX:=fun (s:Si)=>G2 M s
  have hmXt:=fun (s:Si)=>cX (M++[s])
  have kcl:=aCi M (by omega) (fun s hs=>by have:=hMp s hs;omega)
  rw [hSC] at hst hsn hsg
  simp only [mV] at kap kcl ⊢
  obtain ⟨MC,hMC⟩:∃ MC,mC M=MC:=⟨_,rfl⟩
  rw [hMC] at hMt hMn hMg kcl ⊢
  have hall:MC.all (fun e=>decide (e.length=2))=true:=cl.2 fun e he=>by simpa using hMg e he
  have hA8:=fun r (h:r<8)=>hT.ins k r h
  have hlen:∀ r,r<8->aG (fun q=>decide (q<10)) (A k r)=true:=fun r h=>bJ (tN (by omega)) (hT.ins k r h)
  have hin:∀ (k:Nat) (r:Nat),r<8->aG (fun q=>decide (q<11)) (A k r)=true:=fun k r h=>bJ (tN (by omega)) (hT.ins k r h)
  obtain ⟨len,hlen0⟩:∃ l,l=(d9 many (sites.drop i) M).length:=⟨_,rfl⟩
  rw [<- hlen0] at hkN ⊢
  refine bT [A (k) 0,A (k) 1,A (k) 2,A (k) 3,A (k) 4,A (k) 5,A (k) 6,A (k) 7,.cells 0 [.yld 7],.cells 0 [.fn (.func 87) [] [.imm [.int .i64 (many:Nat)],.ptr 8 0 0,.imm [.sl false SC],.ptr 9 0 0]]] bX Tryz.func87 rfl (by kernel_rfl) (by simp [Tryz.ntmps87]) ?_ ?_ ?_ ?_ ?_ ?_ ?_
  .intro r hr
   replace hr:=aC hr
   rcases hr with rfl|rfl|rfl|rfl|rfl|rfl|rfl|rfl|rfl|rfl
   .exact (hr8 0 (by decide)).symm
   .exact (hr8 1 (by decide)).symm
   .exact (hr8 2 (by decide)).symm
   .exact (hr8 3 (by decide)).symm
   .exact (hr8 4 (by decide)).symm
   .exact (hr8 5 (by decide)).symm
   .exact (hr8 6 (by decide)).symm
   .exact (hr8 7 (by decide)).symm
   .exact h8.symm
   .exact h9.symm
  .intro r hr
   match r,hr with
   |0,hr=>exact absurd (by simp) hr
   |1,hr=>exact absurd (by simp) hr
   |2,hr=>exact absurd (by simp) hr
   |3,hr=>exact absurd (by simp) hr
   |4,hr=>exact absurd (by simp) hr
   |5,hr=>exact absurd (by simp) hr
   |6,hr=>exact absurd (by simp) hr
   |7,hr=>exact absurd (by simp) hr
   |8,hr=>exact absurd (by simp) hr
   |9,hr=>exact absurd (by simp) hr
   |r+10,_=>simp
  .simp only [aP,aI,cQ,af,ak,Nat.reduceAdd,Nat.reduceLT,decide_true,ac,ab,ae]
   exact ⟨aB hMt,aB hst⟩
  .intro r hr
   replace hr:=aC hr
   by_cases h:r<8
   .rw [hr8 r h];exact bJ (tN (by simp)) (hT.ins k r h)
   .have:r=8\/r=9:=by omega
    rcases this with rfl|rfl
    .rw [h8];rfl
    .rw [h9];simp only [aG,aP,aI,cQ,ac,ab,ae];exact ⟨rfl,aB hst,rfl⟩
  .intro r hr h
   replace hr:=aC hr
   simp only [af,ak] at h
   omega
  .intro p hp
   simp only [oI,bn,jh,or_false] at hp
   rcases hp with rfl|rfl|rfl|rfl|rfl|rfl|rfl|rfl<;>simp
  simp only [Tryz.ntmps87,aK,Nat.reduceAdd,af,ak]
  have post:∀ (k':Nat) (s:AS),(∀ r,r<8->s.row r=A k' r)->s.row 8=.cells 0 [.yld 7]->s.row 9=.cells 0 [.fn (.func 87) [] [.imm [.int .i64 (many:Nat)],.ptr 8 0 0,.imm [.sl false SC],.ptr 9 0 0]]->∀ r∈([0,1,2,3,4,5,6,7,8,9]:List Nat),s.row r=upd rows (oI (A k')) r/\aG (fun q=>([0,1,2,3,4,5,6,7,8,9]:List Nat).contains q) (s.row r)=true:=by
   intro k' s g8 ga gb r hr
   replace hr:=aC hr
   by_cases h:r<8
   .refine ⟨?_,by rw [g8 r h];exact bJ V7 (hT.ins k' r h)⟩
    rw [g8 r h]
    have:r=0\/r=1\/r=2\/r=3\/r=4\/r=5\/r=6\/r=7:=by omega
    rcases this with rfl|rfl|rfl|rfl|rfl|rfl|rfl|rfl<;>simp [oI,upd]
   .have:r=8\/r=9:=by omega
    rcases this with rfl|rfl
    .rw [ga];exact ⟨by simp [oI,upd,h8],rfl⟩
    .rw [gb]
     refine ⟨by simp [oI,upd,h9],?_⟩
     simp only [aG,aP,aI,cQ,ac,ab,ae];exact ⟨rfl,aB hst,rfl⟩
  refine gB
  refine Cont.go (by assumption) ?_
  have hone:∀ s:AS,True:=fun _=>trivial
  by_cases hEq:M.length=many
  .have c1:(((MC.length:Nat):Int)==((many:Nat):Int))=true:=by rw [beq_iff_eq];omega
   have hL:d9 many (sites.drop i) M=[M]:=if_pos hEq
   have hl1:len=1:=by rw [hlen0,hL];rfl
   have hmk:MS k=M:=hms 0 M (by rw [hL];rfl)
   have hy:=hT.yld k (by omega) hks
   rw [hmk] at hy
   simp only [mV,hMC] at hy
   subst hl1
   have hd:decide (k+1<=stop)=decide (k<stop):=rfl
   have hmin:min (k+1) (stop+1)=k+1:=by omega
   rw [hd,hmin]
   refine aR c1
   refine bO bX kcl ?_
   simp only [wS,simprocAttr,qL]
   refine ER (hy _ (fun r h=>by (have:r=0\/r=1\/r=2\/r=3\/r=4\/r=5\/r=6\/r=7:=by omega);rcases this with rfl|rfl|rfl|rfl|rfl|rfl|rfl|rfl<;>((try simp only [wS,simprocAttr,oI]);try exact rfl))) ?_
   simp only [wS,simprocAttr,oI]
   repeat' (first|(refine cC ?_;simp only [wS,simprocAttr,oI])|refine aH|fail)
   refine ⟨by kernel_rfl,?_⟩
   repeat' (first|(refine cC ?_;simp only [wS,simprocAttr,oI])|refine aH|fail)
   refine aD rfl ⟨.inl ?_,?_,post (k+1) _ (fun r h=>by (have:r=0\/r=1\/r=2\/r=3\/r=4\/r=5\/r=6\/r=7:=by omega);rcases this with rfl|rfl|rfl|rfl|rfl|rfl|rfl|rfl<;>((try simp only [wS,simprocAttr,oI]);try exact rfl)) ?_ ?_⟩
   .refine aA
   .refine aA;exact rfl
   .simp only [wS,simprocAttr,oI];try exact rfl
   .simp only [wS,simprocAttr,oI];try exact rfl
  .have c1 : (((MC.length : Nat) : Int) == ((many : Nat) : Int)) = false := by rw [beq_eq_false_iff_ne]; omega
   have hL:d9 many (sites.drop i) M=mL many (sites.drop i) M:=if_neg hEq
   rw [hL] at hlen0 hms
   refine aR c1
   refine aJ (α:={p:Nat × Nat // i<=p.1/\p.1<=sites.length/\p.2<=stop/\p.2+(mL many (sites.drop p.1) M).length=k+len/\∀ j m,(mL many (sites.drop p.1) M)[j]? =some m->MS (p.2+j)=m}) (fun p=>[(2,.imm [.int .i64 (many:Nat)]),(3,.ptr 8 0 0),(4,.imm [.sl false SC]),(5,.ptr 9 0 0),(6,.ptr 10 0 0),(9,.int .i64 (p.1.1:Nat))]) (fun p=>[A (p.1.2) 0,A (p.1.2) 1,A (p.1.2) 2,A (p.1.2) 3,A (p.1.2) 4,A (p.1.2) 5,A (p.1.2) 6,A (p.1.2) 7,.cells 0 [.yld 7],.cells 0 [.fn (.func 87) [] [.imm [.int .i64 (many:Nat)],.ptr 8 0 0,.imm [.sl false SC],.ptr 9 0 0]],.cells 0 [.sl false MC]]) (fun p=>sites.length - p.1.1) ⟨(i,k),ap _,hi,hks,by rw [hlen0],hms⟩ (Weak.ref ⟨?_,.inl ?_⟩) ?_
   .exact aZ
   .exact aZ
   .rintro ⟨⟨j,k'⟩,hij,hj,hk',hsum,hms'⟩ K hK
    try simp only at hij hj hk' hsum hms'
    have hA8':=fun r (h:r<8)=>hT.ins k' r h
    by_cases hlt:j<sites.length
    .have c2:decide (((j:Nat):Int)<((SC.length:Nat):Int))=true:=by simp;omega
     have e3:=aO (k:=j) hlt (by omega)
     obtain ⟨s,hs⟩:∃ s,sites[j]? =some s:=⟨_,ah hlt⟩
     have hsm:=aj hs
     have gs:=hsg j s hs
     have hB:j<SC.length:=by omega
     have hd:sites.drop j=s::sites.drop (j+1):=by
      obtain ⟨q1,q2⟩:=aq.1 hs
      rw [cg q1,q2]
     rw [hd,kL] at hsum hms'
     have kas:=kap s hsm
     have hX:=hmX s
     have hXt:=hmXt s
     rw [hMC] at hX
     have hXl:mC (M++[s])=MC++[[.sl false (aT s.1),.int .i64 s.2]]:=hX
     have hX2:=D3 (M++[s])
     repeat' (first|(refine cC ?_;simp only [wS,simprocAttr,c2,gs,hB,ap,Option.isSome_some,and_self,if_true,hall,beq_self_eq_true,co,dm,bi])|refine aH|fail)
     refine fO (es:=MC) (sz:=2) (by':=32) (mm:=1) (new:=[.sl false (aT s.1),.int .i64 s.2]) (by kernel_rfl) rfl hall (by simp [cW]) (by decide) (by rw [hMn];omega) ?_
     refine aA
     refine gB
     refine ⟨by kernel_rfl,?_⟩
     have hfl:MC.flatten++[AV.sl false (aT s.1),.int .i64 s.2]=(mC (M++[s])).flatten:=by rw [hXl];simp
     have hXn:(mC (M++[s])).length=MC.length+1:=by rw [hXl];simp
     have hKq:∀ r,r<8->aG (kp [0,1,2,3,4,5,6,7,8,9,10,12]) (A k' r)=true:=fun r h=>bJ (fun q hq=>by simp [tP] at hq;simp [kp];omega) (hT.ins k' r h)
     obtain ⟨CX,hCX⟩:∃ CX,mC (M++[s])=CX:=⟨_,rfl⟩
     rw [hCX] at kas hXt hfl hXn hX2
     refine Cont.go (by assumption) (cK (cA [11] (kp [0,1,2,3,4,5,6,7,8,9,10,12]) (l:=[(2,.imm [.int .i64 (many:Nat)]),(3,.ptr 8 0 0),(4,.imm [.sl false SC]),(5,.ptr 9 0 0),(6,.ptr 10 0 0),(9,.int .i64 (j:Nat)),(10,.ptr 12 0 0)]) (h:=[A k' 0,A k' 1,A k' 2,A k' 3,A k' 4,A k' 5,A k' 6,A k' 7,.cells 0 [.yld 7],.cells 0 [.fn (.func 87) [] [.imm [.int .i64 (many:Nat)],.ptr 8 0 0,.imm [.sl false SC],.ptr 9 0 0]],.cells 0 [.sl false MC],.none,.cells 0 [.sl false CX]]) bX (fun r hr=>by simp [kp];omega) ?_ ?_ ?_) ?_)
     .simp only [wS,simprocAttr,dL,iD,and_true,true_or]
     .simp only [bg,bz,ab,ae,aI,aP,ac];exact ⟨rfl,aB hst,rfl,rfl,rfl⟩
     .refine aA
      simp only [hY,and_true]
      exact ⟨kr rfl (hKq 0 (by decide)) (by simp),kr rfl (hKq 1 (by decide)) (by simp),kr rfl (hKq 2 (by decide)) (by simp),kr rfl (hKq 3 (by decide)) (by simp),kr rfl (hKq 4 (by decide)) (by simp),kr rfl (hKq 5 (by decide)) (by simp),kr rfl (hKq 6 (by decide)) (by simp),kr rfl (hKq 7 (by decide)) (by simp),kr rfl rfl (by simp),kr rfl (by simp only [aG,aP,aI,cQ,ac,ab,ae];exact ⟨rfl,aB hst,rfl⟩) (by simp),kr rfl (bE (by simp only [aP,aI,hMt,ai])) (by simp),.inl rfl,.inr ⟨rfl,bE (by simp only [aP,aI,hXt,ai]),.inr ⟨.inl (by simp),.inr ⟨0,_,_,rfl,rfl,.inr (.osl (cs:=CX.flatten) (by simp) (by (simp only [wS,simprocAttr,aU];rw [hfl];try exact rfl)) hXn hX2 (by rw [co,bx];rw [dE hX2,hXn];exact ap _) hXt),trivial⟩⟩⟩⟩
     cases hap:c6 (M++[s]) with
     |false=>
      rw [hap] at kas hsum hms'
      simp only [aw,if_false,ba] at hsum hms'
      refine aR (bF c2 e3)
      refine bO bX kas ?_
      simp only [wS,simprocAttr,c2,e3]
      refine aR (bF c2 e3)
      refine hK.go ⟨(j+1,k'),by simp only;omega,hlt,hk',hsum,hms'⟩ aX (by simp only;omega)
      .exact aZ
      .exact aZ
      .intro z hz
       replace hz:=aC hz
       rcases hz with rfl|rfl|rfl|rfl|rfl|rfl<;>first|rfl|(simp only [aI,aP,ac,ab];exact aB hst)
      .refine aS;try exact ⟨hin (k') 0 (by decide),hin (k') 1 (by decide),hin (k') 2 (by decide),hin (k') 3 (by decide),hin (k') 4 (by decide),hin (k') 5 (by decide),hin (k') 6 (by decide),hin (k') 7 (by decide),rfl,by simp only [aG,aP,aI,cQ,ac,ab,ae];exact ⟨rfl,aB hst,rfl⟩,bE (by simp only [aP,aI,hMt,ai])⟩
     |true=>
      rw [hap] at kas hsum hms'
      simp only [if_true] at hsum hms'
      rw [an] at hsum
      have kih:=ih (sites.length - (j+1)) (by omega) (M++[s]) (j+1) (by omega) (ap _) (by simp;omega) (fun x hx=>by
       rcases bo.1 hx with hx|hx
       .exact hMp x hx
       .rw [bd.1 hx];exact hsp s hsm) k' (by omega) hk' (fun q m hq=>hms' q m (by rw [eo (aq.1 hq).1];exact hq)) SC hSC
      simp only [mV] at kih
      rw [hCX] at kih
      have hms2:∀ q m,(mL many (sites.drop (j+1)) M)[q]? =some m->MS (k'+(d9 many (sites.drop (j+1)) (M++[s])).length+q)=m:=fun q m hq=>by
       rw [Nat.add_assoc]
       refine hms' _ m ?_
       rw [List.getElem?_append_right (by omega),Nat.add_sub_cancel_left]
       exact hq
      generalize (d9 many (sites.drop (j+1)) (M++[s])).length=l1 at hsum kih hms2
      clear hms'
      refine aR (bF c2 e3)
      refine bO bX kas ?_
      simp only [wS,simprocAttr,c2,e3]
      refine aR (bF c2 e3)
      refine cM (kih _ (fun r h=>by (have:r=0\/r=1\/r=2\/r=3\/r=4\/r=5\/r=6\/r=7:=by omega);rcases this with rfl|rfl|rfl|rfl|rfl|rfl|rfl|rfl<;>((try simp only [wS,simprocAttr,oI]);try exact rfl)) ?_ ?_) ?_
      .refine aA
      .refine aA
      by_cases hgo:k'+l1<=stop
      .have hd1:decide (k'+l1<=stop)=true:=by simpa using hgo
       have hm1:min (k'+l1) (stop+1)=k'+l1:=by omega
       rw [hd1,hm1]
       simp only [wS,simprocAttr,c2,e3,oI,bf,be]
       repeat' (first|(refine cC ?_;simp only [wS,simprocAttr,c2,e3,oI,bf,be])|refine aH|fail)
       refine hK.go ⟨(j+1,k'+l1),by simp only;omega,hlt,hgo,by simp only;omega,hms2⟩ aX (by simp only;omega)
       .exact aZ
       .exact aZ
       .intro z hz
        replace hz:=aC hz
        rcases hz with rfl|rfl|rfl|rfl|rfl|rfl<;>first|rfl|(simp only [aI,aP,ac,ab];exact aB hst)
       .refine aS;try exact ⟨hin (k'+l1) 0 (by decide),hin (k'+l1) 1 (by decide),hin (k'+l1) 2 (by decide),hin (k'+l1) 3 (by decide),hin (k'+l1) 4 (by decide),hin (k'+l1) 5 (by decide),hin (k'+l1) 6 (by decide),hin (k'+l1) 7 (by decide),rfl,by simp only [aG,aP,aI,cQ,ac,ab,ae];exact ⟨rfl,aB hst,rfl⟩,bE (by simp only [aP,aI,hMt,ai])⟩
      .have hd1:decide (k'+l1<=stop)=false:=by simpa using hgo
       have hm1:min (k'+l1) (stop+1)=stop+1:=by omega
       have hd2:decide (k+len<=stop)=false:=by simp;omega
       have hm2:min (k+len) (stop+1)=stop+1:=by omega
       rw [hd1,hm1]
       simp only [wS,simprocAttr,c2,e3,oI,bf,be]
       repeat' (first|(refine cC ?_;simp only [wS,simprocAttr,c2,e3,oI,bf,be])|refine aH|fail)
       simp only [hd2,hm2]
       refine aD rfl ⟨.inl ?_,?_,post (stop+1) _ (fun r h=>by (have:r=0\/r=1\/r=2\/r=3\/r=4\/r=5\/r=6\/r=7:=by omega);rcases this with rfl|rfl|rfl|rfl|rfl|rfl|rfl|rfl<;>((try simp only [wS,simprocAttr,oI]);try exact rfl)) ?_ ?_⟩
       .refine aA
       .refine aA;exact rfl
       .exact aZ
       .exact aZ
    .have c2:decide (((j:Nat):Int)<((SC.length:Nat):Int))=false:=by simp;omega
     obtain rfl:j=sites.length:=by omega
     rw [du,mL,ak,fy] at hsum
     subst hsum
     have hd:decide (k+len<=stop)=true:=by simpa using hk'
     have hmin:min (k+len) (stop+1)=k+len:=by omega
     refine aR c2
     simp only [hd,hmin]
     refine aD rfl ⟨.inl ?_,?_,post (k+len) _ (fun r h=>by (have:r=0\/r=1\/r=2\/r=3\/r=4\/r=5\/r=6\/r=7:=by omega);rcases this with rfl|rfl|rfl|rfl|rfl|rfl|rfl|rfl<;>((try simp only [wS,simprocAttr,oI]);try exact rfl)) ?_ ?_⟩
     .refine aA
     .refine aA;exact rfl
     .exact aZ
     .exact aZ
end
end Go.Proofs.YtggflhbigolakaaGreatDoor
