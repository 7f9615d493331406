import Derived.Test.YtggflhbigolakaaGreatDoorAE
import Derived.Test.YtggflhbigolakaaGreatDoorN1
set_option linter.unusedSimpArgs false
namespace Go.Proofs.YtggflhbigolakaaGreatDoor
open Go.AM
attribute [local irreducible] cG bG bI bL bW bZ aQ aV bN
set_option maxRecDepth 100000
namespace T
mutual
def paths:T->List (List Int)|mk _ _ _ es=>[]::pathss es 0
def pathss:List T->Nat->List (List Int)
 | [],_=>[]
 |e::es,i=>(paths e).map (fun p=>(i:Int)::p)++pathss es (i+1)
end
mutual
theorem paths_len:∀ t:T,(paths t).length=size t
 |mk k n m es=>by rw [paths,size,af,pathss_len es 0];omega
theorem pathss_len:∀ (es:List T) (i:Nat),(pathss es i).length=sizes es
 | [],_=>rfl
 |e::es,i=>by rw [pathss,sizes,an,bp,paths_len e,pathss_len es (i+1)]
end
theorem pathss_take {es:List T} {j:Nat} {e:T} (h:es[j]? =some e):∀ i:Nat,pathss (es.take (j+1)) i=pathss (es.take j) i++(paths e).map (fun p=>((i+j:Nat):Int)::p):=by
 induction es generalizing j with
 |nil=>simp at h
 |cons x es ih=>
  intro i
  cases j with
  |zero=>
   obtain rfl:x=e:=by simpa using h
   simp [pathss]
  |succ j=>
   have:=ih (by simpa using h) (i+1)
   simp only [di,pathss,this,bj]
   rw [show i+1+j=i+(j+1) by omega]
mutual
theorem paths_sub:∀ (t:T) (p:List Int),p∈paths t->p.length<size t/\∃ t',sub t p=some t'/\size t'<=size t
 |mk k n m es,p,h=>by
  rw [paths] at h
  rcases bn.1 h with rfl|h
  .exact ⟨by simp only [ak,size];omega,mk k n m es,rfl,ap _⟩
  .obtain ⟨j,q,e,rfl,h1,h2,h3,_,h6⟩:=yP es 0 p h
   refine ⟨by simp only [af,size];omega,?_⟩
   obtain ⟨t',h7,h8⟩:=h6
   refine ⟨t',?_,by simp only [size];omega⟩
   rw [sub,if_pos (by omega)]
   have:((0+j:Nat):Int).toNat=j:=by omega
   simp only [kids,this,h1]
   exact h7
theorem yP:∀ (es:List T) (i:Nat) (p:List Int),p∈pathss es i->∃ (j:Nat) (q:List Int) (e:T),p=((i+j:Nat):Int)::q/\es[j]? =some e/\size e<=sizes es/\q.length<size e/\True/\∃ t',sub e q=some t'/\size t'<=size e
 | [],i,p,h=>by cases h
 |e::es,i,p,h=>by
  rw [pathss] at h
  rcases bo.1 h with h|h
  .obtain ⟨q,hq,rfl⟩:=cf.1 h
   obtain ⟨h1,h2⟩:=paths_sub e q hq
   exact ⟨0,q,e,rfl,rfl,by simp only [sizes];omega,h1,trivial,h2⟩
  .obtain ⟨j,q,e',h1,h2,h3,h4,_,h6⟩:=yP es (i+1) p h
   refine ⟨j+1,q,e',by rw [h1];congr 2;omega,by simpa using h2,by simp only [sizes];omega,h4,trivial,h6⟩
end
end T
def aT (p:List Int):List (List AV):=p.map fun x=>[AV.int .i64 x]
def PE (l:List (List Int)):List (List AV):=l.map fun p=>[AV.sl false (aT p)]
theorem mD (l:List (List Int)):(PE l).length=l.length:=bp ..
theorem TR (l:List (List Int)):∀ e∈PE l,e.length=1:=fun e he=>by
 obtain ⟨p,_,rfl⟩:=cf.1 he
 rfl
theorem QY (p:List Int):(aT p).flatten.length=p.length:=by
 rw [dE (sz:=1) (fun e he=>by obtain ⟨y,_,rfl⟩:=cf.1 he;rfl),aT,bp,Nat.mul_one]
theorem lR:∀ l:List (List Int),cQ aE (PE l)=true
 | []=>rfl
 |p::l=>by
  have h:=lR l
  simp only [PE,aT,ay,cQ,aP,aI,ab,ae] at h ⊢
  exact ⟨bD p,h⟩
theorem yO {l:List (List Int)} {i:Nat} {p:List Int} (h:l[i]? =some p):(PE l)[i]? =some [.sl false (aT p)]:=by rw [PE,bh,h];rfl
theorem J1 (l:List (List Int)):(PE l).map wkL=PE l:=by
 induction l with
 |nil=>rfl
 |cons p l ih=>
  have hp:QA (aT p)=aT p:=by
   induction p with
   |nil=>rfl
   |cons x p ihp=>
    simp only [aT,ay,QA,wkL,AM.wk] at ihp ⊢
    rw [ihp]
  simp only [PE,ay,wkL,AM.wk,hp] at ih ⊢
  rw [ih]
theorem FQ (l:List (List Int)) (p:List Int):PE (l++[p])=PE l++[[.sl false (aT p)]]:=by simp [PE]
theorem E8 (L:List (List Int)):(([AV.sl true []]::PE L:List (List AV)).flatten).length=(L.length+1)*1:=by
 rw [dE (sz:=1) (fun e he=>by
  rcases bn.1 he with rfl|he
  .rfl
  .exact TR L e he),af,mD]
theorem qN (L:List (List Int)):cQ aE ([[AV.sl true []]]++PE L)=true:=by simp only [ar,ba,cQ,aP,aI,lR,ai]
theorem PX (L:List (List Int)):∀ e∈([[AV.sl true []]]++PE L:List (List AV)),e.length=1:=fun e he=>by
 rcases bn.1 he with rfl|he
 .rfl
 .exact TR L e he
theorem K6 {rows:Nat->ARow} {fp:List Nat} (l:List AV) {a b:AV} (h:Lend rows fp a b):sE rows fp (l++[a]) (l++[b]):=vR (DN l) ⟨.inr h,trivial⟩
theorem B4 {H:List ARow} {base app:List (List AV)} {r sz j:Nat} (h:app.length=j+1):hU base r sz app=.osl r j 0 (base.length+j+1) sz false/\eF H base app=H++[.cells j (base++app).flatten]:=by
 have hne:app≠[]:=fun e=>by rw [e] at h;cases h
 refine ⟨?_,?_⟩
 .rw [hU,if_neg hne,h];simp [Nat.add_assoc]
 .rw [eF,if_neg hne,dQ,h];simp
set_option maxHeartbeats 8000000 in
theorem OM : ∀ (N : Nat) (t : T), T.size t <= N -> N <= 100000000000 -> Pure Tryz.prog G0 71 [.agg (T.enc t)] (.sl false (PE (T.paths t))) := by
 intro N
 induction N with
 |zero=>intro t h;have:=T.size_pos t;omega
 | succ N ih =>
  intro t ht hN
  obtain ⟨k,n,m,es⟩:=t
  have ih2:∀ e∈es,Pure Tryz.prog G0 71 [.agg (T.enc e)] (.sl false (PE (T.paths e))):=fun e he=>ih e (by have:=T.size_mem he;simp only [T.size] at ht;omega) (by omega)
  have htr:=T.enc_tree (.mk k n m es)
  have hls:=T.len_sizes es
  simp only [T.size] at ht
  have hwk:=J1 (T.paths (.mk k n m es))
  have hPL:=T.paths_len (.mk k n m es)
  refine bH bX Tryz.func71 rfl (by kernel_rfl) (by simp [Tryz.ntmps71]) (by simp only [aP,aI,htr,ai]) (by simp only [aI];exact lR _) ?_
  simp only [Tryz.ntmps71,aK,Nat.reduceAdd,T.enc]
  have hgt:=fun (i:Nat) (e:T)=>T.encs_get (es:=es) (i:=i) (e:=e)
  have hln:=T.encs_len es
  have hte:=T.encs_tree es
  generalize T.encs es=EE at hgt hln hte
  refine aF
  refine aJ (α:={i:Nat // i<=es.length}) (fun i=>[(1,.ptr 0 0 0),(3,hU [[AV.sl true []]] 1 1 (PE (T.pathss (es.take i.1) 0))),(4,.int .i64 (i.1:Nat))]) (fun i=>eF [.cells 0 [.int .i64 k,.int .i64 n,.int .i64 m,.sl false EE]] [[AV.sl true []]] (PE (T.pathss (es.take i.1) 0))) (fun i=>es.length - i.1) ⟨0,az _⟩ (Weak.ref ⟨?_,.inl ?_⟩) ?_
  .simp only [wS,simprocAttr,ci,T.pathss,PE,bu,m7];try exact rfl
  .simp only [wS,simprocAttr,ci,T.pathss,PE,bu,eF,if_true];try exact rfl
  .rintro ⟨i, hi⟩ K2 hK2
   refine aR @eO
   refine ⟨fun h=>?_,fun h=>?_⟩
   .have hlt : i < es.length := by simp at h; omega
    have hltE:i<EE.length:=by omega
    obtain ⟨e,he⟩:∃ e,es[i]? =some e:=⟨_,ah hlt⟩
    have hg:=hgt i e he
    have ke:=ih2 e (aj he)
    have hsz:=T.size_mem (aj he)
    have hpl:=T.paths_len e
    have hst:=T.sizes_take he
    have hsl:=T.sizes_take_le es (i+1)
    have hpt:=T.pathss_take he 0
    rw [cp] at hpt
    have hql:=T.pathss_len (es.take i) 0
    have e1:=aO (k:=i) hlt (by omega)
    obtain ⟨ek,en,em,ees,hee⟩:∃ a b c d,T.enc e=[.int .i64 a,.int .i64 b,.int .i64 c,.sl false d]:=by cases e;exact ⟨_,_,_,_,rfl⟩
    have hp0:(T.paths e)[0]? =some []:=by cases e;rfl
    rw [hee] at hg ke
    obtain ⟨Q,hQ⟩:∃ x,x=T.pathss (es.take i) 0:=⟨_,rfl⟩
    rw [<- hQ] at hpt hql
    have hQ':=hQ.symm
    obtain ⟨B,hB⟩:∃ x,x=T.paths e:=⟨_,rfl⟩
    rw [<- hB] at hpt hpl ke hp0
    have hbl:=mD B
    have hbg:=fun (j:Nat) (p:List Int)=>yO (l:=B) (i:=j) (p:=p)
    have hbt:=lR B
    generalize PE B=PB at hbl hbg ke hbt
    repeat' (first|(refine cC ?_;simp only [wS,simprocAttr,hg,hltE,hlt,eO,hQ'])|refine aH|fail)
    refine bO bX ke ?_
    refine aA
    refine aF
    rename_i Ka hKa Kb hKb
    refine aJ (α:={j:Nat // j<=B.length}) (fun j=>[(1,.ptr 0 0 0),(3,hU [[AV.sl true []]] 1 1 (PE (Q++(B.take j.1).map fun p=>(i:Int)::p))),(4,.int .i64 (i:Nat)),(5,.sl false PB),(6,.int .i64 (j.1:Nat))]) (fun j=>eF [.cells 0 [.int .i64 k,.int .i64 n,.int .i64 m,.sl false EE]] [[AV.sl true []]] (PE (Q++(B.take j.1).map fun p=>(i:Int)::p))) (fun j=>B.length - j.1) ⟨0,az _⟩ (Weak.ref ⟨?_,.inl ?_⟩) ?_
    .simp only [wS,simprocAttr,ci,bu,br];try exact rfl
    .simp only [wS,simprocAttr,ci,bu,br];try exact rfl
    .rintro ⟨j,hj⟩ K4 hK4
     obtain ⟨L,hL⟩:∃ x,x=Q++(B.take j).map fun p=>(i:Int)::p:=⟨_,rfl⟩
     have hLl:L.length=Q.length+j:=by rw [hL,an,bp,cr];omega
     have hL':=hL.symm
     simp only [hL']
     refine aR (bF hbl hL')
     refine ⟨fun h2=>?_,fun h2=>?_⟩
     .have hjl:j<B.length:=by simpa using h2
      have hjE:j<PB.length:=by omega
      obtain ⟨p,hp⟩:∃ p,B[j]? =some p:=⟨_,ah hjl⟩
      have hg2:=hbg j p hp
      have e4:=aO (k:=j) hjl (by omega)
      have hL1:(Q++(B.take (j+1)).map fun p=>(i:Int)::p)=L++[(i:Int)::p]:=by rw [hL,dh,hp];simp
      have hpm:p.length<T.size e:=(T.paths_sub e p (hB ▸ aj hp)).1
      have hle:=mD L
      by_cases hpn:p=[]
      .subst hpn
       simp only [aT,bu] at hg2
       refine aR (eB hg2 hjE hjl)
       refine tR (sz:=1) (by':=8) (es:=[[.int .i64 (i:Int)]]) (new:=[]) (by kernel_rfl) (by simp) (by simp [cW]) (by simp) ?_
       refine aA
       refine wY (H:=[.cells 0 [.int .i64 k,.int .i64 n,.int .i64 m,.sl false EE]]) (base:=[[AV.sl true []]]) (app:=PE L) (e:=[.sl true [[.int .i64 (i:Int)]]]) (sz:=1) (by':=24) (by kernel_rfl) rfl rfl rfl (PX L) (by simp [cW]) (by simp only [af,ak];omega) ?_
       have hac:=qQ [.cells 0 [.int .i64 k,.int .i64 n,.int .i64 m,.sl false EE]] [[AV.sl true []]] (PE L) [.sl true [[.int .i64 (i:Int)]]]
       simp only [af,ak,Nat.reduceAdd] at hac
       refine aA
       refine aR e4
       obtain ⟨hv,hh⟩:=B4 (H:=[.cells 0 [.int .i64 k,.int .i64 n,.int .i64 m,.sl false EE]]) (base:=[[AV.sl true []]]) (r:=1) (sz:=1) (app:=PE L++[[AV.sl true [[.int .i64 (i:Int)]]]]) (j:=L.length) (by simp [hle])
       obtain ⟨hv2,hh2⟩:=B4 (H:=[.cells 0 [.int .i64 k,.int .i64 n,.int .i64 m,.sl false EE]]) (base:=[[AV.sl true []]]) (r:=1) (sz:=1) (app:=PE (L++[[(i:Int)]])) (j:=L.length) (by rw [mD];simp)
       refine hK4.go ⟨j+1,hjl⟩ ?_ (by simp only;omega)
       simp only [hL1]
       rw [hv2,hh2]
       refine cA [] (kp [0,1]) bX (fun r hr=>absurd hr (bm r)) ?_ ?_ ?_
       .simp only [wS,simprocAttr,hv,dL,iD,true_or,true_and,and_true]
       .simp only [bg,bz,ab,aI,aB hbt];rfl
       .simp only [wS,simprocAttr,hac,hh]
        simp only [hY]
        refine ⟨.inr ⟨rfl,by simp only [aG,aP,aI,aB hte,ai],.inr ⟨.inl (by simp),.inl rfl⟩⟩,.inr ⟨rfl,?_,.inr ⟨.inl (by simp),.inr ⟨_,_,_,rfl,rfl,?_⟩⟩⟩,trivial⟩
        .exact dK (aB (qN _))
        .rw [FQ]
         simp only [ar,ba,cw,ei,ey,br]
         exact K6 (AV.sl true []::(PE L).flatten) (.full rfl)
      .have hLn:L≠[]:=fun hn=>by
        rw [hn] at hLl
        have:j=0:=by simp at hLl;omega
        subst this
        rw [hp0] at hp
        injection hp with hp
        exact hpn hp.symm
       obtain ⟨q,hq⟩:∃ q,L.length=q+1:=⟨L.length - 1,by
        have:L.length≠0:=by simpa using hLn
        omega⟩
       obtain ⟨hv,hh⟩:=B4 (H:=[.cells 0 [.int .i64 k,.int .i64 n,.int .i64 m,.sl false EE]]) (base:=[[AV.sl true []]]) (r:=1) (sz:=1) (app:=PE L) (j:=q) (by rw [hle,hq])
       obtain ⟨hv2,hh2⟩:=B4 (H:=[.cells 0 [.int .i64 k,.int .i64 n,.int .i64 m,.sl false EE]]) (base:=[[AV.sl true []]]) (r:=1) (sz:=1) (app:=PE (L++[(i:Int)::p])) (j:=q+1) (by rw [mD];simp [hq])
       have e5:1+(q+1)+1=1+q+1+1:=by omega
       simp only [af,ak,Nat.reduceAdd,e5,cp] at hv2
       have hpl2:(aT p).length=p.length:=bp ..
       have hp0':p.length≠0:=by simpa using hpn
       have hia:(aT p).all (fun e=>decide (e.length=1))=true:=by simp [aT]
       simp only [af,ak,Nat.reduceAdd,ar,ba] at hv hh
       refine aR (kT hv hh hg2 hjE hjl)
       refine fO (sz:=1) (by':=8) (es:=[[.int .i64 (i:Int)]]) (nb:=2) (mm:=p.length) (new:=(aT p).flatten) (by kernel_rfl) rfl (by simp) (by rw [<- hpl2];exact nH hia) hp0' (by simp only [af,ak];omega) ?_
       refine aA
       refine aF
       refine lV (r:=1) (ver:=q) (len:=1+q+1) (sz:=1) (by':=24) (mm:=1) (new:=[.osl 2 0 0 (1+p.length) 1 false]) (cs:=([AV.sl true []]::PE L).flatten) (by kernel_rfl) rfl (by rw [E8,hq];omega) rfl (by omega) ?_
       refine aA
       refine aR e4
       refine hK4.go ⟨j+1,hjl⟩ ?_ (by simp only;omega)
       simp only [hL1]
       rw [hv2,hh2]
       refine cA [2] (kp [0,1]) bX (fun r hr=>absurd hr (bm r)) ?_ ?_ ?_
       .simp only [wS,simprocAttr,dL,iD,true_or,true_and,and_true,af,ak]
        try (first|exact .inl (by congr 1;omega)|skip)
       .simp only [bg,bz,ab,aI,aB hbt];rfl
       .refine aA
        simp only [hY,ar,ba]
        refine ⟨.inr ⟨rfl,by simp only [aG,aP,aI,aB hte,ai],.inr ⟨.inl (by simp),.inl rfl⟩⟩,.inr ⟨rfl,?_,.inr ⟨.inl (by simp),.inr ⟨_,_,_,rfl,rfl,?_⟩⟩⟩,rfl,trivial⟩
        .exact dK (aB (qN _))
        .rw [FQ,<- ar,ei]
         refine K6 _ (.osl (cs:=[.int .i64 (i:Int)]++(aT p).flatten) (by simp) aZ (by simp [aT];omega) (by
          intro e he
          obtain ⟨y,_,rfl⟩:=cf.1 he
          rfl) ?_ (bD _))
         rw [co,bx]
         .rfl
         .rw [an,QY]
          simp
     .have hjb:j=B.length:=by simp [hbl] at h2;omega
      refine aR e1
      refine hK2.go ⟨i+1,hlt⟩ (Weak.ref ⟨?_,.inl ?_⟩) (by simp only;omega)
      .simp only [hpt,hL,hjb,bi]
       exact aZ
      .simp only [hpt,hL,hjb,bi]
       exact aZ
   .have hge:i=es.length:=by simp at h;omega
    have hta:es.take i=es:=by rw [hge,bi]
    obtain ⟨L,hL⟩:∃ x,x=T.pathss (es.take i) 0:=⟨_,rfl⟩
    have hL':=hL.symm
    have hpp:T.paths (.mk k n m es)=[]::L:=by rw [T.paths,hL,hta]
    have hle:=mD L
    by_cases hLn:L=[]
    .repeat' (first|(refine cC ?_;simp only [wS,simprocAttr,hL',hLn,PE,bu,m7])|refine aH|fail)
     refine aD rfl ?_
     refine aA
     rw [hpp,hLn];rfl
    .obtain ⟨q,hq⟩:∃ q,L.length=q+1:=⟨L.length - 1,by
      have:L.length≠0:=by simpa using hLn
      omega⟩
     obtain ⟨hv,hh⟩:=B4 (H:=[.cells 0 [.int .i64 k,.int .i64 n,.int .i64 m,.sl false EE]]) (base:=[[AV.sl true []]]) (r:=1) (sz:=1) (app:=PE L) (j:=q) (by rw [hle,hq])
     simp only [af,ak,Nat.reduceAdd,ar,ba,cp] at hv hh
     refine cP (eB hL' hv hh)
     refine Cont.go (by assumption) (cK (cA [1] (kp []) (l:=[(3,.sl false ([[AV.sl true []]]++PE L))]) (h:=[]) bX (fun r hr=>absurd hr (bm r)) ?_ ?_ ?_) ?_)
     .simp only [wS,simprocAttr,hL',hv,hh,dL,iD,and_true,false_or,reduceCtorEq]
      exact .osl (cs:=([AV.sl true []]::PE L).flatten) (by simp) aZ (by first|(simp [hle,hq];done)|(simp [hle,hq];omega)) (PX L) (by
       rw [co,bx (by have:=E8 L;omega)]) (qN L)
     .simp only [bg,bz,ab,aI,aB (qN L)]
     .simp only [wS,simprocAttr,hL',hh];simp only [hY,and_true];exact ⟨rfl,rfl⟩
     refine aF
     refine aD rfl ?_
     refine aA
     rw [hpp] at hwk ⊢
     simp only [AM.wk,gS,ar,ba,ay,J1]
     rfl
end Go.Proofs.YtggflhbigolakaaGreatDoor
