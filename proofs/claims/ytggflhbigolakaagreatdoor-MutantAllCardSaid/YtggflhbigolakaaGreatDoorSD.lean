import Derived.Test.YtggflhbigolakaaGreatDoorSC
import Derived.Test.YtggflhbigolakaaGreatDoorHS
import Derived.Test.YtggflhbigolakaaGreatDoorT1
import Derived.Test.YtggflhbigolakaaGreatDoorP5
import Derived.Test.YtggflhbigolakaaGreatDoorVA
import Derived.Test.YtggflhbigolakaaGreatDoorVF
set_option linter.unusedVariables false
set_option linter.unusedSimpArgs false
namespace Go.Proofs.YtggflhbigolakaaGreatDoor
open Go.AM
attribute [local irreducible] cG bG bI bL bW bZ aQ aV bN
set_option maxRecDepth 100000
theorem aAP (pk pn pm k n m:Int) (ps es:List T) (root:Bool) (mp:MP):T.mat (.mk pk pn pm ps) (.mk k n m es) root mp=
  if (pk==28)=true then (if decide (pn<0)=true then (false,mp) else if decide (pn > 7)=true then (false,mp) else match dG mp pn with
   |some x=>(T.cmp x (.mk k n m es)==0,mp)
   |none=>(true,mp++[(pn,.mk k n m es)]))
  else if (pk != k)=true then (false,mp) else if (pm != m)=true then (false,mp) else if (pn != n)=true then (if root=true then (if (!pn== -100)=true then (false,mp) else y9 ps es mp) else (false,mp)) else y9 ps es mp:=by
 rw [T.mat]
 simp only [T.kind,T.low,T.num,T.kids,y9,beq_iff_eq,decide_eq_true_eq,bne_iff_ne,ne_eq,Bool.not_eq_eq_eq_not,bf,beq_eq_false_iff_ne]
 by_cases h28:pk=28
 .rw [if_pos h28,if_pos h28]
  by_cases h0:pn<0
  .rw [if_pos (.inl h0),if_pos h0]
  .by_cases h7:7<pn
   .rw [if_pos (.inr h7),if_neg h0,if_pos h7]
   .rw [if_neg (by omega),if_neg h0,if_neg h7]
    all_goals (cases dG mp pn<;>rfl)
 .rw [if_neg h28,if_neg h28]
  by_cases hk:pk=k<;>by_cases hm:pm=m<;>by_cases hn:pn=n<;>by_cases h1:pn= -100<;>cases root<;>simp only [hk,hm,hn,h1,not_true_eq_false,not_false_eq_true,if_true,if_false,true_and,false_and,and_false,or_true,true_or,or_false,false_or,reduceCtorEq,aw]<;>simp_all
set_option maxHeartbeats 8000000 in
theorem aCj:∀ N:Nat,N<=1000000000000->aBp N:=by
 intro N
 induction N with
 |zero=>intro _ p hp;have:=T.size_pos p;omega
 |succ N ih=>
  intro hN p hp t ht root mp hm rows h3
  have h1t:=T.enc_tree p
  have h2t:=T.enc_tree t
  obtain ⟨pk,pn,pm,ps⟩:=p
  obtain ⟨xk,hxk⟩:∃ x,x=t:=⟨t,rfl⟩
  obtain ⟨k,n,m,es⟩:=t
  simp only [T.size] at hp
  have k58:=fun rows h3 h4=>YS (ih (by omega)) ps es (by omega) (by omega) (by simp only [T.size] at ht;omega) mp hm rows h3 h4
  have hsn:=JG mp pn (.mk k n m es)
  have kc:=fun x (h:T.size x<=1000000000000)=>SR _ x (.mk k n m es) h (by decide)
  rw [aAP]
  generalize y9 ps es mp=rl at k58
  simp only [T.enc] at h1t h2t k58 hsn kc ⊢
  generalize T.encs ps=A at h1t k58 ⊢
  generalize T.encs es=B at h2t k58 hsn kc ⊢
  clear ih hxk
  rcases hf:mK (sZ mp) pn 0 with _|j
  .rw [pW mp pn 0 hf]
   refine bT [.dead,.dead,.dead,cV mp] bX Tryz.func60 rfl (by kernel_rfl) (by simp [Tryz.ntmps60]) ?_ ?_ ?_ ?_ ?_ ?_ ?_
   .intro r hr
    replace hr:=aC hr
    rcases hr with rfl
    .exact h3.symm
   .intro r hr
    match r,hr with
    |0,_=>simp
    |1,_=>simp
    |2,_=>simp
    |3,hr=>exact absurd (by simp) hr
    |r+4,_=>simp
   .simp only [aP,aI,af,ak,Nat.reduceAdd,Nat.reduceLT,decide_true,ac,ab,ae];exact ⟨aB (by simpa only [aP,aI,ac,ab] using h1t),aB (by simpa only [aP,aI,ac,ab] using h2t)⟩
   .intro r hr
    replace hr:=aC hr
    rcases hr with rfl
    .rw [h3];exact eH _
   .intro r hr h
    replace hr:=aC hr
    simp only [af,ak] at h
    omega
   .simp
   simp only [Tryz.ntmps60,aK,Nat.reduceAdd,af,ak]
   have post:∀ (s:AS) (mq:MP),s.row 3=cV mq->∀ r∈[3],s.row r=upd rows [(3,cV mq)] r/\aG (fun r=>[3].contains r) (s.row r)=true:=fun s mq a r hr=>by
    rw [bd.1 hr,a]
    exact ⟨rfl,eH _⟩
   repeat' (first|(refine cC ?_;simp only [wS,simprocAttr,bf,be,cV,m6,hf])|refine aM|refine cM (k58 _ aZ aZ) (gR ?_))
   all_goals (refine aD rfl ⟨.inl ?_,?_,post _ _ ?_⟩<;>(simp only [wS,simprocAttr,aI,cV, *,if_true,if_false,aw];try first|exact rfl|exact hsn))
  .obtain ⟨x,_,hx,hlk⟩:=pV mp pn 0 j hf
   rw [dm] at hx
   have hv:=C6 hx
   have kx:=kc x (hm _ (aj hx))
   rw [hlk]
   obtain ⟨ya,yb,yc,yd,hye⟩:=aN x
   rw [hye] at hv kx
   refine bT [.dead,.dead,.dead,cV mp] bX Tryz.func60 rfl (by kernel_rfl) (by simp [Tryz.ntmps60]) ?_ ?_ ?_ ?_ ?_ ?_ ?_
   .intro r hr
    replace hr:=aC hr
    rcases hr with rfl
    .exact h3.symm
   .intro r hr
    match r,hr with
    |0,_=>simp
    |1,_=>simp
    |2,_=>simp
    |3,hr=>exact absurd (by simp) hr
    |r+4,_=>simp
   .simp only [aP,aI,af,ak,Nat.reduceAdd,Nat.reduceLT,decide_true,ac,ab,ae];exact ⟨aB (by simpa only [aP,aI,ac,ab] using h1t),aB (by simpa only [aP,aI,ac,ab] using h2t)⟩
   .intro r hr
    replace hr:=aC hr
    rcases hr with rfl
    .rw [h3];exact eH _
   .intro r hr h
    replace hr:=aC hr
    simp only [af,ak] at h
    omega
   .simp
   simp only [Tryz.ntmps60,aK,Nat.reduceAdd,af,ak]
   have post:∀ (s:AS) (mq:MP),s.row 3=cV mq->∀ r∈[3],s.row r=upd rows [(3,cV mq)] r/\aG (fun r=>[3].contains r) (s.row r)=true:=fun s mq a r hr=>by
    rw [bd.1 hr,a]
    exact ⟨rfl,eH _⟩
   repeat' (first|(refine cC ?_;simp only [wS,simprocAttr,bf,be,cV,m6,hf,hv])|refine aM|refine iP ?_|refine cM (k58 _ aZ aZ) (gR ?_))
   all_goals (refine aD rfl ⟨.inl ?_,?_,post _ _ ?_⟩<;>(simp only [wS,simprocAttr,aI,cV, *,if_true,if_false,aw];try first|exact rfl|exact hsn))
theorem vY (b:Bool):Pure Tryz.prog G0 76 [.sl b []] (.sl false []):=by
 refine bH bX Tryz.func76 rfl (by kernel_rfl) (by simp [Tryz.ntmps76]) (by simp [aP,aI,cQ]) (by simp [aI,cQ]) ?_
 simp only [Tryz.ntmps76,aK,Nat.reduceAdd]
 repeat' (first|(refine cC ?_;simp only [wS,simprocAttr,List.isEmpty_nil,bf])|refine aH|fail)
 refine ⟨?_,?_⟩<;>refine aF
 .refine aD rfl ?_
  refine aA
  rfl
 .refine tR (sz:=4) (by':=48) (new:=[]) (by kernel_rfl) (by simp) (by simp [cW]) (by simp) ?_
  refine aA
  refine aF
  refine aD rfl ?_
  refine aA
  rfl
theorem KO (es:List (List AV)) (hne:es≠[]) (ht:cQ aE es=true) (h4:∀ e∈es,e.length=4) (hl:es.length<=1000000000000):NN Tryz.prog G0 76 [.sl false es] es.length 4 false es.flatten:=by
 have hall:es.all (fun e=>decide (e.length=4))=true:=cl.2 fun e he=>by simpa using h4 e he
 refine iK bX Tryz.func76 rfl (by kernel_rfl) (by simp [Tryz.ntmps76]) (by simp only [aP,aI,ht,ai]) (dK ht) ?_
 simp only [Tryz.ntmps76,aK,Nat.reduceAdd]
 have hem:es.isEmpty=false:=by simpa using hne
 have hpos:0<es.length:=fh.2 hne
 refine f8 hem
 refine fO (sz:=4) (by':=48) (mm:=es.length) (new:=es.flatten) (es:=[]) (by kernel_rfl) ?hb (by simp) (nH hall) (by omega) (by simp only [ak];omega) ?_
 case hb=>refine aA;try exact rfl
 refine aA
 refine aF
 refine aD rfl ?_
 refine aA
 exact ⟨0,0,rfl,rfl⟩
theorem zY {L:List (List AV)} (h:∀ e∈L,e.length=4) {i:Nat} (hi:i<L.length) {x:List AV} (hx:x.length=4):List.take (i*4) L.flatten++x++List.drop (i*4+4) L.flatten=(L.set i x).flatten:=by
 induction L generalizing i with
 |nil=>simp at hi
 |cons a L ih=>
  have ha:a.length=4:=h a (by simp)
  cases i with
  |zero=>simp only [List.set_cons_zero,cw,Nat.zero_mul,ci,ba,cp];rw [List.drop_left' ha]
  |succ i=>
   have:=ih (fun e he=>h e (by simp [he])) (by simpa using hi)
   simp only [List.set_cons_succ,cw]
   rw [<- this,show (i+1)*4=a.length+i*4 by omega,show a.length+i*4+4=a.length+(i*4+4) by omega,List.take_length_add_append,List.drop_length_add_append]
   simp only [bj]
theorem DR {L:List (List AV)} (h:∀ e∈L,e.length=4) {i:Nat} {x:List AV} (hx:L[i]? =some x):List.take (i*4) L.flatten++x++List.drop (i*4+4) L.flatten=L.flatten:=by
 obtain ⟨h1,h2⟩:=aq.1 hx
 rw [zY h h1 (h x (aj hx)),<- h2,List.set_getElem_self]
set_option maxHeartbeats 4000000 in
theorem Z0:∀ (N:Nat) (t:T),T.size t<=N->N<=1000000000000->Pure Tryz.prog G0 62 [.agg (T.enc t)] (.agg (T.enc t)):=by
 intro N
 induction N with
 |zero=>intro t h;have:=T.size_pos t;omega
 |succ N ih=>
  intro t ht hN
  have htr:=T.enc_tree t
  have hwk:=T.wk_enc t
  obtain ⟨k,n,m,es⟩:=t
  have ih2:∀ e∈es,Pure Tryz.prog G0 62 [.agg (T.enc e)] (.agg (T.enc e)):=fun e he=>ih e (by have:=T.size_mem he;simp only [T.size] at ht;omega) (by omega)
  have hls:=T.len_sizes es
  simp only [T.size] at ht
  simp only [T.enc] at htr hwk ⊢
  have hgt:=fun (i:Nat) (e:T)=>T.encs_get (es:=es) (i:=i) (e:=e)
  have hln:=T.encs_len es
  have hte:=T.encs_tree es
  have he4:∀ e∈T.encs es,e.length=4:=fun e he=>by
   rw [T.encs_map] at he
   obtain ⟨y,_,rfl⟩:=cf.1 he
   exact T.enc_len y
  generalize T.encs es=E at hgt hln hte htr hwk he4 ⊢
  refine bH bX Tryz.func62 rfl (by kernel_rfl) (by simp [Tryz.ntmps62]) (by simp only [aP,aI,hte,ai]) (by simp only [aI];exact htr) ?_
  simp only [Tryz.ntmps62,aK,Nat.reduceAdd]
  refine jH ?_
  by_cases hne:E=[]
  .subst hne
   refine aF
   refine bO bX (vY false) ?_
   refine aA
   refine aF
   refine aJ (α:=Unit) (fun _=>[(1,.ptr 0 0 0),(2,.ptr 1 0 0),(11,.int .i64 0),(12,.int .i64 0)]) (fun _=>[.cells 0 [.int .i64 k,.int .i64 n,.int .i64 m,.sl false []],.cells 0 [.int .i64 0,.int .i64 0,.int .i64 0,.sl true []]]) (fun _=>0) () (Weak.ref ⟨?_,.inl ?_⟩) ?_
   .exact aZ
   .exact aZ
   .rintro _ K hK
    refine aF
    refine ⟨_,mQ,dB (v:=.agg [.int .i64 k,.int .i64 n,.int .i64 m,.sl false []]) rfl ?_ ?_⟩
    .refine aA
    .rw [AM.wk,hwk]
  .have hown:=KO E hne hte he4 (by omega)
   refine aF
   refine cM (hown _ 2 aZ) ?_
   refine aA
   refine aF
   refine aJ (α:={i:Nat // i<=es.length}) (fun i=>[(1,.ptr 0 0 0),(2,.ptr 1 0 0),(10,.osl 2 0 0 E.length 4 false),(11,.int .i64 (E.length:Nat)),(12,.int .i64 (i.1:Nat))]) (fun i=>[.cells 0 [.int .i64 k,.int .i64 n,.int .i64 m,.osl 2 0 0 E.length 4 false],.cells 0 [.int .i64 0,.int .i64 0,.int .i64 0,.sl true []],.cells 0 E.flatten]) (fun i=>es.length - i.1) ⟨0,az _⟩ (Weak.ref ⟨?_,.inl ?_⟩) ?_
   .exact aZ
   .exact aZ
   .rintro ⟨i,hi⟩ K hK
    by_cases hlt:i<es.length
    .have c1:decide (((i:Nat):Int)<((E.length:Nat):Int))=true:=by simp;omega
     obtain ⟨e,he⟩:∃ e,es[i]? =some e:=⟨_,ah hlt⟩
     have hg:=hgt i e he
     have hce:=ih2 e (aj he)
     have hfl:=GJ he4 hg
     have hfs:=DR he4 hg
     have hfll:E.flatten.length=E.length*4:=dE he4
     have hA:i<E.length:=by omega
     have e3:=aO (k:=i) hlt (by omega)
     have hb1:i*4+4<=E.length*4:=by omega
     obtain ⟨xa,xb,xc,xd,hxe⟩:=aN e
     rw [hxe] at hce hfl hfs
     rw [ar,ar,ar,ar,ba] at hfl
     refine c7 (eT hfl hfll c1 hA hlt hb1 e3)
     refine hK.go ⟨i+1,hlt⟩ aX (by simp only;omega)
     .exact aZ
     .simp only [wS,simprocAttr,hfs];try exact rfl
     .intro z hz
      replace hz:=aC hz
      rcases hz with rfl|rfl|rfl|rfl|rfl<;>first|rfl|rfl
     .refine aS;try exact ⟨rfl,rfl,dK (aB hte)⟩
    .have c1:decide (((i:Nat):Int)<((E.length:Nat):Int))=false:=by simp;omega
     refine aR c1
     refine ⟨_,d7 [2] [(2,.ptr 1 0 0)] [.cells 0 [.int .i64 k,.int .i64 n,.int .i64 m,.osl 2 0 0 E.length 4 false],.cells 0 [.int .i64 k,.int .i64 n,.int .i64 m,.sl false E],.dead] rfl ⟨.inl ?_,trivial⟩ ?_,dB (v:=.agg [.int .i64 k,.int .i64 n,.int .i64 m,.sl false E]) rfl ?_ ?_⟩
     .refine aA
     .refine ⟨.inr ⟨by simp,.inl rfl⟩,.inr ⟨by simp,.inr ⟨0,_,_,rfl,rfl,.inl rfl,.inl rfl,.inl rfl,.inr (.osl (cs:=E.flatten) (by simp) lQ rfl he4 ?_ hte),trivial⟩⟩,.inl ⟨by simp,rfl,by simp⟩,trivial⟩
      rw [co,bx (by rw [dE he4];exact ap _)]
     .refine aA
     .rw [AM.wk,hwk]
theorem MJ (es:List (List AV)) (hne:es≠[]) (ht:cQ aE es=true) (h4:∀ e∈es,e.length=4) (hl:es.length<=2000000000000):NN Tryz.prog G0 76 [.sl false es] es.length 4 false es.flatten:=by
 have hall:es.all (fun e=>decide (e.length=4))=true:=cl.2 fun e he=>by simpa using h4 e he
 refine iK bX Tryz.func76 rfl (by kernel_rfl) (by simp [Tryz.ntmps76]) (by simp only [aP,aI,ht,ai]) (dK ht) ?_
 simp only [Tryz.ntmps76,aK,Nat.reduceAdd]
 have hem:es.isEmpty=false:=by simpa using hne
 have hpos:0<es.length:=fh.2 hne
 refine f8 hem
 refine fO (sz:=4) (by':=48) (mm:=es.length) (new:=es.flatten) (es:=[]) (by kernel_rfl) ?hb (by simp) (nH hall) (by omega) (by simp only [ak];omega) ?_
 case hb=>refine aA;try exact rfl
 refine aA
 refine aF
 refine aD rfl ?_
 refine aA
 exact ⟨0,0,rfl,rfl⟩
set_option maxHeartbeats 4000000 in
theorem aAO:∀ (N:Nat) (t:T),T.size t<=N->N<=2000000000000->Pure Tryz.prog G0 40 [.agg (T.enc t)] (.agg (T.enc t)):=by
 intro N
 induction N with
 |zero=>intro t h;have:=T.size_pos t;omega
 |succ N ih=>
  intro t ht hN
  have htr:=T.enc_tree t
  have hwk:=T.wk_enc t
  obtain ⟨k,n,m,es⟩:=t
  have ih2:∀ e∈es,Pure Tryz.prog G0 40 [.agg (T.enc e)] (.agg (T.enc e)):=fun e he=>ih e (by have:=T.size_mem he;simp only [T.size] at ht;omega) (by omega)
  have hls:=T.len_sizes es
  simp only [T.size] at ht
  simp only [T.enc] at htr hwk ⊢
  have hgt:=fun (i:Nat) (e:T)=>T.encs_get (es:=es) (i:=i) (e:=e)
  have hln:=T.encs_len es
  have hte:=T.encs_tree es
  have he4:∀ e∈T.encs es,e.length=4:=fun e he=>by
   rw [T.encs_map] at he
   obtain ⟨y,_,rfl⟩:=cf.1 he
   exact T.enc_len y
  generalize T.encs es=E at hgt hln hte htr hwk he4 ⊢
  refine bH bX Tryz.func40 rfl (by kernel_rfl) (by simp [Tryz.ntmps40]) (by simp only [aP,aI,hte,ai]) (by simp only [aI];exact htr) ?_
  simp only [Tryz.ntmps40,aK,Nat.reduceAdd]
  refine jH ?_
  by_cases hne:E=[]
  .subst hne
   refine aF
   refine bO bX (vY false) ?_
   refine aA
   refine aF
   refine aJ (α:=Unit) (fun _=>[(1,.ptr 0 0 0),(2,.ptr 1 0 0),(11,.int .i64 0),(12,.int .i64 0)]) (fun _=>[.cells 0 [.int .i64 k,.int .i64 n,.int .i64 m,.sl false []],.cells 0 [.int .i64 0,.int .i64 0,.int .i64 0,.sl true []]]) (fun _=>0) () (Weak.ref ⟨?_,.inl ?_⟩) ?_
   .exact aZ
   .exact aZ
   .rintro _ K hK
    refine aF
    refine ⟨_,mQ,dB (v:=.agg [.int .i64 k,.int .i64 n,.int .i64 m,.sl false []]) rfl ?_ ?_⟩
    .refine aA
    .rw [AM.wk,hwk]
  .have hown:=MJ E hne hte he4 (by omega)
   refine aF
   refine cM (hown _ 2 aZ) ?_
   refine aA
   refine aF
   refine aJ (α:={i:Nat // i<=es.length}) (fun i=>[(1,.ptr 0 0 0),(2,.ptr 1 0 0),(10,.osl 2 0 0 E.length 4 false),(11,.int .i64 (E.length:Nat)),(12,.int .i64 (i.1:Nat))]) (fun i=>[.cells 0 [.int .i64 k,.int .i64 n,.int .i64 m,.osl 2 0 0 E.length 4 false],.cells 0 [.int .i64 0,.int .i64 0,.int .i64 0,.sl true []],.cells 0 E.flatten]) (fun i=>es.length - i.1) ⟨0,az _⟩ (Weak.ref ⟨?_,.inl ?_⟩) ?_
   .exact aZ
   .exact aZ
   .rintro ⟨i,hi⟩ K hK
    by_cases hlt:i<es.length
    .have c1:decide (((i:Nat):Int)<((E.length:Nat):Int))=true:=by simp;omega
     obtain ⟨e,he⟩:∃ e,es[i]? =some e:=⟨_,ah hlt⟩
     have hg:=hgt i e he
     have hce:=ih2 e (aj he)
     have hfl:=GJ he4 hg
     have hfs:=DR he4 hg
     have hfll:E.flatten.length=E.length*4:=dE he4
     have hA:i<E.length:=by omega
     have e3:=aO (k:=i) hlt (by omega)
     have hb1:i*4+4<=E.length*4:=by omega
     obtain ⟨xa,xb,xc,xd,hxe⟩:=aN e
     rw [hxe] at hce hfl hfs
     rw [ar,ar,ar,ar,ba] at hfl
     refine c7 (eT hfl hfll c1 hA hlt hb1 e3)
     refine hK.go ⟨i+1,hlt⟩ aX (by simp only;omega)
     .exact aZ
     .simp only [wS,simprocAttr,hfs];try exact rfl
     .intro z hz
      replace hz:=aC hz
      rcases hz with rfl|rfl|rfl|rfl|rfl<;>first|rfl|rfl
     .refine aS;try exact ⟨rfl,rfl,dK (aB hte)⟩
    .have c1:decide (((i:Nat):Int)<((E.length:Nat):Int))=false:=by simp;omega
     refine aR c1
     refine ⟨_,d7 [2] [(2,.ptr 1 0 0)] [.cells 0 [.int .i64 k,.int .i64 n,.int .i64 m,.osl 2 0 0 E.length 4 false],.cells 0 [.int .i64 k,.int .i64 n,.int .i64 m,.sl false E],.dead] rfl ⟨.inl ?_,trivial⟩ ?_,dB (v:=.agg [.int .i64 k,.int .i64 n,.int .i64 m,.sl false E]) rfl ?_ ?_⟩
     .refine aA
     .refine ⟨.inr ⟨by simp,.inl rfl⟩,.inr ⟨by simp,.inr ⟨0,_,_,rfl,rfl,.inl rfl,.inl rfl,.inl rfl,.inr (.osl (cs:=E.flatten) (by simp) lQ rfl he4 ?_ hte),trivial⟩⟩,.inl ⟨by simp,rfl,by simp⟩,trivial⟩
      rw [co,bx (by rw [dE he4];exact ap _)]
     .refine aA
     .rw [AM.wk,hwk]
theorem T.sizes_set:∀ {es:List T} {j:Nat} {e u:T},es[j]? =some e->T.sizes (es.set j u)+T.size e=T.sizes es+T.size u
 | [],j,e,u,h=>by simp at h
 |x::es,0,e,u,h=>by
  obtain rfl:x=e:=by simpa using h
  simp only [List.set_cons_zero,T.sizes];omega
 |x::es,j+1,e,u,h=>by
  have:=T.sizes_set (es:=es) (j:=j) (e:=e) (u:=u) (by simpa using h)
  simp only [List.set_cons_succ,T.sizes];omega
theorem G8 {rows:Nat->ARow} {fp:List Nat} {a b c:AV} (h:Lend rows fp a b) (e:AM.wk b=c):Lend rows fp a c:=e ▸ h.weak
section
variable {P:Program} {G:Nat->Option (List AV)} {n:Nat} {K:Option eV->AS->Prop} {d:Option Tmp} {rest:List nA} {m:Option eV} {fp:List Nat} {s:AS} {t u:TypeId} {sz by':Nat} {x:AV} {rows:Nat->ARow} {nb mm:Nat} {new:List AV}
end
end Go.Proofs.YtggflhbigolakaaGreatDoor
set_option maxRecDepth 100000
namespace Go.Proofs.YtggflhbigolakaaGreatDoor
open Go.AM
theorem S3 (t:T):fM [] t=T.paths t:=by simp [fM]
theorem M9 (t:T) (ht:T.size t<=100000000000):Pure Tryz.prog G0 67 [.agg (T.enc t)] (.sl false (PE (T.paths t))):=by
 have h:=TS (D:=100000000000) t (by omega) (by decide) (by rw [S4];omega)
 rwa [S3] at h
theorem J0 {f:FuncId} {a c:List AV} {res:AV} (h:Pure Tryz.prog G0 f [.agg c] res) (ht:aP aE a=true) (e:wkL a=c):Pure Tryz.prog G0 f [.agg a] res:=
 h.lend bX (.cons (G8 (.same (by simpa only [aI] using ht)) (by rw [AM.wk,e])) .nil)
attribute [local irreducible] cG bG bI bL bW bZ aQ aV bN
theorem kr {s:AS} {fp:List Nat} {q:Nat->Bool} {k:Nat} {x:ARow} (h1:q k=true) (h2:aG q x=true) (h3:k ∉ fp):(q k=false/\x=.none)\/(q k=true/\aG q x=true/\jW s.row fp k x x):=.inr ⟨h1,h2,.inr ⟨.inl h3,.inl rfl⟩⟩
namespace T
def zero:T:=.mk 0 0 0 []
mutual
def put (mp:MP) (nn:Int):T->T
 |mk k n m ps=>if k=28 then (dG mp n).getD zero else mk k (if n= -100 then nn else n) m (puts mp nn ps)
def puts (mp:MP) (nn:Int):List T->List T
 | []=>[]
 |e::es=>put mp nn e::puts mp nn es
end
theorem puts_map (mp:MP) (nn:Int) (es:List T):puts mp nn es=es.map (put mp nn):=by induction es<;>simp_all [puts]
theorem look_good {B:Nat}:∀ {mp:MP},jZ B mp->∀ n,1<=B->size ((dG mp n).getD zero)<=B
 | [],_,n,hB=>by simpa [dG,zero,size,sizes] using hB
 |x::mp,h,n,hB=>by
  rw [dG]
  split
  .exact h x (by simp)
  .exact look_good (fun y hy=>h y (by simp [hy])) n hB
mutual
theorem put_size {B:Nat} {mp:MP} (h:jZ B mp) (hB:1<=B) (nn:Int):∀ t:T,size (put mp nn t)<=size t*B
 |mk k n m ps=>by
  have h1:=CM h hB nn ps
  rw [put]
  split
  .have:=look_good h n hB
   simp only [size]
   exact dj this (Nat.le_mul_of_pos_left B (by omega))
  .simp only [size,eh,Nat.one_mul];omega
theorem CM {B:Nat} {mp:MP} (h:jZ B mp) (hB:1<=B) (nn:Int):∀ ts:List T,sizes (puts mp nn ts)<=sizes ts*B
 | []=>by simp [puts,sizes]
 |t::ts=>by
  have h1:=put_size h hB nn t
  have h2:=CM h hB nn ts
  simp only [puts,sizes,eh];omega
end
end T
def aDj (N:Nat):Prop:=∀ x:T,T.size x<=N->∀ (mp:MP),jZ 1000000000000 mp->∀ (ck cn cm:Int) (CE:List (List AV)),cQ aE CE=true->∀ rows:Nat->ARow,
 rows 1=.cells 0 [.int .i64 ck,.int .i64 cn,.int .i64 cm,.sl false CE]->rows 3=cV mp->rows 4=.cells 0 [.omp 3]->rows 5=.cells 0 [.fn (.func 61) [] [.ptr 4 0 0,.ptr 1 0 0,.ptr 5 0 0]]->
 c8 Tryz.prog G0 61 [.agg (T.enc x),.ptr 4 0 0,.ptr 1 0 0,.ptr 5 0 0] rows [1,3,4,5] ⟨.agg (T.enc (T.put mp cn x)),[]⟩
set_option maxHeartbeats 8000000 in
theorem aAz : ∀ N : Nat, N <= 1000000000000 -> aDj N := by
 intro N
 induction N with
 |zero=>intro _ x hx;have:=T.size_pos x;omega
 | succ N ih =>
  intro hN x hx mp hm ck cn cm CE hCE rows h1 h3 h4 h5
  have ih:=ih (by omega)
  have htx:=T.enc_tree x
  obtain ⟨k,n,m,es⟩:=x
  have hls:=T.len_sizes es
  simp only [T.size] at hx
  have hot:=T.enc_tree (T.put mp cn (.mk k n m es))
  have how:=T.wk_enc (T.put mp cn (.mk k n m es))
  obtain ⟨out,hout⟩:∃ o,o=T.put mp cn (.mk k n m es):=⟨_,rfl⟩
  rw [<- hout] at hot how ⊢
  rw [T.put] at hout
  simp only [T.enc] at htx ⊢
  have hgt:=fun (i:Nat) (e:T)=>T.encs_get (es:=es) (i:=i) (e:=e)
  have hln:=T.encs_len es
  have hte:=T.encs_tree es
  generalize T.encs es=XE at htx hgt hln hte ⊢
  refine bT [.dead,.cells 0 [.int .i64 ck,.int .i64 cn,.int .i64 cm,.sl false CE],.dead,cV mp,.cells 0 [.omp 3],.cells 0 [.fn (.func 61) [] [.ptr 4 0 0,.ptr 1 0 0,.ptr 5 0 0]]] bX Tryz.func61 rfl (by kernel_rfl) (by simp [Tryz.ntmps61]) ?_ ?_ ?_ ?_ ?_ ?_ ?_
  .intro r hr
   replace hr:=aC hr
   rcases hr with rfl|rfl|rfl|rfl
   .exact h1.symm
   .exact h3.symm
   .exact h4.symm
   .exact h5.symm
  .intro r hr
   match r,hr with
   |0,_=>simp
   |1,hr=>exact absurd (by simp) hr
   |2,_=>simp
   |3,hr=>exact absurd (by simp) hr
   |4,hr=>exact absurd (by simp) hr
   |5,hr=>exact absurd (by simp) hr
   |r+6,_=>simp
  .simp only [aP,aI,af,ak,Nat.reduceAdd,Nat.reduceLT,decide_true,ac,ab];exact aB hte
  .intro r hr
   replace hr:=aC hr
   rcases hr with rfl|rfl|rfl|rfl
   .rw [h1];exact (by simp only [aG,aP,aI,ac,ab];exact aB hCE)
   .rw [h3];exact eH _
   .rw [h4];exact rfl
   .rw [h5];exact rfl
  .intro r hr h
   replace hr:=aC hr
   simp only [af,ak] at h
   omega
  .simp
  simp only [Tryz.ntmps61,aK,Nat.reduceAdd,af,ak]
  have post:∀ s:AS,s.row 1=.cells 0 [.int .i64 ck,.int .i64 cn,.int .i64 cm,.sl false CE]->s.row 3=cV mp->s.row 4=.cells 0 [.omp 3]->s.row 5=.cells 0 [.fn (.func 61) [] [.ptr 4 0 0,.ptr 1 0 0,.ptr 5 0 0]]->∀ v,(v=.agg (T.enc out)\/AM.wk v=.agg (T.enc out))->aI aE v=true->
    (v=(eL.mk (.agg (T.enc out)) []).val\/AM.wk v=(eL.mk (.agg (T.enc out)) []).val)/\aI (fun r=>[1,3,4,5].contains r) v=true/\∀ r∈[1,3,4,5],s.row r=upd rows (eL.mk (.agg (T.enc out)) []).wr r/\aG (fun r=>[1,3,4,5].contains r) (s.row r)=true:=fun s a1 a3 a4 a5 v hv ht=>by
   refine ⟨hv,GD ht,fun r hr=>?_⟩
   replace hr:=aC hr
   rcases hr with rfl|rfl|rfl|rfl
   .rw [a1];exact ⟨h1.symm,by simp only [aG,aP,aI,aB hCE,ai]⟩
   .rw [a3];exact ⟨h3.symm,eH _⟩
   .rw [a4];exact ⟨h4.symm,rfl⟩
   .rw [a5];exact ⟨h5.symm,rfl⟩
  refine jH ?_
  by_cases hk:k=28
  .have e28:(k==28)=true:=by simp [hk]
   rw [if_pos hk] at hout
   have hsz:=T.look_good hm n (by decide)
   rw [<- hout] at hsz
   have hcl:=Z0 _ out (ap _) hsz
   obtain ⟨oa,ob,oc,od,hoe⟩:=aN out
   rw [hoe] at hcl hot post ⊢
   cases hf:mK (sZ mp) n 0 with
   |some j=>
    obtain ⟨y,_,hy,hlk⟩:=pV mp n 0 j hf
    rw [dm] at hy
    have hv:=C6 hy
    rw [hlk,eu] at hout
    rw [<- hout,hoe] at hv
    repeat' (first|(refine cC ?_;simp only [wS,simprocAttr,e28,cV,m6,hf,hv])|refine aH|fail)
    refine bO bX hcl ?_
    simp only [wS,simprocAttr,cV]
    repeat' (first|(refine cC ?_;simp only [wS,simprocAttr,cV])|refine aH|fail)
    refine ⟨_,mQ,dB (v:=.agg [.int .i64 oa,.int .i64 ob,.int .i64 oc,.sl false od]) rfl ?_ (post _ ?_ ?_ ?_ ?_ _ (.inl rfl) (by simpa only [aI] using hot))⟩<;>(simp only [wS,simprocAttr,cV];try exact rfl)
   |none=>
    rw [pW mp n 0 hf,Option.getD_none] at hout
    obtain ⟨rfl,rfl,rfl,rfl⟩:oa=0/\ob=0/\oc=0/\od=[]:=by
     rw [hout,T.zero,T.enc,T.encs] at hoe
     simp only [de,AV.int.injEq,AV.sl.injEq,true_and,and_true] at hoe
     exact ⟨hoe.1.symm,hoe.2.1.symm,hoe.2.2.1.symm,hoe.2.2.2.symm⟩
    have hcl:=J0 (a:=[.int .i64 0,.int .i64 0,.int .i64 0,.sl true []]) hcl rfl rfl
    repeat' (first|(refine cC ?_;simp only [wS,simprocAttr,e28,cV,m6,hf])|refine aH|fail)
    refine bO bX hcl ?_
    simp only [wS,simprocAttr,cV]
    repeat' (first|(refine cC ?_;simp only [wS,simprocAttr,cV])|refine aH|fail)
    refine ⟨_,mQ,dB (v:=.agg [.int .i64 0,.int .i64 0,.int .i64 0,.sl false []]) rfl ?_ (post _ ?_ ?_ ?_ ?_ _ (.inl rfl) rfl)⟩<;>(simp only [wS,simprocAttr,cV];try exact rfl)
  .have e28 : (k == 28) = false := by simp [hk]
   rw [if_neg hk] at hout
   obtain ⟨n',hn'⟩:∃ x:Int,x=(if n= -100 then cn else n):=⟨_,rfl⟩
   rw [<- hn',T.puts_map] at hout
   have hpt:∀ l:List T,cQ aE (l.map fun e=>T.enc (T.put mp cn e))=true:=fun l=>by
    have:=T.encs_tree (l.map (T.put mp cn))
    rw [T.encs_map,gn] at this
    exact this
   have hps:∀ l:List T,∀ e∈l.map (fun e=>T.enc (T.put mp cn e)),e.length=4:=fun l e he=>by
    obtain ⟨y,_,rfl⟩:=cf.1 he
    exact T.enc_len _
   have hoe:T.enc out=[.int .i64 k,.int .i64 n',.int .i64 m,.sl false (es.map fun e=>T.enc (T.put mp cn e))]:=by
    rw [hout,T.enc,T.encs_map,gn];rfl
   rw [hoe] at hot how post ⊢
   have hnn:(n== -100)=true/\n'=cn\/(n== -100)=false/\n'=n:=by
    by_cases h:n= -100
    .exact .inl ⟨by simp [h],by rw [hn',if_pos h]⟩
    .exact .inr ⟨by simp [h],by rw [hn',if_neg h]⟩
   rcases hnn with ⟨e100,e'⟩|⟨e100,e'⟩
   all_goals
    refine aR (bF e28 e100)
    refine aJ (α:={i:Nat // i<=es.length}) (fun i=>[(1,.ptr 4 0 0),(2,.ptr 1 0 0),(3,.ptr 5 0 0),(4,.ptr 6 0 0),(5,.ptr 7 0 0),(6,.ptr 8 0 0),(31,.sl false XE),(32,.int .i64 (XE.length:Nat)),(33,.int .i64 (i.1:Nat))]) (fun i=>[.dead,.cells 0 [.int .i64 ck,.int .i64 cn,.int .i64 cm,.sl false CE],.dead,cV mp,.cells 0 [.omp 3],.cells 0 [.fn (.func 61) [] [.ptr 4 0 0,.ptr 1 0 0,.ptr 5 0 0]],.cells 0 [.int .i64 k,.int .i64 n,.int .i64 m,.sl false XE],.cells 0 [.int .i64 0,.int .i64 0,.int .i64 0,.sl true []],.cells 0 [.int .i64 k,.int .i64 n',.int .i64 m,rv 9 (i.1 - 1) 4 ((es.take i.1).map fun e=>T.enc (T.put mp cn e))],eX (i.1 - 1) ((es.take i.1).map fun e=>T.enc (T.put mp cn e))]) (fun i=>es.length - i.1) ⟨0,az _⟩ (cA [] (kp [0,1,2,3,4,5,6,7,8,9]) bX (fun r hr=>by have h6:r<6:=hr;clear hr;simp [kp];omega) ?_ ?_ ?_) ?_
    .simp only [wS,simprocAttr,dL,iD,and_true,true_or]
    .simp only [bg,bz,ab,ae,aI,aB hte];exact ⟨rfl,rfl,rfl,rfl,rfl,rfl⟩
    .simp only [wS,simprocAttr,ci,bu,eI,eG,e']
     simp only [hY,and_true]
     exact ⟨kr rfl rfl (by simp),kr rfl (by simp only [aG,aP,aI,ac,ab];exact aB hCE) (by simp),kr rfl rfl (by simp),kr rfl (eH _) (by simp),kr rfl rfl (by simp),kr rfl rfl (by simp),kr rfl (by simp only [aG,aP,aI,ac,ab];exact aB hte) (by simp),kr rfl rfl (by simp),.inr ⟨rfl,rfl,.inr ⟨.inl (by simp),.inr ⟨0,_,_,rfl,rfl,.inl rfl,.inl rfl,.inl rfl,.inr .toRsv,trivial⟩⟩⟩⟩
    .rintro ⟨i,hi⟩ K3 hK3
     try simp only at hi
     have hal:((es.take i).map fun e=>T.enc (T.put mp cn e)).length=i:=by rw [bp,cr];omega
     by_cases hlt:i<es.length
     .have c1:decide (((i:Nat):Int)<((XE.length:Nat):Int))=true:=by simp;omega
      have hltE:i<XE.length:=by omega
      obtain ⟨e,he⟩:∃ e,es[i]? =some e:=⟨_,ah hlt⟩
      have hg:=hgt i e he
      have hce:=fun rows h1 h3 h4 h5=>ih e (by have:=T.size_mem (aj he);omega) mp hm ck cn cm CE hCE rows h1 h3 h4 h5
      have htk:=kH (f:=fun e=>T.enc (T.put mp cn e)) he
      have e3:=aO (k:=i) hlt (by omega)
      obtain ⟨xa,xb,xc,xd,hxe⟩:=aN e
      obtain ⟨pa,pb,pc,pd,hpp⟩:=aN (T.put mp cn e)
      rw [hxe] at hg hce
      rw [hpp] at hce htk
      have hps':=hps (es.take i)
      have hpn:=hpt (es.take (i+1))
      have hvv:i=if ((es.take i).map fun e=>T.enc (T.put mp cn e))=[] then 0 else i - 1+1:=by
       by_cases h0:((es.take i).map fun e=>T.enc (T.put mp cn e))=[]
       .rw [if_pos h0];rw [h0] at hal;simpa using hal.symm
       .rw [if_neg h0]
        have:i≠0:=fun hz=>h0 (by rw [hz];rfl)
        omega
      repeat' (first|(refine cC ?_;simp only [wS,simprocAttr,hg,hltE,c1,e3,↓bM,↓aY])|refine aM|refine cM (hce _ aZ aZ aZ aZ) (gR ?_)|refine cL (v':=i) (es:=[[.int .i64 pa,.int .i64 pb,.int .i64 pc,.sl false pd]]) (by':=48) (by kernel_rfl) aZ hvv hps' (by simp [cW]) (by simp) (by rw [hal];simp only [am];omega) (gR ?_))
      refine hK3.go ⟨i+1,hlt⟩ aX (by simp only;omega)
      .simp only [wS,simprocAttr,↓bM,↓aY];try exact rfl
      .simp only [wS,simprocAttr,cj,htk];try exact rfl
      .intro z hz
       replace hz:=aC hz
       rcases hz with rfl|rfl|rfl|rfl|rfl|rfl|rfl|rfl|rfl<;>first|rfl|(simp only [aI];exact aB hte)
      .refine aS;try exact ⟨rfl,(by simp only [aG,aP,aI,ac,ab];exact aB hCE),rfl,eH _,rfl,rfl,(by simp only [aG,aP,aI,ac,ab];exact aB hte),rfl,by simp only [aG,aP,aI,ac,ab];exact bU rfl,bA (aB (hpt _))⟩
     .have c1:decide (((i:Nat):Int)<((XE.length:Nat):Int))=false:=by simp;omega
      obtain rfl:i=es.length:=by omega
      rw [bi] at hal
      repeat' (first|(refine cC ?_;simp only [wS,simprocAttr,bi,c1])|refine sI|fail)
      refine Cont.go (by assumption) ?_
      repeat' (first|(refine cC ?_;simp only [wS,simprocAttr,bi,c1])|refine sI|fail)
      refine Cont.go (by assumption) (cK (cA [9] (kp [0,1,2,3,4,5,6,7,8]) (l:=[(5,.ptr 7 0 0),(6,.ptr 8 0 0)]) (h:=[.dead,.cells 0 [.int .i64 ck,.int .i64 cn,.int .i64 cm,.sl false CE],.dead,cV mp,.cells 0 [.omp 3],.cells 0 [.fn (.func 61) [] [.ptr 4 0 0,.ptr 1 0 0,.ptr 5 0 0]],.cells 0 [.int .i64 k,.int .i64 n,.int .i64 m,.sl false XE],.cells 0 [.int .i64 0,.int .i64 0,.int .i64 0,.sl true []],.cells 0 [.int .i64 k,.int .i64 n',.int .i64 m,.sl false (es.map fun e=>T.enc (T.put mp cn e))]]) bX (fun r hr=>by have h6:r<6:=hr;clear hr;simp [kp];omega) ?_ ?_ ?_) ?_)
      .simp only [wS,simprocAttr,dL,iD,and_true,true_or]
      .rfl
      .simp only [wS,simprocAttr,bi]
       simp only [hY,and_true]
       exact ⟨kr rfl rfl (by simp),kr rfl (by simp only [aG,aP,aI,ac,ab];exact aB hCE) (by simp),kr rfl rfl (by simp),kr rfl (eH _) (by simp),kr rfl rfl (by simp),kr rfl rfl (by simp),kr rfl (by simp only [aG,aP,aI,ac,ab];exact aB hte) (by simp),kr rfl rfl (by simp),.inr ⟨rfl,by simp only [aG,aP,aI,ac,ab];exact aB (hpt es),.inr ⟨.inl (by simp),.inr ⟨0,_,_,rfl,rfl,.inl rfl,.inl rfl,.inl rfl,.inr (eA (v:=es.length - 1) rfl (by simp) (hps es) (hpt es)),trivial⟩⟩⟩,rfl⟩
      refine aF
      refine ⟨_,mQ,dB (v:=.agg [.int .i64 k,.int .i64 n',.int .i64 m,.sl false (es.map fun e=>T.enc (T.put mp cn e))]) rfl ?_ (post _ ?_ ?_ ?_ ?_ _ (.inl rfl) (by simpa only [aI] using hot))⟩<;>(refine aA;try exact rfl)
set_option maxHeartbeats 8000000 in
theorem aA1 (t:T):Pure Tryz.prog G0 127 [.agg (T.enc t)] (.bool (T.hole t)):=by
 have htr:=T.enc_tree t
 obtain ⟨V,hV⟩:∃ V,V=T.hole t:=⟨_,rfl⟩
 rw [<- hV]
 obtain ⟨k,n,m,es⟩:=t
 simp only [T.hole,T.kind,T.num,T.low,T.kids] at hV
 have hE:es.isEmpty=decide (es.length=0):=by cases es<;>rfl
 rw [hE] at hV
 refine aL bX Tryz.func127 rfl (by kernel_rfl) (by simp [Tryz.ntmps127]) (by simp only [aP,aI,htr,ai]) rfl ?_
 simp only [Tryz.ntmps127,aK,Nat.reduceAdd,T.enc]
 have hln:=T.encs_len es
 generalize T.encs es=EE at hln
 refine HQ
 all_goals (refine aD rfl ?_;refine aA;refine congrArg AV.bool ?_;rw [hV];by_cases h1:k=28<;>by_cases h2:0<=n<;>by_cases h5:n<=7<;>by_cases h3:m=0<;>by_cases h4:es.length=0<;>first|(simp_all;done)|(simp_all<;>omega))
namespace T
theorem fines_all (r:Bool):∀ es:List T,jN r es=es.all (fine r r)
 | []=>rfl
 |e::es=>by rw [jN,fines_all r es,bg]
end T
set_option maxHeartbeats 8000000 in
theorem V0 : ∀ (N : Nat) (root rest : Bool) (t : T), T.size t <= N -> N <= 1000000000000 -> Pure Tryz.prog G0 110 [.agg (T.enc t), .bool root, .bool rest] (.bool (T.fine root rest t)) := by
 intro N
 induction N with
 |zero=>intro _ _ t h;have:=T.size_pos t;omega
 | succ N ih =>
  intro root rest t ht hN
  have kh:=aA1 t
  have htr:=T.enc_tree t
  obtain ⟨k,n,m,es⟩:=t
  have ih2:∀ e∈es,Pure Tryz.prog G0 110 [.agg (T.enc e),.bool rest,.bool rest] (.bool (T.fine rest rest e)):=fun e he=>ih rest rest e (by have:=T.size_mem he;simp only [T.size] at ht;omega) (by omega)
  have hls:=T.len_sizes es
  simp only [T.size] at ht
  obtain ⟨V,hV⟩:∃ V,V=T.fine root rest (.mk k n m es):=⟨_,rfl⟩
  rw [<- hV]
  rw [T.fine,T.fines_all] at hV
  generalize T.hole (.mk k n m es)=hl at kh hV
  have ho:hl=hl:=rfl
  refine aL bX Tryz.func110 rfl (by kernel_rfl) (by simp [Tryz.ntmps110]) (by simp only [aP,aI,htr,ai]) rfl ?_
  simp only [Tryz.ntmps110,aK,Nat.reduceAdd]
  simp only [T.enc] at kh ⊢
  have hgt:=fun (i:Nat) (e:T)=>T.encs_get (es:=es) (i:=i) (e:=e)
  have hln:=T.encs_len es
  have hte:=T.encs_tree es
  generalize T.encs es=EE at hgt hln hte kh
  refine jI
  all_goals first
   |(refine aD rfl ?_;refine aA;refine congrArg AV.bool ?_;rw [hV];by_cases hkk:k=28<;>by_cases hk0:0<=k<;>by_cases hk1:k<=28<;>by_cases hnn:n= -100<;>first|(simp_all;done)|(simp_all<;>omega))
   | (have hV2 : V = es.all (T.fine rest rest) := by
       rw [hV];by_cases hkk:k=28<;>by_cases hk0:0<=k<;>by_cases hk1:k<=28<;>by_cases hnn:n= -100<;>first|(simp_all;done)|(simp_all<;>omega)
      clear hV kh
      refine aJ (α:={i:Nat // i<=es.length/\∀ e∈es.take i,T.fine rest rest e=true}) (fun i=>[(2,.bool rest),(3,.ptr 0 0 0),(7,.int .i64 (i.1:Nat))]) (fun i=>[.cells 0 [.int .i64 k,.int .i64 n,.int .i64 m,.sl false EE]]) (fun i=>es.length - i.1) ⟨0,az _,by simp⟩ (Weak.ref ⟨?_,.inl ?_⟩) ?_
      .exact aZ
      .exact aZ
      .rintro ⟨i,hi,hall⟩ K1 hK1
       by_cases hlt:i<es.length
       .have hd:decide ((i:Int)<((EE.length:Nat):Int))=true:=by simp;omega
        have hlt':i<EE.length:=by omega
        obtain ⟨e,he⟩:∃ e,es[i]? =some e:=⟨_,ah hlt⟩
        have hg1:=hgt i e he
        have ke:=ih2 e (aj he)
        have e1:=aO (k:=i) hlt (by omega)
        have hee:=aj he
        generalize hfe:T.fine rest rest e=fe at ke
        obtain ⟨ek,en,em,ees,hen⟩:=aN e
        rw [hen] at hg1 ke
        cases fe
        .have hf2:V=false:=by rw [hV2];exact List.all_eq_false.2 ⟨e,hee,by rw [hfe];simp⟩
         repeat' (first|(refine cC ?_;simp only [wS,simprocAttr,hg1,hlt',hd,e1,bf,be])|refine aM|refine iP ?_|fail)
         refine aD rfl ?_
         refine aA;exact congrArg AV.bool hf2.symm
        .repeat' (first|(refine cC ?_;simp only [wS,simprocAttr,hg1,hlt',hd,e1,bf,be])|refine aM|refine iP ?_|fail)
         refine hK1.go ⟨i+1,hlt,fun x hx=>by rw [dh,he] at hx;rcases bo.1 hx with h|h;exact hall x h;obtain rfl:x=e:=(by simpa using h);exact hfe⟩ (Weak.ref ⟨?_,.inr ⟨az _,?_,fun g cs hg=>bE (bX g cs hg),?_,?_⟩⟩) (by simp only;omega)
         .exact aZ
         .exact aZ
         .intro z hz
          replace hz:=aC hz
          rcases hz with rfl|rfl|rfl<;>rfl
         .simp only [bg,bz,ab,aG,aP,aI,aB hte,ai]
       .have hd:decide ((i:Int)<((EE.length:Nat):Int))=false:=by simp;omega
        obtain rfl:i=es.length:=by omega
        rw [bi] at hall
        have hf2:V=true:=by rw [hV2];exact cl.2 hall
        repeat' (first|(refine cC ?_;simp only [wS,simprocAttr,hd])|refine aH|fail)
        refine aD rfl ?_
        refine aA;exact congrArg AV.bool hf2.symm)
set_option maxHeartbeats 8000000 in
theorem aCr (l:List Int) (b:Bool) (x:Int) (hl:l.length<=1000000000000):Pure Tryz.prog G0 111 [.sl b (l.map fun z=>[AV.int .i64 z]),.int .i64 x] (.bool (l.contains x)):=by
 have hE:∀ (i:Nat) (z:Int),l[i]? =some z->(l.map fun z=>[AV.int .i64 z])[i]? =some [.int .i64 z]:=fun i z h=>by rw [bh,h];rfl
 have hln:(l.map fun z=>[AV.int .i64 z]).length=l.length:=bp ..
 have hte:cQ aE (l.map fun z=>[AV.int .i64 z])=true:=by
  clear hE hln hl
  induction l with
  |nil=>rfl
  |cons z l ih=>simp only [ay,cQ,aP,aI,ih,ai]
 generalize (l.map fun z=>[AV.int .i64 z])=EE at hE hln hte
 refine aL bX Tryz.func111 rfl (by kernel_rfl) (by simp [Tryz.ntmps111]) (by simp only [aP,aI,hte,ai]) rfl ?_
 simp only [Tryz.ntmps111,aK,Nat.reduceAdd]
 refine aF
 refine aJ (α:={i:Nat // i<=l.length/\(l.take i).contains x=false}) (fun i=>[(0,.sl b EE),(1,.int .i64 x),(5,.int .i64 (i.1:Nat))]) (fun i=>[]) (fun i=>l.length - i.1) ⟨0,az _,by simp⟩ (Weak.ref ⟨?_,.inl ?_⟩) ?_
 .exact aZ
 .exact aZ
 .rintro ⟨i,hi,hno⟩ K1 hK1
  by_cases hlt:i<l.length
  .have hd:decide ((i:Int)<((EE.length:Nat):Int))=true:=by simp;omega
   have hlt':i<EE.length:=by omega
   obtain ⟨z,hz⟩:∃ z,l[i]? =some z:=⟨_,ah hlt⟩
   have hg1:=hE i z hz
   have e1:=aO (k:=i) hlt (by omega)
   by_cases hx:z=x
   .have dx:(z==x)=true:=by simp [hx]
    repeat' (first|(refine cC ?_;simp only [wS,simprocAttr,hg1,hlt',hd,dx])|refine aH|fail)
    refine aD rfl ?_
    refine aA;refine congrArg AV.bool ?_
    have:=aj hz
    rw [hx] at this
    simpa using this
   .have dx:(z==x)=false:=by simp [hx]
    repeat' (first|(refine cC ?_;simp only [wS,simprocAttr,hg1,hlt',hd,dx,e1])|refine aH|fail)
    refine hK1.go ⟨i+1,hlt,by rw [dh,hz];simp only [Option.toList_some,List.contains_eq_any_beq,List.any_append] at hno ⊢;rw [hno];simpa using fun h=>hx h.symm⟩ (Weak.ref ⟨?_,.inr ⟨az _,?_,fun g cs hg=>bE (bX g cs hg),?_,?_⟩⟩) (by simp only;omega)
    .exact aZ
    .exact aZ
    .intro z hz
     replace hz:=aC hz
     rcases hz with rfl|rfl|rfl<;>first|rfl|(simp only [aI];exact aB hte)
    .rfl
  .have hd:decide ((i:Int)<((EE.length:Nat):Int))=false:=by simp;omega
   obtain rfl:i=l.length:=by omega
   rw [bi] at hno
   repeat' (first|(refine cC ?_;simp only [wS,simprocAttr,hd])|refine aH|fail)
   refine aD rfl ?_
   refine aA;exact congrArg AV.bool hno.symm
def nE (l:List Int):List (List AV):=l.map fun z=>[AV.int .i64 z]
theorem FW (l:List Int):(nE l).length=l.length:=bp ..
theorem U7 (l:List Int):∀ e∈nE l,e.length=1:=fun e he=>by
 obtain ⟨p,_,rfl⟩:=cf.1 he
 rfl
theorem aAL (l m:List Int):nE l++nE m=nE (l++m):=(dq ..).symm
theorem nN (l:List Int):cQ aE (nE l)=true:=by
 induction l with
 |nil=>rfl
 |cons z l ih=>
  rw [nE] at ih
  simp only [nE,ay,cQ,aP,aI,ih,ai]
theorem aAM (l:List Int):(nE l).all (fun e=>decide (e.length=1))=true:=cl.2 fun e he=>by simpa using U7 l e he
theorem aCe (l:List Int) (b:Bool):AM.wk (.sl b (nE l))=.sl false (nE l):=by
 have:∀ l:List Int,(nE l).map wkL=nE l:=fun l=>by
  induction l with
  |nil=>rfl
  |cons z l ih=>rw [nE] at ih ⊢;simp only [ay,ih];rfl
 simp only [AM.wk,gS,this]
namespace T
mutual
theorem nums_len:∀ t:T,(nums t).length<=size t
 |mk k n m es=>by
  have:=numss_len es
  rw [nums,size]
  split
  .split<;>simp
  .omega
theorem numss_len:∀ es:List T,(numss es).length<=sizes es
 | []=>by simp [numss]
 |e::es=>by
  have:=nums_len e
  have:=numss_len es
  rw [numss,sizes,an]
  omega
end
theorem numss_take {e:T}:∀ {es:List T} {i:Nat},es[i]? =some e->numss (es.take (i+1))=numss (es.take i)++nums e
 | [],_,h=>by simp at h
 |x::es,0,h=>by
  obtain rfl:x=e:=by simpa using h
  simp [numss]
 |x::es,i+1,h=>by
  have:=numss_take (e:=e) (es:=es) (i:=i) (by simpa using h)
  simp only [di,numss,this,bj]
end T
set_option maxHeartbeats 8000000 in
theorem qE:∀ (N:Nat) (t:T),T.size t<=N->N<=1000000000000->Pure Tryz.prog G0 106 [.agg (T.enc t)] (.sl false (nE (T.nums t))):=by
 intro N
 induction N with
 |zero=>intro t h;have:=T.size_pos t;omega
 |succ N ih=>
  intro t ht hN
  have htr:=T.enc_tree t
  obtain ⟨k,n,m,es⟩:=t
  have ih2:∀ e∈es,Pure Tryz.prog G0 106 [.agg (T.enc e)] (.sl false (nE (T.nums e))):=fun e he=>ih e (by have:=T.size_mem he;simp only [T.size] at ht;omega) (by omega)
  have hls:=T.len_sizes es
  simp only [T.size] at ht
  obtain ⟨L,hL⟩:∃ L,L=T.nums (.mk k n m es):=⟨_,rfl⟩
  rw [<- hL]
  rw [T.nums] at hL
  have hwk:=aCe L
  refine bH bX Tryz.func106 rfl (by kernel_rfl) (by simp [Tryz.ntmps106]) (by simp only [aP,aI,htr,ai]) (by simp only [aI];exact nN _) ?_
  simp only [Tryz.ntmps106,aK,Nat.reduceAdd,T.enc]
  have hgt:=fun (i:Nat) (e:T)=>T.encs_get (es:=es) (i:=i) (e:=e)
  have hln:=T.encs_len es
  have hte:=T.encs_tree es
  generalize T.encs es=EE at hgt hln hte
  by_cases hk:k=28
  .have dk:(k==28)=true:=by simp [hk]
   rw [if_pos hk] at hL
   refine gT dk
   all_goals (refine aD rfl ?_;refine aA;rw [hL];by_cases h1:0<=n<;>by_cases h2:n<=7<;>first|(simp_all;done)|(simp_all [nE];first|done|rfl|omega))
  .have dk:(k==28)=false:=by simp [hk]
   rw [if_neg hk] at hL
   refine aR dk
   refine aJ (α:={p:Nat × Nat // p.1<=es.length}) (fun p=>[(1,.ptr 0 0 0),(3,rv 1 p.1.2 1 (nE (T.numss (es.take p.1.1)))),(4,.int .i64 (p.1.1:Nat))]) (fun p=>[.cells 0 [.int .i64 k,.int .i64 n,.int .i64 m,.sl false EE],eX p.1.2 (nE (T.numss (es.take p.1.1)))]) (fun p=>es.length - p.1.1) ⟨(0,0),az _⟩ (cA [] (kp [0,1]) bX (fun r hr=>absurd hr (bm r)) ?_ ?_ ?_) ?_
   .simp only [wS,simprocAttr,dL,iD,true_or,true_and,and_true,ci,T.numss,nE,bu,eI]
    exact .toRsv
   .simp only [ci,T.numss,nE,bu,eI];rfl
   .simp only [wS,simprocAttr,ci,T.numss,nE,bu,eG]
    simp only [hY,and_true]
    exact .inr ⟨rfl,by simp only [aG,aP,aI,aB hte,ai],.inr ⟨.inl (by simp),.inl rfl⟩⟩
   .rintro ⟨⟨i,v⟩,hi⟩ K3 hK3
    simp only at hi
    have hst:=T.sizes_take_le es i
    have hpl:=T.numss_len (es.take i)
    obtain ⟨app,happ⟩:∃ x,x=T.numss (es.take i):=⟨_,rfl⟩
    rw [<- happ] at hpl
    have happ':=happ.symm
    simp only [happ']
    by_cases hlt:i<es.length
    .have hd:decide ((i:Int)<((EE.length:Nat):Int))=true:=by simp;omega
     have hltE:i<EE.length:=by omega
     obtain ⟨e,he⟩:∃ e,es[i]? =some e:=⟨_,ah hlt⟩
     have hg:=hgt i e he
     have ke:=ih2 e (aj he)
     have hst2:=T.sizes_take he
     have hsl:=T.sizes_take_le es (i+1)
     have hsz:=T.nums_len e
     have hpt:=T.numss_take he
     rw [<- happ] at hpt
     have e3:=aO (k:=i) hlt (by omega)
     obtain ⟨ek,en,em,ees,hee⟩:=aN e
     rw [hee] at hg ke
     generalize T.nums e=B at ke hpt hsz
     have hal:=U7 app
     have hel:=FW app
     have hbl:=FW B
     repeat' (first|(refine cC ?_;simp only [wS,simprocAttr,hg,hltE,hd])|refine aH|fail)
     refine bO bX ke ?_
     refine aA
     refine YT (by':=8) (es:=nE B) (by kernel_rfl) lQ lQ (by refine aA;try simp) hal (nH (aAM B)) (by rw [hel,hbl];omega) ?_
     rw [aAL]
     refine aA
     refine aR e3
     refine hK3.go ⟨(i+1,rvN v (nE app)),hlt⟩ (Weak.ref ⟨?_,.inr ⟨az _,?_,fun g cs hg=>bE (bX g cs hg),?_,?_⟩⟩) (by simp only;omega)
     .simp only [wS,simprocAttr,hpt];try exact rfl
     .simp only [wS,simprocAttr,hpt];try exact rfl
     .simp only [bn,jh,or_false,forall_eq_or_imp,forall_eq,aI]
      exact ⟨rfl,bU rfl,trivial⟩
     .refine aS
      exact ⟨by simp only [aG,aP,aI,aB hte,ai],bA (aB (nN _))⟩
    .have hd:decide ((i:Int)<((EE.length:Nat):Int))=false:=by simp;omega
     obtain rfl:i=es.length:=by omega
     rw [bi,<- hL] at happ
     subst happ
     refine aF
     refine ⟨fun h=>absurd h (by rw [hd];simp),fun _=>?_⟩
     refine gB
     refine Cont.go (by assumption) (cK (cA [1] (kp []) (l:=[(3,.sl false (nE app))]) (h:=[]) bX (fun r hr=>absurd hr (bm r)) ?_ ?_ ?_) ?_)
     .simp only [wS,simprocAttr,dL]
      exact .inr (eA (v:=v) rfl (by simp) (U7 app) (nN app))
     .simp only [bg,bz,ab,aI];exact aB (nN app)
     .refine aA;simp only [hY,and_true];first|exact ⟨rfl,rfl⟩|rfl
     refine aF
     refine aD rfl ?_
     refine aA
     exact hwk false
theorem UT (z:Int):Pure Tryz.prog G0 81 [.int .i64 z] (.agg (T.enc (.mk 28 z 0 []))):=by
 refine bH bX Tryz.func81 rfl (by kernel_rfl) (by simp [Tryz.ntmps81]) (by simp only [aP,aI,ai]) (by simp only [aI];exact T.enc_tree _) ?_
 simp only [Tryz.ntmps81,aK,Nat.reduceAdd]
 refine aF
 exact dB (v:=.agg [.int .i64 28,.int .i64 z,.int .i64 0,.sl true []]) rfl aZ rfl
namespace T
def nx (at0:Int) (i:Nat):Int:=IntKind.i64.wrap (IntKind.i64.wrap (IntKind.i64.wrap (3*at0)+(i:Int))+1)
mutual
def pat (A:Int->Int) (H:Int) (kn:List Int):Int->T->T
 |at0,mk k n m es=>if (decide (at0 > 0)&&decide (A at0<H))=true then mk 28 (if kn=[] then (A at0).tmod 3 else kn.getD ((A at0).tmod kn.length).toNat 0) 0 [] else mk k n m (pats A H kn at0 0 es)
def pats (A:Int->Int) (H:Int) (kn:List Int):Int->Nat->List T->List T
 |_,_,[]=>[]
 |at0,i,e::es=>pat A H kn (nx at0 i) e::pats A H kn at0 (i+1) es
end
theorem pats_take {A:Int->Int} {H:Int} {kn:List Int} {at0:Int} {e:T}:∀ {es:List T} {i j:Nat},es[i]? =some e->pats A H kn at0 j (es.take (i+1))=pats A H kn at0 j (es.take i)++[pat A H kn (nx at0 (j+i)) e]
 | [],_,_,h=>by simp at h
 |x::es,0,j,h=>by
  obtain rfl:x=e:=by simpa using h
  simp [pats]
 |x::es,i+1,j,h=>by
  have:=pats_take (A:=A) (H:=H) (kn:=kn) (at0:=at0) (e:=e) (es:=es) (i:=i) (j:=j+1) (by simpa using h)
  rw [di,di,pats,pats,this,ar]
  rw [show j+1+i=j+(i+1) by omega]
theorem pats_len {A:Int->Int} {H:Int} {kn:List Int} {at0:Int}:∀ (es:List T) (j:Nat),(pats A H kn at0 j es).length=es.length
 | [],_=>by simp [pats]
 |x::es,j=>by rw [pats,af,pats_len es,af]
mutual
theorem size_pat {A:Int->Int} {H:Int} {kn:List Int}:∀ (t:T) (at0:Int),size (pat A H kn at0 t)<=size t
 |mk k n m es,at0=>by
  rw [pat]
  split
  .simp only [size,sizes];omega
  .have:=xV (A:=A) (H:=H) (kn:=kn) es at0 0
   simp only [size];omega
theorem xV {A:Int->Int} {H:Int} {kn:List Int}:∀ (es:List T) (at0:Int) (i:Nat),sizes (pats A H kn at0 i es)<=sizes es
 | [],_,_=>by simp [pats]
 |e::es,at0,i=>by
  have:=size_pat (A:=A) (H:=H) (kn:=kn) e (nx at0 i)
  have:=xV (A:=A) (H:=H) (kn:=kn) es at0 (i+1)
  simp only [pats,sizes];omega
end
theorem encs_app:∀ a b:List T,encs (a++b)=encs a++encs b
 | [],_=>rfl
 |x::a,b=>by rw [ar,encs,encs,encs_app a b,ar]
end T
set_option maxHeartbeats 8000000 in
theorem CO (L:List Int) (hL:∀ x∈L,bR x) (H:Int) (kn:List Int) (b:Bool) (hkn:kn.length<=1000000000000):∀ (N:Nat) (t:T) (at0:Int),T.size t<=N->N<=1000000000000->Pure Tryz.prog G0 105 [.agg (T.enc t),cY L,.int .i64 at0,.int .i64 H,.sl b (nE kn)] (.agg (T.enc (T.pat (fun i=>sG L i 8) H kn at0 t))):=by
 intro N
 induction N with
 |zero=>intro t _ h;have:=T.size_pos t;omega
 |succ N ih=>
  intro t at0 ht hN
  obtain ⟨A,hA⟩:∃ A:Int->Int,A=fun i=>sG L i 8:=⟨_,rfl⟩
  rw [<- hA] at ih ⊢
  have kA:=v7 L at0 8 hL (by decide)
  have hA8:=B1 L at0 8 (by decide)
  rw [show sG L at0 8=A at0 by rw [hA]] at kA hA8
  clear hA
  obtain ⟨k,n,m,es⟩:=t
  have ih2:∀ e∈es,∀ a1,Pure Tryz.prog G0 105 [.agg (T.enc e),cY L,.int .i64 a1,.int .i64 H,.sl b (nE kn)] (.agg (T.enc (T.pat A H kn a1 e))):=fun e he a1=>ih e a1 (by have:=T.size_mem he;simp only [T.size] at ht;omega) (by omega)
  clear ih
  have htr:=T.enc_tree (.mk k n m es)
  have hls:=T.len_sizes es
  have hLt:cQ aE (L.map fun n=>[AV.int .i64 n])=true:=bD L
  simp only [cY] at ih2 kA ⊢
  generalize (L.map fun n=>[AV.int .i64 n])=LE at ih2 kA hLt
  simp only [T.size] at ht
  have hkt:=nN kn
  have hkl:=FW kn
  have hkg:∀ (i:Nat) (z:Int),kn[i]? =some z->(nE kn)[i]? =some [.int .i64 z]:=fun i z h=>by rw [nE,bh,h];rfl
  have hto:=T.enc_tree (T.pat A H kn at0 (.mk k n m es))
  generalize nE kn=KE at ih2 hkt hkl hkg
  obtain ⟨R,hR⟩:∃ R,R=T.pat A H kn at0 (.mk k n m es):=⟨_,rfl⟩
  rw [<- hR] at hto ⊢
  rw [T.pat] at hR
  refine bH bX Tryz.func105 rfl (by kernel_rfl) (by simp [Tryz.ntmps105]) (by simp only [aP,aI,htr,hLt,hkt,ai]) (by simp only [aI];exact hto) ?_
  simp only [Tryz.ntmps105,aK,Nat.reduceAdd,T.enc]
  have hgt:=fun (i:Nat) (e:T)=>T.encs_get (es:=es) (i:=i) (e:=e)
  have hln:=T.encs_len es
  have hte:=T.encs_tree es
  generalize T.encs es=EE at hgt hln hte
  by_cases hh:(decide (at0 > 0)&&decide (A at0<H))=true
  .rw [if_pos hh] at hR
   rw [ae] at hh
   obtain ⟨g1,g2⟩:=hh
   by_cases hk:kn=[]
   .have gk:decide (((KE.length:Nat):Int) > 0)=false:=decide_eq_false (by rw [hkl,hk];simp)
    rw [if_pos hk] at hR
    have kh:=UT ((A at0).tmod 3)
    rw [<- hR] at kh
    have hwk:=T.wk_enc R
    have hq0:True:=trivial
    have hq1:True:=trivial
    have hq2:True:=trivial
    obtain ⟨ra,rb,rc,rd,hre⟩:=aN R
    rw [hre] at kh hwk ⊢
    refine c7 (f9 g1 g2 gk hq0 hq1 hq2)
    exact dB (v:=.agg [.int .i64 ra,.int .i64 rb,.int .i64 rc,.sl false rd]) rfl aZ (by rw [AM.wk,hwk])
   .have hkp:0<kn.length:=fh.2 hk
    have gk:decide (((KE.length:Nat):Int) > 0)=true:=decide_eq_true (by omega)
    rw [if_neg hk] at hR
    have hb1:=Int.tmod_nonneg (kn.length:Int) hA8.1
    have hb2:=Int.tmod_lt_of_pos (A at0) (show (0:Int)<(kn.length:Int) by omega)
    obtain ⟨q,hq⟩:∃ q:Nat,(A at0).tmod (kn.length:Int)=(q:Nat):=⟨((A at0).tmod (kn.length:Int)).toNat,by omega⟩
    rw [hq] at hR hb2
    have hq1:q<KE.length:=by omega
    obtain ⟨z,hz⟩:∃ z,kn[q]? =some z:=⟨_,ah (by omega)⟩
    have hq2:=hkg q z hz
    have kh:=UT z
    rw [ax,bc,hz,eu] at hR
    rw [<- hR] at kh
    rw [<- hkl] at hq
    have hwk:=T.wk_enc R
    have hq0:¬ (((KE.length:Nat):Int)=0):=by omega
    obtain ⟨ra,rb,rc,rd,hre⟩:=aN R
    rw [hre] at kh hwk ⊢
    refine c7 (eT hq g1 g2 gk hq0 hq1 hq2)
    exact dB (v:=.agg [.int .i64 ra,.int .i64 rb,.int .i64 rc,.sl false rd]) rfl aZ (by rw [AM.wk,hwk])
  .rw [if_neg hh] at hR
   have hwk:=T.wk_enc R
   have hE4:∀ l:List T,∀ e∈T.encs l,e.length=4:=fun l e he=>by
    rw [T.encs_map] at he
    obtain ⟨y,_,rfl⟩:=cf.1 he
    exact T.enc_len y
   have hEt:=fun l:List T=>T.encs_tree l
   have hRe:T.enc R=[.int .i64 k,.int .i64 n,.int .i64 m,.sl false (T.encs (T.pats A H kn at0 0 es))]:=by rw [hR];rfl
   rw [hRe] at hwk ⊢
   have hc:(decide (at0 > 0)=false/\True)\/(decide (at0 > 0)=true/\decide (A at0<H)=false):=by
    cases h1:decide (at0 > 0) with
    |false=>exact .inl ⟨rfl,trivial⟩
    |true=>rw [h1,ac] at hh;exact .inr ⟨rfl,by simpa using hh⟩
   rcases hc with ⟨g1,g2⟩|⟨g1,g2⟩
   all_goals
    refine c7 (bF g1 g2)
    refine aJ (α:={i:Nat // i<=es.length}) (fun i=>[(1,.sl false LE),(2,.int .i64 at0),(3,.int .i64 H),(4,.sl b KE),(5,.ptr 0 0 0),(10,.ptr 1 0 0),(12,.ptr 2 0 0),(13,.int .i64 (i.1:Nat))]) (fun i=>[.cells 0 [.int .i64 k,.int .i64 n,.int .i64 m,.sl false EE],.cells 0 [.int .i64 0,.int .i64 0,.int .i64 0,.sl true []],.cells 0 [.int .i64 k,.int .i64 n,.int .i64 m,rv 3 (i.1 - 1) 4 (T.encs (T.pats A H kn at0 0 (es.take i.1)))],eX (i.1 - 1) (T.encs (T.pats A H kn at0 0 (es.take i.1)))]) (fun i=>es.length - i.1) ⟨0,az _⟩ (cA [] (kp [0,1,2,3]) bX (fun r hr=>absurd hr (bm r)) ?_ ?_ ?_) ?_
    .simp only [wS,simprocAttr,dL,iD,and_true,true_or]
    .simp only [bg,bz,ab,ae,aI,aB hLt,aB hkt,true_and];try exact ⟨rfl,rfl,rfl⟩
    .simp only [wS,simprocAttr,ci,T.pats,T.encs,eI,eG]
     simp only [hY,and_true]
     exact ⟨.inr ⟨rfl,by simp only [aG,aP,aI,aB hte,ai],.inr ⟨.inl (by simp),.inl rfl⟩⟩,.inr ⟨rfl,rfl,.inr ⟨.inl (by simp),.inl rfl⟩⟩,.inr ⟨rfl,rfl,.inr ⟨.inl (by simp),.inr ⟨0,_,_,rfl,rfl,.inl rfl,.inl rfl,.inl rfl,.inr .toRsv,trivial⟩⟩⟩⟩
    rintro ⟨i,hi⟩ K3 hK3
    try simp only at hi
    have hal:(T.encs (T.pats A H kn at0 0 (es.take i))).length=i:=by rw [T.encs_len,T.pats_len,cr];omega
    repeat' (first|(refine cC ?_;simp only [wS,simprocAttr,↓bM,↓aY])|refine aH|fail)
    refine ⟨fun h=>?_,fun h=>?_⟩
    .have hlt:i<es.length:=by simpa [hln] using h
     have hltE:i<EE.length:=by omega
     obtain ⟨e,he⟩:∃ e,es[i]? =some e:=⟨_,ah hlt⟩
     have hg:=hgt i e he
     have hce:=ih2 e (aj he) (T.nx at0 i)
     have htk:T.encs (T.pats A H kn at0 0 (es.take (i+1)))=T.encs (T.pats A H kn at0 0 (es.take i))++[T.enc (T.pat A H kn (T.nx at0 i) e)]:=by
      rw [T.pats_take he,T.encs_app,cp];rfl
     have e3:=aO (k:=i) hlt (by omega)
     have hge:decide (((i:Nat):Int) >= ((EE.length:Nat):Int))=false:=by simp;omega
     have hps':=hE4 (T.pats A H kn at0 0 (es.take i))
     have hpn:=hEt (T.pats A H kn at0 0 (es.take (i+1)))
     obtain ⟨ea,eb,ec,ed,hee⟩:=aN e
     obtain ⟨pa,pb,pc,pd,hpp⟩:=aN (T.pat A H kn (T.nx at0 i) e)
     rw [hee] at hg hce
     rw [hpp] at hce htk
     unfold T.nx at hce
     have hvv:i=if T.encs (T.pats A H kn at0 0 (es.take i))=[] then 0 else i - 1+1:=by
      by_cases h0:T.encs (T.pats A H kn at0 0 (es.take i))=[]
      .rw [if_pos h0];rw [h0] at hal;simpa using hal.symm
      .rw [if_neg h0]
       have:i≠0:=fun hz=>h0 (by rw [hz];rfl)
       omega
     repeat' (first|(refine cC ?_;simp only [wS,simprocAttr,hg,hltE,hlt,hge,↓bM,↓aY])|refine aH|fail)
     refine bO bX hce ?_
     simp only [wS,simprocAttr,↓bM,↓aY]
     refine cL (v':=i) (es:=[[.int .i64 pa,.int .i64 pb,.int .i64 pc,.sl false pd]]) (by':=48) (by kernel_rfl) aZ hvv hps' (by simp [cW]) (by simp) (by rw [hal];simp only [am];omega) ?_
     simp only [wS,simprocAttr,↓bM,↓aY]
     repeat' (first|(refine cC ?_;simp only [wS,simprocAttr,e3,↓bM,↓aY])|refine aH|fail)
     try refine ⟨by kernel_rfl,?_⟩
     repeat' (first|(refine cC ?_;simp only [wS,simprocAttr,e3,↓bM,↓aY])|refine aH|fail)
     refine hK3.go ⟨i+1,hlt⟩ (Weak.ref ⟨?_,.inr ⟨az _,?_,fun g cs hg=>bE (bX g cs hg),?_,?_⟩⟩) (by simp only;omega)
     .exact aZ
     .simp only [wS,simprocAttr,cj,htk];try exact rfl
     .simp only [bn,jh,or_false,forall_eq_or_imp,forall_eq,aI]
      simp only [aB hLt,aB hkt,true_and,and_true,ac]
      trivial
     .refine aS
      exact ⟨by simp only [aG,aP,aI,aB hte,ai],rfl,by simp only [aG,aP,aI,ac,ab];exact bU rfl,bA (aB (hEt _))⟩
    .have hge:i=es.length:=by simp [hln] at h;omega
     subst hge
     rw [bi] at hal
     repeat' (first|(refine cC ?_;simp only [wS,simprocAttr,bi])|refine sI|fail)
     refine Cont.go (by assumption) (cK (cA [3] (kp [0,1,2]) (l:=[(5,.ptr 0 0 0),(10,.ptr 1 0 0),(12,.ptr 2 0 0)]) (h:=[.cells 0 [.int .i64 k,.int .i64 n,.int .i64 m,.sl false EE],.cells 0 [.int .i64 0,.int .i64 0,.int .i64 0,.sl true []],.cells 0 [.int .i64 k,.int .i64 n,.int .i64 m,.sl false (T.encs (T.pats A H kn at0 0 es))]]) bX (fun r hr=>absurd hr (bm r)) ?_ ?_ ?_) ?_)
     .simp only [wS,simprocAttr,dL,iD,and_true,true_or]
     .rfl
     .simp only [wS,simprocAttr,bi]
      simp only [hY,and_true]
      exact ⟨.inr ⟨rfl,by simp only [aG,aP,aI,aB hte,ai],.inr ⟨.inl (by simp),.inl rfl⟩⟩,.inr ⟨rfl,rfl,.inr ⟨.inl (by simp),.inl rfl⟩⟩,.inr ⟨rfl,by simp only [aG,aP,aI,ac,ab];exact aB (hEt _),.inr ⟨.inl (by simp),.inr ⟨0,_,_,rfl,rfl,.inl rfl,.inl rfl,.inl rfl,.inr (eA (v:=es.length - 1) rfl (by simp) (hE4 _) (hEt _)),trivial⟩⟩⟩,rfl⟩
     refine aF
     exact dB (v:=.agg [.int .i64 k,.int .i64 n,.int .i64 m,.sl false (T.encs (T.pats A H kn at0 0 es))]) rfl aZ (by rw [AM.wk,hwk])
set_option maxHeartbeats 8000000 in
theorem QB (nm:ByteArray) (f p:T) (b:Int) (hf:T.size f<=1000000000000) (hp:T.size p<=1000000000000):Pure Tryz.prog G0 77 [.agg (sF nm f p b)] (.bool (hJ nm f p b)):=by
 have ho:=jL nm f p b
 have ksf:=IJ _ f (ap _) hf
 have ksp:=IJ _ p (ap _) hp
 have kdf:=DW _ f (ap _) hf
 have kdp:=DW _ p (ap _) hp
 have kff:=V0 _ true false f (ap _) hf
 have kfp:=V0 _ (decide (f.num= -100)) (decide (f.num= -100)) p (ap _) hp
 have knf:=qE _ f (ap _) hf
 have knp:=qE _ p (ap _) hp
 have hnl:=T.nums_len p
 have hnlf:=T.nums_len f
 have khs:=fun x:Int=>aCr (T.nums f) false x (by omega)
 obtain ⟨V,hV⟩:∃ V,V=hJ nm f p b:=⟨_,rfl⟩
 rw [<- hV]
 have htf:=T.enc_tree f
 have htp:=T.enc_tree p
 unfold hJ xT MF at hV
 rw [T.visits_eq,SN] at hV
 have hfr:(f.num== -100)=decide (f.num= -100):=by by_cases h:f.num= -100<;>simp [h]
 change ∀ x:Int,Pure Tryz.prog G0 111 [.sl false (nE (T.nums f)),.int .i64 x] (.bool ((T.nums f).contains x)) at khs
 generalize hsf:T.size f=sf at ksf hV hf hnlf
 generalize hsp:T.size p=sp at ksp hV hp hnl
 generalize T.depth f=df at kdf hV
 generalize T.depth p=dp at kdp hV
 generalize T.nums f=NF at khs knf hnlf hV
 generalize T.nums p=NP at knp hnl hV
 generalize T.fine true false f=ff at kff hV
 generalize T.fine (decide (f.num= -100)) (decide (f.num= -100)) p=fp at kfp hV
 clear hsf hsp
 obtain ⟨fk,fn,fm,fs⟩:=f
 obtain ⟨pk,pn,pm,ps⟩:=p
 simp only [T.kind,T.num] at hV hfr kfp
 generalize decide (fn= -100)=fre at hfr kfp
 have hnt:=nN NP
 have hnft:=nN NF
 have hnln:=FW NP
 have hng:∀ (i:Nat) (z:Int),NP[i]? =some z->(nE NP)[i]? =some [.int .i64 z]:=fun i z h=>by rw [nE,bh,h];rfl
 refine aL bX Tryz.func77 rfl (by kernel_rfl) (by simp [Tryz.ntmps77]) (by simp only [aP,aI,ho,ai]) rfl ?_
 simp only [sF,T.enc,ar,ba] at ho ksf ksp kdf kdp kff kfp knf knp htf htp ⊢
 generalize T.encs fs=FE at ho ksf kdf htf kff knf ⊢
 generalize T.encs ps=PE' at ho ksp kdp htp kfp knp ⊢
 generalize nE NP=EP' at knp hnt hnln hng
 generalize nE NF=EF at khs knf hnft
 simp only [Tryz.ntmps77,aK,Nat.reduceAdd]
 obtain ⟨sm,hsm⟩:∃ sm:Nat->Bool,sm=fun i=>if i=0 then decide (sf<=32)&&decide (df<=8) else decide (sp<=32)&&decide (dp<=8):=⟨_,rfl⟩
 have sm0:sm 0=(decide (sf<=32)&&decide (df<=8)):=by rw [hsm];rfl
 have sm1:sm 1=(decide (sp<=32)&&decide (dp<=8)):=by rw [hsm];rfl
 rw [<- sm0,<- sm1] at hV
 by_cases hsz:1<=nm.size/\nm.size<=16/\ -1<=b/\b<24
 .obtain ⟨hz1,hz2,hb1,hb2⟩:=hsz
  have d1:decide (((nm.size:Nat):Int)<1)=false:=decide_eq_false (by omega)
  have d2:decide (((nm.size:Nat):Int) > 16)=false:=decide_eq_false (by omega)
  have d3:decide (b< -1)=false:=decide_eq_false (by omega)
  have d4:decide (b > 23)=false:=decide_eq_false (by omega)
  rw [decide_eq_true (show 1<=nm.size/\nm.size<=16 from ⟨hz1,hz2⟩),ac,decide_eq_true (show -1<=b/\b<24 from ⟨hb1,hb2⟩),ac] at hV
  refine aR (dV d1 d2 d3 d4)
  refine aJ (α:={i:Nat // i<=nm.size/\∀ j,j<i->pG nm j=true}) (fun i=>[(1,.ptr 0 0 0),(3,.int .i64 (i.1:Nat))]) (fun i=>[.cells 0 [.str nm,.int .i64 fk,.int .i64 fn,.int .i64 fm,.sl false FE,.int .i64 pk,.int .i64 pn,.int .i64 pm,.sl false PE',.int .i64 b]]) (fun i=>nm.size - i.1) ⟨0,az _,fun j hj=>absurd hj (bm j)⟩ (Weak.ref ⟨?_,.inl ?_⟩) ?_
  .exact aZ
  .exact aZ
  rintro ⟨i,hi,hall⟩ K1 hK1
  by_cases hlt:i<nm.size
  .have hd:decide ((i:Int)<((nm.size:Nat):Int))=true:=by simp;omega
   obtain ⟨c,hc,hlc⟩:=GU (s:=nm) (i:=i) hlt
   have e1:=aO (k:=i) hlt (by omega)
   by_cases h1:97<=c.toNat/\c.toNat<=122
   .have dx:decide (((c.toNat:Nat):Int)<97)=false:=decide_eq_false (by omega)
    have dy:decide (((c.toNat:Nat):Int) > 122)=false:=decide_eq_false (by omega)
    have hok:pG nm i=true:=by rw [hlc,lcI];exact decide_eq_true (by omega)
    repeat' (first|(refine cC ?_;simp only [wS,simprocAttr,hd,hlt,hc,dx,dy,e1])|refine aH|fail)
    refine hK1.go ⟨i+1,hlt,fun j hj=>by rcases jc.1 hj with h|rfl;exact hall j h;exact hok⟩ (Weak.ref ⟨?_,.inr ⟨az _,?_,fun g cs hg=>bE (bX g cs hg),?_,?_⟩⟩) (by simp only;omega)
    .exact aZ
    .exact aZ
    .intro z hz
     replace hz:=aC hz
     rcases hz with rfl|rfl<;>rfl
    .simp only [bg,bz,ab,aG];exact bE ho
   .have hno:pG nm i=false:=by rw [hlc,lcI];exact decide_eq_false (by omega)
    have hf2:V=false:=by rw [hV,decide_eq_false (fun h=>by rw [h i hlt] at hno;cases hno)];rfl
    by_cases h2:c.toNat<97
    .have dx:decide (((c.toNat:Nat):Int)<97)=true:=decide_eq_true (by omega)
     repeat' (first|(refine cC ?_;simp only [wS,simprocAttr,hd,hlt,hc,dx])|refine aH|fail)
     refine aD rfl ?_
     refine aA;exact congrArg AV.bool hf2.symm
    .have dx:decide (((c.toNat:Nat):Int)<97)=false:=decide_eq_false (by omega)
     have dy:decide (((c.toNat:Nat):Int) > 122)=true:=decide_eq_true (by omega)
     repeat' (first|(refine cC ?_;simp only [wS,simprocAttr,hd,hlt,hc,dx,dy])|refine aH|fail)
     refine aD rfl ?_
     refine aA;exact congrArg AV.bool hf2.symm
  have hd:decide ((i:Int)<((nm.size:Nat):Int))=false:=by simp;omega
  obtain rfl:i=nm.size:=by omega
  rw [decide_eq_true hall,ac] at hV
  obtain ⟨PG,hPG⟩:∃ x:List (List AV),x=[[.int .i64 fk,.int .i64 fn,.int .i64 fm,.sl false FE],[.int .i64 pk,.int .i64 pn,.int .i64 pm,.sl false PE']]:=⟨_,rfl⟩
  have hPl:PG.length=2:=by rw [hPG];rfl
  have hPt:cQ aE PG=true:=by rw [hPG];simp only [cQ,htf,htp,ai]
  have hat:∀ i,i<2->∃ (x y:Nat) (k n m:Int) (E:List (List AV)),PG[i]? =some [.int .i64 k,.int .i64 n,.int .i64 m,.sl false E]/\Pure Tryz.prog G0 108 [.agg [.int .i64 k,.int .i64 n,.int .i64 m,.sl false E]] (.int .i64 (x:Nat))/\Pure Tryz.prog G0 109 [.agg [.int .i64 k,.int .i64 n,.int .i64 m,.sl false E]] (.int .i64 (y:Nat))/\sm i=(decide (x<=32)&&decide (y<=8))/\cQ aE E=true:=fun i hi=>by
   have:i=0\/i=1:=by omega
   rw [hPG]
   rcases this with rfl|rfl
   .exact ⟨sf,df,_,_,_,_,rfl,ksf,kdf,sm0,by simpa only [aP,aI,ac,ab] using htf⟩
   .exact ⟨sp,dp,_,_,_,_,rfl,ksp,kdp,sm1,by simpa only [aP,aI,ac,ab] using htp⟩
  clear sm0 sm1 hsm ksf kdf ksp kdp
  repeat' (first|(refine cC ?_;simp only [wS,simprocAttr,hd])|refine aH|fail)
  refine aJ (α:={i:Nat // i<=2/\∀ j,j<i->sm j=true}) (fun i=>[(1,.ptr 0 0 0),(4,.sl true PG),(5,.int .i64 (i.1:Nat))]) (fun i=>[.cells 0 [.str nm,.int .i64 fk,.int .i64 fn,.int .i64 fm,.sl false FE,.int .i64 pk,.int .i64 pn,.int .i64 pm,.sl false PE',.int .i64 b]]) (fun i=>2 - i.1) ⟨0,az _,fun j hj=>absurd hj (bm j)⟩ (Weak.ref ⟨?_,.inl ?_⟩) ?_
  .simp only [wS,simprocAttr,hPG];try exact rfl
  .exact aZ
  rintro ⟨i,hi,hsmall⟩ K1 hK1
  by_cases h2:i<2
  .have hd:decide ((i:Int)<2)=true:=by simp;omega
   obtain ⟨x,y,k,n,m,E,hg1,kx,ky,hxy,hE⟩:=hat i h2
   have e1:=aO (k:=i) h2 (by decide)
   have hlt':i<PG.length:=by omega
   rw [Bool.eq_iff_iff] at hxy
   by_cases hx:x<=32
   .have dx:decide (((x:Nat):Int) > 32)=false:=decide_eq_false (by omega)
    by_cases hy:y<=8
    .have dy:decide (((y:Nat):Int) > 8)=false:=decide_eq_false (by omega)
     have hsi:sm i=true:=hxy.2 (by simp [hx,hy])
     repeat' (first|(refine cC ?_;simp only [wS,simprocAttr,hg1,hlt',hd,dx,e1,dy])|refine aM|refine iP ?_|fail)
     refine hK1.go ⟨i+1,h2,fun j hj=>by rcases jc.1 hj with h|rfl;exact hsmall j h;exact hsi⟩ (Weak.ref ⟨?_,.inr ⟨az _,?_,fun g cs hg=>bE (bX g cs hg),?_,?_⟩⟩) (by simp only;omega)
     .exact aZ
     .exact aZ
     .intro z hz
      replace hz:=aC hz
      rcases hz with rfl|rfl|rfl<;>first|rfl|(simp only [aI];exact aB hPt)
     .simp only [bg,bz,ab,aG];exact bE ho
    .have dy:decide (((y:Nat):Int) > 8)=true:=decide_eq_true (by omega)
     have hsi:sm i=false:=by by_cases h:sm i=true;exact absurd (by simpa [hx] using hxy.1 h) hy;simpa using h
     have hf2:V=false:=by rw [hV];have:i=0\/i=1:=(by omega);rcases this with rfl|rfl<;>simp [hsi]
     repeat' (first|(refine cC ?_;simp only [wS,simprocAttr,hg1,hlt',hd,dx,e1,dy])|refine aM|refine iP ?_|fail)
     refine aD rfl ?_
     refine aA;exact congrArg AV.bool hf2.symm
   .have dx:decide (((x:Nat):Int) > 32)=true:=decide_eq_true (by omega)
    have hsi:sm i=false:=by by_cases h:sm i=true;exact absurd (by simpa using (show x<=32/\y<=8 by simpa using hxy.1 h).1) hx;simpa using h
    have hf2:V=false:=by rw [hV];have:i=0\/i=1:=(by omega);rcases this with rfl|rfl<;>simp [hsi]
    have dy:True:=trivial
    repeat' (first|(refine cC ?_;simp only [wS,simprocAttr,hg1,hlt',hd,dx,e1,dy])|refine aM|refine iP ?_|fail)
    refine aD rfl ?_
    refine aA;exact congrArg AV.bool hf2.symm
  have hd:decide ((i:Int)<2)=false:=by simp;omega
  obtain rfl:i=2:=by omega
  rw [hsmall 0 (by omega),hsmall 1 (by omega),ac,ac] at hV
  by_cases hkk:fk=28
  .have hf2:V=false:=by rw [hV];simp [hkk]
   have dk:(fk==28)=true:=by simp [hkk]
   repeat' (first|(refine cC ?_;simp only [wS,simprocAttr,hd,dk,hfr,bf,be])|refine aM|refine iP ?_|fail)
   refine aD rfl ?_
   refine aA;exact congrArg AV.bool hf2.symm
  have dk:(fk==28)=false:=by simp [hkk]
  simp only [hkk,decide_false,be,ac] at hV
  cases ff
  .have hf2:V=false:=by rw [hV];rfl
   repeat' (first|(refine cC ?_;simp only [wS,simprocAttr,hd,dk,hfr,bf,be])|refine aM|refine iP ?_|fail)
   refine aD rfl ?_
   refine aA;exact congrArg AV.bool hf2.symm
  cases fp
  .have hf2:V=false:=by rw [hV];simp
   repeat' (first|(refine cC ?_;simp only [wS,simprocAttr,hd,dk,hfr,bf,be])|refine aM|refine iP ?_|fail)
   refine aD rfl ?_
   refine aA;exact congrArg AV.bool hf2.symm
  rw [ac,ac] at hV
  repeat' (first|(refine cC ?_;simp only [wS,simprocAttr,hd,dk,hfr,bf,be])|refine aM|refine iP ?_|fail)
  refine aJ (α:={i:Nat // i<=NP.length/\∀ z∈NP.take i,NF.contains z=true}) (fun i=>[(7,.sl false EF),(8,.sl false EP'),(9,.int .i64 (i.1:Nat))]) (fun i=>[]) (fun i=>NP.length - i.1) ⟨0,az _,by simp⟩ (Weak.ref ⟨?_,.inr ⟨az _,?_,fun g cs hg=>bE (bX g cs hg),?_,?_⟩⟩) ?_
  .exact aZ
  .exact aZ
  .intro z hz
   replace hz:=aC hz
   rcases hz with rfl|rfl|rfl<;>first|rfl|(simp only [aI];first|exact aB hnt|exact aB hnft)
  .rfl
  rintro ⟨i,hi,hall⟩ K1 hK1
  by_cases hlt:i<NP.length
  .have hd:decide ((i:Int)<((EP'.length:Nat):Int))=true:=by simp;omega
   have hlt':i<EP'.length:=by omega
   obtain ⟨z,hz⟩:∃ z,NP[i]? =some z:=⟨_,ah hlt⟩
   have hg1:=hng i z hz
   have kh:=khs z
   have e1:=aO (k:=i) hlt (by omega)
   generalize hcz:NF.contains z=cz at kh
   cases cz
   .have hf2:V=false:=by rw [hV];exact List.all_eq_false.2 ⟨z,aj hz,by rw [hcz];simp⟩
    repeat' (first|(refine cC ?_;simp only [wS,simprocAttr,hd,hg1,hlt',e1,bf,be])|refine aM|refine iP ?_|fail)
    refine aD rfl ?_
    refine aA;exact congrArg AV.bool hf2.symm
   .repeat' (first|(refine cC ?_;simp only [wS,simprocAttr,hd,hg1,hlt',e1,bf,be])|refine aM|refine iP ?_|fail)
    refine hK1.go ⟨i+1,hlt,fun x hx=>by rw [dh,hz] at hx;rcases bo.1 hx with h|h;exact hall x h;obtain rfl:x=z:=(by simpa using h);exact hcz⟩ (Weak.ref ⟨?_,.inr ⟨az _,?_,fun g cs hg=>bE (bX g cs hg),?_,?_⟩⟩) (by simp only;omega)
    .exact aZ
    .exact aZ
    .intro z hz
     replace hz:=aC hz
     rcases hz with rfl|rfl|rfl<;>first|rfl|(simp only [aI];first|exact aB hnt|exact aB hnft)
    .rfl
  .have hd:decide ((i:Int)<((EP'.length:Nat):Int))=false:=by simp;omega
   obtain rfl:i=NP.length:=by omega
   rw [bi] at hall
   have hf2:V=true:=by rw [hV];exact cl.2 hall
   repeat' (first|(refine cC ?_;simp only [wS,simprocAttr,hd])|refine aH|fail)
   refine aD rfl ?_
   refine aA;exact congrArg AV.bool hf2.symm
 .have hf2:V=false:=by
   rw [hV]
   by_cases h1:1<=nm.size/\nm.size<=16
   .have:¬ (-1<=b/\b<24):=fun h=>hsz ⟨h1.1,h1.2,h.1,h.2⟩
    rw [decide_eq_false this];simp
   .rw [decide_eq_false h1];rfl
  clear khs ksf ksp kdf kdp kff kfp knf knp hV
  refine HQ
  all_goals first
   |(refine aD rfl ?_;refine aA;exact congrArg AV.bool hf2.symm)
   |(exfalso;refine hsz ⟨?_,?_,?_,?_⟩<;>(simp only [decide_eq_false_iff_not] at *;omega))
end Go.Proofs.YtggflhbigolakaaGreatDoor
