import Derived.Test.YtggflhbigolakaaGreatDoorSM
import Derived.Test.YtggflhbigolakaaGreatDoorUF
set_option linter.unusedSimpArgs false
namespace Go.Proofs.YtggflhbigolakaaGreatDoor
open Go.AM
attribute [local irreducible] cG bG bI bL bW bZ aQ aV bN
set_option maxRecDepth 100000
set_option maxHeartbeats 8000000 in
theorem aAs : ∀ (p : List Int) (b : Bool) (t x t' : T), p.length <= 2000000000000 -> T.wd t -> T.sub t p = some t' -> Pure Tryz.prog G0 44 [.agg (T.enc t), .sl b (aT p), .agg (T.enc x)] (.tup [.agg (T.enc (T.set t p x)), .int .i64 0]) := by
 intro p
 induction p with
 |nil=>
  intro b t x t' _ hsz _
  rw [T.set]
  have htr:=T.enc_tree t
  have hxt:=T.enc_tree x
  obtain ⟨ta,tb,tc,td,hee⟩:=aN t
  obtain ⟨xa,xb,xc,xd,hxx⟩:=aN x
  rw [hee] at htr
  rw [hxx] at hxt
  rw [hee,hxx]
  refine aL bX Tryz.func44 rfl (by kernel_rfl) (by simp [Tryz.ntmps44]) (by simp only [aP,aI,ab,ac] at htr hxt ⊢;simp [htr,hxt,aT,cQ]) (by simp only [aP,aI,ab,ac] at hxt ⊢;exact hxt) ?_
  simp only [Tryz.ntmps44,aK,Nat.reduceAdd,aT,bu]
  refine aF
  exact bK (v:=.agg [.int .i64 xa,.int .i64 xb,.int .i64 xc,.sl false xd]) rfl aZ aZ
 | cons z p ih =>
  intro b t x t' hl hsz h
  cases t with
  |mk k n m es=>
  simp only [T.sub] at h
  split at h
  .rename_i hz
   split at h
   .rename_i e he
    obtain ⟨j,rfl⟩:∃ j:Nat,z=j:=⟨z.toNat,(dc hz).symm⟩
    simp only [ax,T.kids] at he
    have hwl:es.length<=2000000000000:=hsz.1
    simp only [af] at hl
    have hu:=ih b e x t' (by omega) (T.wds_mem hsz.2 e (aj he)) h
    rw [T.set_cons p x he]
    obtain ⟨u,hud⟩:∃ u,u=T.set e p x:=⟨_,rfl⟩
    rw [<- hud] at hu ⊢
    obtain ⟨os,hos⟩:∃ l,l=es.set j u:=⟨_,rfl⟩
    rw [<- hos]
    have htr:=T.enc_tree (.mk k n m es)
    have hto:=T.enc_tree (.mk k n m os)
    have hxt:=T.enc_tree x
    have hut:=T.enc_tree u
    have hip:cQ aE (aT ((j:Int)::p))=true:=bD _
    have hol:os.length=es.length:=by rw [hos,ef]
    have hlt:j<es.length:=(aq.1 he).1
    have hg:=T.encs_get he
    have hgt:=fun (i:Nat) (e:T)=>T.encs_get (es:=es) (i:=i) (e:=e)
    have hln:=T.encs_len es
    have hte:=T.encs_tree es
    obtain ⟨ea,eb,ec,ed,hee⟩:=aN e
    obtain ⟨ua,ub,uc,ud,huu⟩:=aN u
    obtain ⟨xa,xb,xc,xd,hxx⟩:=aN x
    have huE:=huu
    rw [hee] at hg hu
    rw [huu] at hu hut
    rw [hxx] at hu hxt ⊢
    refine bH bX Tryz.func44 rfl (by kernel_rfl) (by simp [Tryz.ntmps44]) (by simp only [aP,aI,htr,hip,ab,ac] at hxt ⊢;exact hxt) (by simp only [aI,aP,hto,ai]) ?_
    simp only [Tryz.ntmps44,aK,Nat.reduceAdd,T.enc,aT,ay] at hip ⊢
    simp only [aT] at hu
    have hltE:j<(T.encs es).length:=by omega
    have e1:(((p.length+1:Nat):Int)==0)=false:=by simp;omega
    have e2:decide (((j:Nat):Int)<0)=false:=by simp
    have e3:decide (((j:Nat):Int) >= ((T.encs es).length:Int))=false:=by simp;omega
    generalize T.encs es=ME at hg hgt hln hte hltE e3
    have hsl:(p.map fun x=>[AV.int .i64 x]).all (fun e=>decide (e.length=1))=true:=by simp
    have htk0:(p.map fun x=>[AV.int .i64 x]).take p.length=p.map fun x=>[AV.int .i64 x]:=bx (by simp)
    have hle:(p.length<=p.length)=True:=by simp
    have hpl:(p.map fun x=>[AV.int .i64 x]).length=p.length:=by simp
    have hip2:cQ aE (p.map fun x=>[AV.int .i64 x])=true:=bD _
    generalize (p.map fun x=>[AV.int .i64 x])=IP at hu hip hsl htk0 hpl hip2
    rw [<- hpl] at e1 htk0 hle
    have h00:((0:Int) != 0)=false:=rfl
    simp only [aP,aI,ac,ab] at hxt hut
    repeat' (first|(refine cC ?_;simp only [wS,simprocAttr,e1,e2,e3,hg,hltE,af,hle,if_true,hsl,htk0,cj,fo,co,decide_true,ac,beq_self_eq_true,ab])|refine aH|fail)
    refine bO bX hu ?_
    refine aA
    try refine ⟨by kernel_rfl,?_⟩
    clear e1 e2 e3 hg hltE hle hsl htk0
    refine aR h00
    refine aJ (α:={i:Nat // i<=es.length}) (fun i=>[(1,.sl b ([.int .i64 (j:Nat)]::IP)),(3,.ptr 0 0 0),(6,.ptr 2 0 0),(7,.int .i64 0),(8,.ptr 3 0 0),(10,.ptr 4 0 0),(11,.int .i64 (i.1:Nat))]) (fun i=>[.cells 0 [.int .i64 k,.int .i64 n,.int .i64 m,.sl false ME],.cells 0 [.int .i64 xa,.int .i64 xb,.int .i64 xc,.sl false xd],.cells 0 [.int .i64 0,.int .i64 0,.int .i64 0,.sl true []],.cells 0 [.int .i64 ua,.int .i64 ub,.int .i64 uc,.sl false ud],.cells 0 [.int .i64 k,.int .i64 n,.int .i64 m,rv 5 (i.1 - 1) 4 (T.encs (os.take i.1))],eX (i.1 - 1) (T.encs (os.take i.1))]) (fun i=>es.length - i.1) ⟨0,az _⟩ (cA [] (kp [0,1,2,3,4,5]) bX (fun r hr=>absurd hr (bm r)) ?_ ?_ ?_) ?_
    .simp only [wS,simprocAttr,dL,iD,and_true,true_or]
    .simp only [bg,bz,ab,ae,aI];exact ⟨aB hip,rfl,rfl,trivial,rfl,rfl⟩
    .simp only [wS,simprocAttr,ci,T.encs,eI,eG]
     simp only [hY,and_true]
     have keep:∀ (s:AS) (r:Nat) (y:ARow),jW s.row [] r y y:=fun s r y=>.inr ⟨.inl (by simp),.inl rfl⟩
     exact ⟨.inr ⟨rfl,by simp only [aG,aP,aI,aB hte,ai],keep _ _ _⟩,.inr ⟨rfl,by simp only [aG,aP,aI,aB hxt,ai],keep _ _ _⟩,.inr ⟨rfl,rfl,keep _ _ _⟩,.inr ⟨rfl,by simp only [aG,aP,aI,aB hut,ai],keep _ _ _⟩,.inr ⟨rfl,rfl,.inr ⟨.inl (by simp),.inr ⟨0,_,_,rfl,rfl,.inl rfl,.inl rfl,.inl rfl,.inr .toRsv,trivial⟩⟩⟩⟩
    .rintro ⟨i,hi⟩ K3 hK3
     try simp only at hi
     have hal:(T.encs (os.take i)).length=i:=by rw [T.encs_len,cr];omega
     have hps:∀ e∈T.encs (os.take i),e.length=4:=fun e he=>by
      rw [T.encs_map] at he
      obtain ⟨y,_,rfl⟩:=cf.1 he
      exact T.enc_len y
     repeat' (first|(refine cC ?_;simp only [wS,simprocAttr,↓bM,↓aY])|refine aH|fail)
     refine ⟨fun h=>?_,fun h=>?_⟩
     .have hlt2:i<es.length:=by simpa [hln] using h
      have hltE:i<ME.length:=by omega
      have e3:=aO (k:=i) hlt2 (by omega)
      have hge:decide (((i:Nat):Int) >= ((ME.length:Nat):Int))=false:=by simp;omega
      have hvv:i=if T.encs (os.take i)=[] then 0 else i - 1+1:=by
       by_cases h0:T.encs (os.take i)=[]
       .rw [if_pos h0];rw [h0] at hal;simpa using hal.symm
       .rw [if_neg h0]
        have:i≠0:=fun hz=>h0 (by rw [hz];rfl)
        omega
      by_cases hij:i=j
      .have eij:(((i:Nat):Int)==((j:Nat):Int))=true:=by simp [hij]
       have htk:T.encs (os.take (i+1))=T.encs (os.take i)++[[.int .i64 ua,.int .i64 ub,.int .i64 uc,.sl false ud]]:=by
        have:os[i]? =some u:=by rw [hos,hij,ib hlt]
        rw [T.encs_map,T.encs_map,kH this,huE]
       repeat' (first|(refine cC ?_;simp only [wS,simprocAttr,eij,↓bM,↓aY])|refine aH|fail)
       refine cL (v':=i) (es:=[[.int .i64 ua,.int .i64 ub,.int .i64 uc,.sl false ud]]) (by':=48) (by kernel_rfl) aZ hvv hps (by simp [cW]) (by simp) (by rw [hal];simp only [am];omega) ?_
       simp only [wS,simprocAttr,↓bM,↓aY]
       try refine ⟨by kernel_rfl,?_⟩
       repeat' (first|(refine cC ?_;simp only [wS,simprocAttr,e3,↓bM,↓aY])|refine aH|fail)
       refine hK3.go ⟨i+1,hlt2⟩ (Weak.ref ⟨?_,.inr ⟨az _,?_,fun g cs hg=>bE (bX g cs hg),?_,?_⟩⟩) (by simp only;omega)
       .exact aZ
       .simp only [wS,simprocAttr,cj,htk];try exact rfl
       .intro z hz
        replace hz:=aC hz
        rcases hz with rfl|rfl|rfl|rfl|rfl|rfl|rfl<;>first|rfl|exact aB hip
       .refine aS
        exact ⟨by simp only [aG,aP,aI,aB hte,ai],by simp only [aG,aP,aI,aB hxt,ai],rfl,by simp only [aG,aP,aI,aB hut,ai],by simp only [aG,aP,aI,ac,ab];exact bU rfl,bA (aB (T.encs_tree _))⟩
      .have eij:(((i:Nat):Int)==((j:Nat):Int))=false:=by simp;omega
       obtain ⟨e',he'⟩:∃ e,es[i]? =some e:=⟨_,ah hlt2⟩
       have hg':=hgt i e' he'
       obtain ⟨ya,yb,yc,yd,hyy⟩:=aN e'
       have htk:T.encs (os.take (i+1))=T.encs (os.take i)++[[.int .i64 ya,.int .i64 yb,.int .i64 yc,.sl false yd]]:=by
        have:os[i]? =some e':=by rw [hos,jd (fun h=>hij h.symm),he']
        rw [T.encs_map,T.encs_map,kH this,hyy]
       rw [hyy] at hg'
       repeat' (first|(refine cC ?_;simp only [wS,simprocAttr,eij,hg',hltE,hge,↓bM,↓aY])|refine aH|fail)
       refine cL (v':=i) (es:=[[.int .i64 ya,.int .i64 yb,.int .i64 yc,.sl false yd]]) (by':=48) (by kernel_rfl) aZ hvv hps (by simp [cW]) (by simp) (by rw [hal];simp only [am];omega) ?_
       simp only [wS,simprocAttr,↓bM,↓aY]
       try refine ⟨by kernel_rfl,?_⟩
       repeat' (first|(refine cC ?_;simp only [wS,simprocAttr,e3,↓bM,↓aY])|refine aH|fail)
       refine hK3.go ⟨i+1,hlt2⟩ (Weak.ref ⟨?_,.inr ⟨az _,?_,fun g cs hg=>bE (bX g cs hg),?_,?_⟩⟩) (by simp only;omega)
       .exact aZ
       .simp only [wS,simprocAttr,cj,htk];try exact rfl
       .intro z hz
        replace hz:=aC hz
        rcases hz with rfl|rfl|rfl|rfl|rfl|rfl|rfl<;>first|rfl|exact aB hip
       .refine aS
        exact ⟨by simp only [aG,aP,aI,aB hte,ai],by simp only [aG,aP,aI,aB hxt,ai],rfl,by simp only [aG,aP,aI,aB hut,ai],by simp only [aG,aP,aI,ac,ab];exact bU rfl,bA (aB (T.encs_tree _))⟩
     .have hge:i=es.length:=by simp [hln] at h;omega
      have hta:os.take i=os:=bx (by omega)
      rw [hta] at hal hps
      refine cP hta
      refine Cont.go (by assumption) (cK (cA [5] (kp [0,1,2,3,4]) (l:=[(6,.ptr 2 0 0),(7,.int .i64 0),(10,.ptr 4 0 0)]) (h:=[.cells 0 [.int .i64 k,.int .i64 n,.int .i64 m,.sl false ME],.cells 0 [.int .i64 xa,.int .i64 xb,.int .i64 xc,.sl false xd],.cells 0 [.int .i64 0,.int .i64 0,.int .i64 0,.sl true []],.cells 0 [.int .i64 ua,.int .i64 ub,.int .i64 uc,.sl false ud],.cells 0 [.int .i64 k,.int .i64 n,.int .i64 m,.sl false (T.encs os)]]) bX (fun r hr=>absurd hr (bm r)) ?_ ?_ ?_) ?_)
      .simp only [wS,simprocAttr,dL,iD,and_true,true_or]
      .rfl
      .simp only [wS,simprocAttr,hta]
       simp only [hY,and_true]
       have keep:∀ (s:AS) (r:Nat) (y:ARow),jW s.row [5] r y y->True:=fun _ _ _ _=>trivial
       exact ⟨.inr ⟨rfl,by simp only [aG,aP,aI,aB hte,ai],.inr ⟨.inl (by simp),.inl rfl⟩⟩,.inr ⟨rfl,by simp only [aG,aP,aI,aB hxt,ai],.inr ⟨.inl (by simp),.inl rfl⟩⟩,.inr ⟨rfl,rfl,.inr ⟨.inl (by simp),.inl rfl⟩⟩,.inr ⟨rfl,by simp only [aG,aP,aI,aB hut,ai],.inr ⟨.inl (by simp),.inl rfl⟩⟩,.inr ⟨rfl,by simp only [aG,aP,aI,ac,ab];exact aB (T.encs_tree os),.inr ⟨.inl (by simp),.inr ⟨0,_,_,rfl,rfl,.inl rfl,.inl rfl,.inl rfl,.inr (eA (v:=i - 1) rfl (by simp) hps (T.encs_tree os)),trivial⟩⟩⟩,rfl⟩
      refine aF
      exact bK (v:=.agg [.int .i64 k,.int .i64 n,.int .i64 m,.sl false (T.encs os)]) rfl aZ (congrArg (fun z=>AV.tup [AV.agg z,AV.int .i64 0]) (T.wk_enc (.mk k n m os)))
   .cases h
  .cases h
set_option maxHeartbeats 8000000 in
theorem IY (M : List Si) (hM : M.length <= 1000000000000000) (hp : ∀ s ∈ M, s.1.length <= 1000000000000000) : Pure Tryz.prog G0 38 [mV M] (.bool (c6 M)) := by
 have hno:=@L7 M
 have hyes:=@EH M
 have ht:=cX M
 have hn:=jA M
 have hg:=fun (i:Nat) (s:Si)=>mE (M:=M) (i:=i) (s:=s)
 obtain ⟨V,hV⟩:∃ x,x=c6 M:=⟨_,rfl⟩
 rw [<- hV]
 rw [<- hV] at hno hyes
 simp only [mV]
 generalize mC M=MC at ht hn hg ⊢
 refine aL bX Tryz.func38 rfl (by kernel_rfl) (by simp [Tryz.ntmps38]) (by simp only [aP,aI,ht,ai]) (by simp [aI]) ?_
 simp only [Tryz.ntmps38,aK,Nat.reduceAdd]
 refine aF
 refine aJ (α:={i:Nat // i<=M.length/\∀ (a b:Nat) (x y:Si),a<b->b<i->M[a]? =some x->M[b]? =some y->mM x.1 y.1=true}) (fun i=>[(1,.ptr 0 0 0),(3,.int .i64 (i.1:Nat))]) (fun i=>[.cells 0 [.sl false MC]]) (fun i=>M.length - i.1) ⟨0,az _,fun a b x y _ h=>by omega⟩ (Weak.ref ⟨?_,.inl ?_⟩) ?_
 .exact aZ
 .exact aZ
 .rintro ⟨i,hi,hlts⟩ K1 hK1
  try simp only at hi hlts
  by_cases hlt:i<M.length
  .have c1 : decide (((i : Nat) : Int) < ((MC.length : Nat) : Int)) = true := by simp; omega
   have e3:=aO (k:=i) hlt (by omega)
   obtain ⟨y,hy⟩:∃ y,M[i]? =some y:=⟨_,ah hlt⟩
   have gy:=hg i y hy
   have hB:i<MC.length:=by omega
   refine bB (bF c1 e3)
   refine aJ (α:={k:Nat // k<=i/\∀ (a:Nat) (x:Si),a<k->M[a]? =some x->mM x.1 y.1=true}) (fun k=>[(1,.ptr 0 0 0),(3,.int .i64 (i:Nat)),(4,.int .i64 (k.1:Nat))]) (fun i=>[.cells 0 [.sl false MC]]) (fun k=>i - k.1) ⟨0,az _,fun a x h=>by omega⟩ (Weak.ref ⟨?_,.inl ?_⟩) ?_
   .exact aZ
   .exact aZ
   .rintro ⟨k,hk,hks⟩ K2 hK2
    try simp only at hk hks
    by_cases hlk:k<i
    .have c2:decide (((k:Nat):Int)<((i:Nat):Int))=true:=by simp;omega
     have f3:=aO (k:=k) hlk (by omega)
     obtain ⟨x,hx⟩:∃ x,M[k]? =some x:=⟨_,ah (by omega)⟩
     have gx:=hg k x hx
     have hA:k<MC.length:=by omega
     have kc:=O8 x y (hp x (aj hx))
     have kb:=IW x.1 y.1 (hp x (aj hx))
     have kb2:=IW y.1 x.1 (hp y (aj hy))
     have hbad:=PY x y
     have hpre:=@OU x.1 y.1
     have hno':=fun h=>hno (i:=k) (j:=i) hlk hx hy h
     have hnx:mM x.1 y.1=true->∀ (a:Nat) (x:Si),a<k+1->M[a]? =some x->mM x.1 y.1=true:=fun h a x' ha hx'=>by
      by_cases e:a=k
      .subst e
       rw [hx] at hx'
       cases hx'
       exact h
      .exact hks a x' (by omega) hx'
     generalize mM x.1 y.1=L at hbad hno' hnx hpre
     generalize jJ x y=cv at hbad kc
     generalize lK x.1 y.1=pv at hbad kb
     generalize lK y.1 x.1=pw at hpre kb2
     generalize aT x.1=ix at gx kc kb kb2
     generalize aT y.1=iy at gy kc kb kb2
     cases hd:decide (cv >= 0) with
     |true=>
      have hL:L=false:=by rw [hd] at hbad;simpa using hbad.symm
      have hv:=hno' hL
      repeat' (first|(refine cC ?_;simp only [wS,simprocAttr,gx,gy,hA,hB,c2,f3,hd,bf,be])|refine aM|refine iP ?_|fail)
      refine aD rfl ?_
      refine aA
      rw [hv]
     |false=>
      rw [hd,ej] at hbad
      cases pv with
      |true=>
       have hL:L=false:=by simpa using hbad.symm
       have hv:=hno' hL
       repeat' (first|(refine cC ?_;simp only [wS,simprocAttr,gx,gy,hA,hB,c2,f3,hd,bf,be])|refine aM|refine iP ?_|fail)
       refine aD rfl ?_
       refine aA
       rw [hv]
      |false=>
       have hL:L=true:=by simpa using hbad.symm
       have hpw:=hpre hL
       subst hpw
       repeat' (first|(refine cC ?_;simp only [wS,simprocAttr,gx,gy,hA,hB,c2,f3,hd,bf,be])|refine aM|refine iP ?_|fail)
       refine hK2.go ⟨k+1,hlk,hnx hL⟩ aX (by simp only;omega)
       .exact aZ
       .exact aZ
       .intro z hz
        replace hz:=aC hz
        rcases hz with rfl|rfl|rfl<;>first|rfl|rfl
       .refine aS;try exact (by simp only [aG,aP,aI,ac,ab];exact aB ht)
    .have c2:decide (((k:Nat):Int)<((i:Nat):Int))=false:=by simp;omega
     have hki:k=i:=by omega
     have hnx:∀ (a b:Nat) (x y:Si),a<b->b<i+1->M[a]? =some x->M[b]? =some y->mM x.1 y.1=true:=fun a b x' y' hab hb hx' hy'=>by
      by_cases e:b=i
      .subst e
       rw [hy] at hy'
       cases hy'
       exact hks a x' (by omega) hx'
      .exact hlts a b x' y' hab (by omega) hx' hy'
     refine bB (bF c2 e3)
     refine hK1.go ⟨i+1,hlt,hnx⟩ aX (by simp only;omega)
     .exact aZ
     .exact aZ
     .intro z hz
      replace hz:=aC hz
      rcases hz with rfl|rfl<;>first|rfl|rfl
     .refine aS;try exact (by simp only [aG,aP,aI,ac,ab];exact aB ht)
  .have c1:decide (((i:Nat):Int)<((MC.length:Nat):Int))=false:=by simp;omega
   have hv:=hyes fun j x y hx hy=>hlts j (j+1) x y (by omega) (by have:=(aq.1 hy).1;omega) hx hy
   refine bB c1
   refine aD rfl ?_
   refine aA
   rw [hv,hn]
   simp;omega
set_option maxHeartbeats 8000000 in
theorem aAS (c:T) (hc:T.size c<=1000000000000) (O:List hI) (hO:∀ o∈O,OpB o) (M:List Si) (hM:M.length<=1000000000000000) (hp:∀ s∈M,s.1.length<=2000000000000):Pure Tryz.prog G0 13 [.agg (T.enc c),.sl false (O.map eE),mV M] (rC c O M):=by
 have hM0:True:=trivial
 have hst:∀ (i:Nat) (s:Si),M[i]? =some s->Pure Tryz.prog G0 41 [.agg (T.enc c),.sl false (O.map eE),.agg [.sl false (aT s.1),.int .i64 s.2]] (gG (fK c O s)):=fun i s h=>JE c (by omega) O hO s (hp s (aj h))
 have ka:=Q4 M hM fun s hs=>by have:=hp s hs;omega
 have kco:=aAO _ c (ap _) (by omega)
 simp only [mV] at ka ⊢
 have ht:=cX M
 have hn:=jA M
 have hg:=fun (i:Nat) (s:Si)=>mE (M:=M) (i:=i) (s:=s)
 have hOt:=dH O
 have htr:=T.enc_tree c
 obtain ⟨res,hres⟩:∃ r,r=g9 c O c M:=⟨_,rfl⟩
 have hrt:=CL (g9 c O c M)
 have hrV:aI aE (rC c O M)=true:=by
  rw [rC];split
  .exact hrt
  .rfl
 rw [rC,<- hres] at hrV ⊢
 generalize mC M=MC at ht hn hg ka ⊢
 generalize O.map eE=OL at hOt hst ⊢
 obtain ⟨ca,cb,cc,cd,hce⟩:=aN c
 rw [hce] at kco htr ⊢
 refine bH bX Tryz.func13 rfl (by kernel_rfl) (by simp [Tryz.ntmps13]) (by simp only [aP,aI,hOt,ht,ac,ab] at htr ⊢;exact htr) (by exact hrV) ?_
 simp only [Tryz.ntmps13,aK,Nat.reduceAdd]
 cases hA:c6 M with
 |false=>
  rw [hA] at ka
  simp only [hA,aw,if_false]
  refine jI
  refine bK (v:=.agg [.int .i64 0,.int .i64 0,.int .i64 0,.sl true []]) rfl ?_ ?_
  .refine aA
  .refine aA
   rfl
 |true=>
  rw [hA] at ka
  simp only [hA,if_true]
  have hM3:M.length<=3:=by
   simp only [c6,ae,decide_eq_true_eq] at hA
   exact hA.2
  have hlt':=@oB M hA
  refine jI
  refine aJ (α:={y:Nat × T // y.1<=M.length/\g9 c O y.2 (M.drop y.1)=res/\T.wd y.2/\∀ (j:Nat) (s:Si),y.1<=j->M[j]? =some s->T.sub y.2 s.1=T.sub c s.1}) (fun y=>[(1,.sl false OL),(3,.ptr 0 0 0),(6,.ptr 2 0 0),(8,.ptr 3 0 0),(22,.sl false MC),(23,.int .i64 (MC.length:Nat)),(24,.int .i64 (y.1.1:Nat))]) (fun y=>[.cells 0 [.int .i64 ca,.int .i64 cb,.int .i64 cc,.sl false cd],.cells 0 [.sl false MC],.cells 0 [.int .i64 0,.int .i64 0,.int .i64 0,.sl true []],.cells 0 (T.enc y.1.2)]) (fun y=>M.length - y.1.1) ⟨(0,c),az _,hres.symm,T.wd_of (by show T.size c<=_;omega),fun j s _ _=>rfl⟩ (Weak.ref ⟨?_,.inl ?_⟩) ?_
  .exact aZ
  .simp only [wS,simprocAttr,hce];try exact rfl
  .rintro ⟨⟨i,y⟩,hi,hmk,hsz,hsub⟩ K hK
   simp only at hi hmk hsz hsub
   have hyt:=T.enc_tree y
   by_cases hlt:i<M.length
   .have c1:decide (((i:Nat):Int)<((MC.length:Nat):Int))=true:=by simp;omega
    have e3:=aO (k:=i) hlt (by omega)
    obtain ⟨s,hs⟩:∃ s,M[i]? =some s:=⟨_,ah hlt⟩
    have gs:=hg i s hs
    have hA':i<MC.length:=by omega
    have hd:M.drop i=s::M.drop (i+1):=by
     obtain ⟨q1,q2⟩:=aq.1 hs
     rw [cg q1,q2]
    rw [hd,g9] at hmk
    have kst:=hst i s hs
    rw [hce] at kst
    obtain ⟨ya,yb,yc,yd,hye⟩:=aN y
    cases hx:fK c O s with
    |none=>
     rw [hx] at hmk kst
     simp only at hmk
     simp only [gG] at kst
     generalize aT s.1=is at gs kst
     subst hmk
     simp only [hye]
     refine dM (eB gs hA' c1)
     refine bK (v:=.agg [.int .i64 0,.int .i64 0,.int .i64 0,.sl true []]) rfl ?_ ?_
     .refine aA
     .refine aA
      rfl
    |some x=>
     obtain ⟨n,o,h1,h2,h3,h4⟩:=uI hx
     have hxs:T.wd x:=W4 (dj (T.sub_size h1) hc) h4
     have hsy:T.sub y s.1=some n:=by rw [hsub i s (ap _) hs,h1]
     have kse:=aAb y x n s.1 (hp s (aj hs)) hsz hxs hsy
     have hzw:=T.set_wd s.1 hsz hxs
     have hsub':∀ (j:Nat) (s':Si),i+1<=j->M[j]? =some s'->T.sub (T.set y s.1 x) s'.1=T.sub c s'.1:=fun j s' hj hs'=>by
      rw [T.sub_set y x (hlt' (by omega) hs hs'),hsub j s' (by omega) hs']
     rw [hx] at hmk kst
     simp only at hmk
     simp only [gG] at kst
     generalize hz:T.set y s.1 x=z at hmk kse hzw hsub'
     generalize aT s.1=is at gs kst kse
     have hzt:=T.enc_tree z
     obtain ⟨xa,xb,xc,xd,hxe⟩:=aN x
     obtain ⟨za,zb,zc',zd,hze⟩:=aN z
     rw [hye,hxe,hze] at kse
     rw [hxe] at kst
     simp only [hye]
     have e0:((0:Int) != 0)=false:=rfl
     refine dM (kT gs hA' c1 e3 e0)
     refine hK.go ⟨(i+1,z),hlt,hmk,hzw,hsub'⟩ aX (by simp only;omega)
     .exact aZ
     .simp only [wS,simprocAttr,hze];try exact rfl
     .intro z hz
      replace hz:=aC hz
      rcases hz with rfl|rfl|rfl|rfl|rfl|rfl|rfl<;>first|rfl|(simp only [aI];first|exact aB hOt|exact aB ht)
     .refine aS;try exact ⟨bE htr,bE (by simp only [aP,aI,ht,ai]),rfl,bE hzt⟩
   .have c1:decide (((i:Nat):Int)<((MC.length:Nat):Int))=false:=by simp;omega
    have hyw:=T.wk_enc y
    rw [show i=M.length by omega,du,g9] at hmk
    subst hmk
    obtain ⟨ya,yb,yc,yd,hye⟩:=aN y
    rw [hye] at hyw
    simp only [hye]
    refine bB c1
    refine bK (v:=.agg [.int .i64 ya,.int .i64 yb,.int .i64 yc,.sl false yd]) rfl ?_ ?_
    .refine aA
    .refine aA
     rw [TG,hye,AM.wk,wkL,AM.wk,hyw,wkL,AM.wk,wkL]
set_option maxHeartbeats 8000000 in
theorem XP (c : T) (hc : T.size c <= 1000000000000) (O : List hI) (hO : ∀ o ∈ O, OpB o) (M : List Si) (hM : M.length <= 1000000000000000) (hp : ∀ s ∈ M, s.1.length <= 2000000000000) : Pure Tryz.prog G0 14 [.agg (T.enc c), .sl false (O.map eE), mV M] (rC c O M) := by
 have hst:=fun (i:Nat) (s:Si) (h:M[i]? =some s)=>FO s.1 c (hp s (aj h))
 have hOl:(O.map eE).length=O.length:=bp _
 have hOg:∀ (j:Nat) (o:hI),O[j]? =some o->(O.map eE)[j]? =some (eE o):=fun j o h=>by rw [bh,h];rfl
 have ka:=IY M hM fun s hs=>by have:=hp s hs;omega
 simp only [mV] at ka ⊢
 have ht:=cX M
 have hn:=jA M
 have hg:=fun (i:Nat) (s:Si)=>mE (M:=M) (i:=i) (s:=s)
 have hOt:=dH O
 have htr:=T.enc_tree c
 obtain ⟨res,hres⟩:∃ r,r=g9 c O c M:=⟨_,rfl⟩
 have hrt:=CL (g9 c O c M)
 have hrV:aI aE (rC c O M)=true:=by
  rw [rC];split
  .exact hrt
  .rfl
 rw [rC,<- hres] at hrV ⊢
 generalize mC M=MC at ht hn hg ka ⊢
 generalize O.map eE=OL at hOt hOl hOg ⊢
 obtain ⟨ca,cb,cc,cd,hce⟩:=aN c
 rw [hce] at htr ⊢
 refine bH bX Tryz.func14 rfl (by kernel_rfl) (by simp [Tryz.ntmps14]) (by simp only [aP,aI,hOt,ht,ac,ab] at htr ⊢;exact htr) (by exact hrV) ?_
 simp only [Tryz.ntmps14,aK,Nat.reduceAdd]
 cases hA:c6 M with
 |false=>
  rw [hA] at ka
  simp only [hA,aw,if_false]
  refine jI
  refine bK (v:=.agg [.int .i64 0,.int .i64 0,.int .i64 0,.sl true []]) rfl ?_ ?_
  .refine aA
  .refine aA
   rfl
 | true =>
  rw [hA] at ka
  simp only [hA,if_true]
  have hM3:M.length<=3:=by
   simp only [c6,ae,decide_eq_true_eq] at hA
   exact hA.2
  have hlt':=@oB M hA
  refine jI
  refine aJ (α:={y:Nat × T // y.1<=M.length/\g9 c O y.2 (M.drop y.1)=res/\T.wd y.2/\∀ (j:Nat) (s:Si),y.1<=j->M[j]? =some s->T.sub y.2 s.1=T.sub c s.1}) (fun y=>[(1,.sl false OL),(3,.ptr 0 0 0),(5,.ptr 1 0 0),(6,.ptr 2 0 0),(8,.ptr 3 0 0),(9,.int .i64 (y.1.1:Nat))]) (fun y=>[.cells 0 [.int .i64 ca,.int .i64 cb,.int .i64 cc,.sl false cd],.cells 0 [.sl false MC],.cells 0 [.int .i64 0,.int .i64 0,.int .i64 0,.sl true []],.cells 0 (T.enc y.1.2)]) (fun y=>M.length - y.1.1) ⟨(0,c),az _,hres.symm,T.wd_of (by show T.size c<=_;omega),fun j s _ _=>rfl⟩ (Weak.ref ⟨?_,.inl ?_⟩) ?_
  .exact aZ
  .simp only [wS,simprocAttr,hce];try exact rfl
  .rintro ⟨⟨i,y⟩,hi,hmk,hsz,hsub⟩ K hK
   simp only at hi hmk hsz hsub
   have hyt:=T.enc_tree y
   by_cases hlt:i<M.length
   .have c1 : decide (((i : Nat) : Int) < ((MC.length : Nat) : Int)) = true := by simp; omega
    have e3:=aO (k:=i) hlt (by omega)
    obtain ⟨s,hs⟩:∃ s,M[i]? =some s:=⟨_,ah hlt⟩
    have gs:=hg i s hs
    have hA':i<MC.length:=by omega
    have hd:M.drop i=s::M.drop (i+1):=by
     obtain ⟨q1,q2⟩:=aq.1 hs
     rw [cg q1,q2]
    rw [hd,g9] at hmk
    have kst:=hst i s hs
    rw [hce] at kst
    obtain ⟨ya,yb,yc,yd,hye⟩:=aN y
    have d1:True:=trivial
    have d2:True:=trivial
    have d3:True:=trivial
    cases hn':T.sub c s.1 with
    |none=>
     rw [fK,hn'] at hmk
     rw [hn'] at kst
     simp only at hmk
     simp only [gG] at kst
     generalize aT s.1=is at gs kst
     subst hmk
     simp only [hye]
     refine dM (eT gs hA' c1 e3 d1 d2 d3)
     refine bK (v:=.agg [.int .i64 0,.int .i64 0,.int .i64 0,.sl true []]) rfl ?_ ?_
     .refine aA
     .refine aA
      rfl
    |some n=>
     have hnz:=dj (T.sub_size hn') hc
     rw [hn'] at kst
     simp only [gG] at kst
     obtain ⟨na,nb,nc,nd,hne⟩:=aN n
     rw [hne] at kst
     cases ho:W1 O s.2 with
     |none=>
      rw [fK,hn'] at hmk
      simp only [ho] at hmk
      subst hmk
      simp only [hye]
      have hno:=L5 ho
      generalize aT s.1=is at gs kst
      by_cases hs0:s.2<0
      .have d1:decide (s.2<0)=true:=by simp [hs0]
       refine dM (eT gs hA' c1 e3 d1 d2 d3)
       refine bK (v:=.agg [.int .i64 0,.int .i64 0,.int .i64 0,.sl true []]) rfl ?_ ?_
       .refine aA
       .refine aA
        rfl
      .have d1:decide (s.2<0)=false:=by simp;omega
       have d2:decide (s.2 >= ((OL.length:Nat):Int))=true:=by simp;omega
       refine dM (eT gs hA' c1 e3 d1 d2 d3)
       refine bK (v:=.agg [.int .i64 0,.int .i64 0,.int .i64 0,.sl true []]) rfl ?_ ?_
       .refine aA
       .refine aA
        rfl
     |some o=>
      obtain ⟨j,hsj,hoj⟩:=L4 ho
      have hom:=hO o (aj hoj)
      have go:=hOg j o hoj
      have hjl:j<OL.length:=by have:=(aq.1 hoj).1;omega
      rw [hsj] at gs
      have d1:decide (((j:Nat):Int)<0)=false:=by simp
      have d2:decide (((j:Nat):Int) >= ((OL.length:Nat):Int))=false:=by simp;omega
      by_cases hl:O.length<=24
      .have d3:decide (((OL.length:Nat):Int) > 24)=false:=by simp;omega
       have kap:=IX o.1 o.2.1 o.2.2.1 o.2.2.2 hom.1 hom.2 n (by omega)
       rw [show T.app o.1 o.2.1 o.2.2.1 o.2.2.2 n=fK c O s by rw [fK,hn'];simp only [ho,if_pos hl];rfl] at kap
       clear hom
       obtain ⟨onm,of',op,oob⟩:=o
       obtain ⟨ofa,ofb,ofc,ofd,hfe⟩:=aN of'
       obtain ⟨opa,opb,opc,opd,hpe⟩:=aN op
       simp only [eE,sF,hfe,hpe,ar,ba] at go kap
       rw [hne] at kap
       cases hx:fK c O s with
       |none=>
        rw [hx] at hmk kap
        simp only at hmk
        simp only [gG] at kap
        generalize aT s.1=is at gs kst
        subst hmk
        simp only [hye]
        refine dM (HO gs hA' c1 e3 d1 d2 d3 @go hjl)
        refine bK (v:=.agg [.int .i64 0,.int .i64 0,.int .i64 0,.sl true []]) rfl ?_ ?_
        .refine aA
        .refine aA
         rfl
       |some x=>
        obtain ⟨n2,o2,h1,h2,h3,h4⟩:=uI hx
        have hxs:T.wd x:=W4 (dj (T.sub_size h1) hc) h4
        have hsy:T.sub y s.1=some n2:=by rw [hsub i s (ap _) hs,h1]
        have kse:=aAs s.1 false y x n2 (hp s (aj hs)) hsz hsy
        have hzw:=T.set_wd s.1 hsz hxs
        have hsub':∀ (j:Nat) (s':Si),i+1<=j->M[j]? =some s'->T.sub (T.set y s.1 x) s'.1=T.sub c s'.1:=fun j s' hj hs'=>by
         rw [T.sub_set y x (hlt' (by omega) hs hs'),hsub j s' (by omega) hs']
        rw [hx] at hmk kap
        simp only at hmk
        simp only [gG] at kap
        generalize hz:T.set y s.1 x=z at hmk kse hzw hsub'
        generalize aT s.1=is at gs kst kse
        have hzt:=T.enc_tree z
        obtain ⟨xa,xb,xc,xd,hxe⟩:=aN x
        obtain ⟨za,zb,zc',zd,hze⟩:=aN z
        rw [hye,hxe,hze] at kse
        rw [hxe] at kap
        simp only [hye]
        refine dM (HO gs hA' c1 e3 d1 d2 d3 @go hjl)
        refine hK.go ⟨(i+1,z),hlt,hmk,hzw,hsub'⟩ aX (by simp only;omega)
        .exact aZ
        .simp only [wS,simprocAttr,hze];try exact rfl
        .intro z hz
         replace hz:=aC hz
         rcases hz with rfl|rfl|rfl|rfl|rfl|rfl<;>first|rfl|(simp only [aI];first|exact aB hOt|exact aB ht)
        .refine aS;try exact ⟨bE htr,bE (by simp only [aP,aI,ht,ai]),rfl,bE hzt⟩
      .have d3:decide (((OL.length:Nat):Int) > 24)=true:=by simp;omega
       rw [fK,hn'] at hmk
       simp only [ho,if_neg hl] at hmk
       subst hmk
       simp only [hye]
       generalize aT s.1=is at gs kst
       refine dM (eT gs hA' c1 e3 d1 d2 d3)
       refine bK (v:=.agg [.int .i64 0,.int .i64 0,.int .i64 0,.sl true []]) rfl ?_ ?_
       .refine aA
       .refine aA
        rfl
   .have c1:decide (((i:Nat):Int)<((MC.length:Nat):Int))=false:=by simp;omega
    have hyw:=T.wk_enc y
    rw [show i=M.length by omega,du,g9] at hmk
    subst hmk
    obtain ⟨ya,yb,yc,yd,hye⟩:=aN y
    rw [hye] at hyw
    simp only [hye]
    refine bB c1
    refine bK (v:=.agg [.int .i64 ya,.int .i64 yb,.int .i64 yc,.sl false yd]) rfl ?_ ?_
    .refine aA
    .refine aA
     rw [TG,hye,AM.wk,wkL,AM.wk,hyw,wkL,AM.wk,wkL]
structure TO {α:Type} (c: α->α->Int):Prop where
 anti:∀ x y,c y x= -c x y
 trans:∀ x y z,c x y<=0->c y z<=0->c x z<=0
theorem TO.lt1 {α:Type} {c: α->α->Int} (h:TO c) {x y z: α} (h1:c x y<0) (h2:c y z<=0):c x z<0:=by
 have:=h.trans x y z (by omega) h2
 have a:=h.anti x z
 have b:=h.anti y z
 have d:=h.anti x y
 have e:=h.trans y z x h2
 omega
theorem TO.lt2 {α:Type} {c: α->α->Int} (h:TO c) {x y z: α} (h1:c x y<=0) (h2:c y z<0):c x z<0:=by
 have:=h.trans x y z h1 (by omega)
 have a:=h.anti x z
 have b:=h.anti y z
 have d:=h.anti x y
 have e:=h.trans z x y
 omega
theorem TO.eq {α:Type} {c: α->α->Int} (h:TO c) {x y z: α} (h1:c x y=0) (h2:c y z=0):c x z=0:=by
 have:=h.trans x y z (by omega) (by omega)
 have a:=h.anti x z
 have b:=h.anti y z
 have d:=h.anti x y
 have e:=h.trans z y x (by omega) (by omega)
 omega
def two (a b:Int):Int:=if a≠0 then a else b
theorem SJ {a b:Int}:two a b<=0↔(a<0\/(a=0/\b<=0)):=by
 unfold two;split<;>omega
theorem TO.pair {α β:Type} {c: α->α->Int} {d: β->β->Int} (h:TO c) (g:TO d):TO (fun a b: α × β=>two (c a.1 b.1) (d a.2 b.2)):=by
 refine ⟨fun x y=>?_,fun x y z h1 h2=>?_⟩
 .have:=h.anti x.1 y.1
  have:=g.anti x.2 y.2
  simp only [two]
  split<;>split<;>omega
 .simp only [SJ] at h1 h2 ⊢
  rcases h1 with h1|⟨h1,k1⟩
  .exact .inl (h.lt1 h1 (by omega))
  .rcases h2 with h2|⟨h2,k2⟩
   .exact .inl (h.lt2 (by omega) h2)
   .exact .inr ⟨h.eq h1 h2,g.trans _ _ _ k1 k2⟩
def qU {α:Type} (c: α->α->Int):List α->List α->Int
 | [],[]=>0
 | [],_::_=> -1
 |_::_,[]=>1
 |x::a,y::b=>two (c x y) (qU c a b)
theorem TO.lex {α:Type} {c: α->α->Int} (h:TO c):TO (qU c):=by
 refine ⟨fun a=>?_,fun a=>?_⟩
 .induction a with
  |nil=>intro b;cases b<;>rfl
  |cons x a ih=>
   intro b
   cases b with
   |nil=>rfl
   |cons y b=>
    have:=h.anti x y
    have:=ih b
    simp only [qU,two]
    split<;>split<;>omega
 .induction a with
  |nil=>intro b d h1 h2;cases b<;>cases d<;>simp [qU] at*
  |cons x a ih=>
   intro b d h1 h2
   cases b with
   |nil=>simp [qU] at h1
   |cons y b=>
    cases d with
    |nil=>simp [qU] at h2
    |cons z d=>
     simp only [qU,SJ] at h1 h2 ⊢
     rcases h1 with h1|⟨h1,k1⟩
     .exact .inl (h.lt1 h1 (by omega))
     .rcases h2 with h2|⟨h2,k2⟩
      .exact .inl (h.lt2 (by omega) h2)
      .exact .inr ⟨h.eq h1 h2,ih _ _ k1 k2⟩
theorem NY:TO dC:=⟨fun x y=>by unfold dC;split<;>split<;>(try split)<;>omega,fun x y z h1 h2=>by unfold dC at *;split<;>split at h1<;>split at h2<;>(try split)<;>(try split at h1)<;>(try split at h2)<;>omega⟩
theorem UH:∀ a b:List Int,gD a b=qU dC a b
 | [],[]=>rfl
 | [],_::_=>rfl
 |_::_,[]=>rfl
 |x::a,y::b=>by rw [gD,qU,two,UH a b]
theorem SP:TO jJ:=by
 have:jJ=fun a b:Si=>two (qU dC a.1 b.1) (dC a.2 b.2):=by
  funext a b
  rw [jJ,two,UH]
 rw [this]
 exact NY.lex.pair NY
def KN (a b:List Si):Int:=two (dC a.length b.length) (qU jJ a b)
theorem PP {α:Type} {M:List α} {i:Nat} {s: α} (h:M[i]? =some s):M.drop i=s::M.drop (i+1):=by
 obtain ⟨q1,q2⟩:=aq.1 h
 rw [cg q1,q2]
theorem D7 {α:Type} {c: α->α->Int} (h:∀ x,c x x=0):∀ a:List α,qU c a a=0
 | []=>rfl
 |x::a=>by rw [qU,two,h x,D7 h a];rfl
theorem M2 (x:Si):jJ x x=0:=by
 have:=SP.anti x x
 omega
theorem R5 (A:List Si):KN A A=0:=by
 rw [KN,two,mU,D7 M2];rfl
set_option maxHeartbeats 8000000 in
theorem XN (A B:List Si) (hA:A.length<=1000000000000000) (hp:∀ s∈A,s.1.length<=1000000000000000):Pure Tryz.prog G0 18 [mV A,mV B] (.int .i64 (KN A B)):=by
 have hat:=cX A
 have hbt:=cX B
 have hal:=jA A
 have hbl:=jA B
 have hga:=fun (i:Nat) (s:Si)=>mE (M:=A) (i:=i) (s:=s)
 have hgb:=fun (i:Nat) (s:Si)=>mE (M:=B) (i:=i) (s:=s)
 obtain ⟨V,hV⟩:∃ v,v=KN A B:=⟨_,rfl⟩
 rw [<- hV]
 rw [KN,two] at hV
 simp only [mV]
 generalize mC A=AC at hat hal hga ⊢
 generalize mC B=BC at hbt hbl hgb ⊢
 refine aL bX Tryz.func18 rfl (by kernel_rfl) (by simp [Tryz.ntmps18]) (by simp only [aP,aI,hat,hbt,ai]) (by simp [aI]) ?_
 simp only [Tryz.ntmps18,aK,Nat.reduceAdd]
 by_cases hl:A.length=B.length
 .have c0:(((AC.length:Nat):Int) != ((BC.length:Nat):Int))=false:=by simp;omega
  rw [hl,mU,if_neg (by simp)] at hV
  refine bB c0
  refine aJ (α:={i:Nat // i<=A.length/\V=qU jJ (A.drop i) (B.drop i)}) (fun i=>[(2,.ptr 0 0 0),(3,.ptr 1 0 0),(4,.int .i64 0),(5,.int .i64 (i.1:Nat))]) (fun _=>[.cells 0 [.sl false AC],.cells 0 [.sl false BC]]) (fun i=>A.length - i.1) ⟨0,az _,hV⟩ (Weak.ref ⟨?_,.inl ?_⟩) ?_
  .exact aZ
  .exact aZ
  .rintro ⟨i,hi,hinv⟩ K hK
   try simp only at hi hinv
   by_cases hlt:i<A.length
   .have c1:decide (((i:Nat):Int)<((AC.length:Nat):Int))=true:=by simp;omega
    have e3:=aO (k:=i) hlt (by omega)
    obtain ⟨x,hx⟩:∃ x,A[i]? =some x:=⟨_,ah hlt⟩
    obtain ⟨y,hy⟩:∃ y,B[i]? =some y:=⟨_,ah (by omega)⟩
    have gx:=hga i x hx
    have gy:=hgb i y hy
    have hA1:i<AC.length:=by omega
    have hB1:i<BC.length:=by omega
    have kc:=O8 x y (hp x (aj hx))
    rw [PP hx,PP hy,qU,two] at hinv
    generalize jJ x y=cv at kc hinv
    by_cases hz:cv=0
    .subst hz
     rw [if_neg (by simp)] at hinv
     have c2:((0:Int) != 0)=false:=rfl
     refine dM (eT gx gy hA1 hB1 c1 c2 e3)
     refine hK.go ⟨i+1,hlt,hinv⟩ aX (by simp only;omega)
     .exact aZ
     .exact aZ
     .intro z hz
      replace hz:=aC hz
      rcases hz with rfl|rfl|rfl|rfl<;>first|rfl|rfl
     .refine aS;try exact ⟨bE (by simp only [aP,aI,hat,ai]),bE (by simp only [aP,aI,hbt,ai])⟩
    .rw [if_pos hz] at hinv
     have c2:(cv != 0)=true:=by simp [hz]
     refine dM (eT gx gy hA1 hB1 c1 c2 e3)
     refine aD rfl ?_
     refine aA
     rw [hinv]
   .have c1:decide (((i:Nat):Int)<((AC.length:Nat):Int))=false:=by simp;omega
    rw [dz (show A.length<=i by omega),dz (show B.length<=i by omega),qU] at hinv
    refine bB c1
    refine aD rfl ?_
    refine aA
    rw [hinv]
 .have c0:(((AC.length:Nat):Int) != ((BC.length:Nat):Int))=true:=by simp;omega
  by_cases hlt:A.length<B.length
  .have c1:decide (((AC.length:Nat):Int)<((BC.length:Nat):Int))=true:=by simp;omega
   have hc:dC (A.length:Int) (B.length:Int)= -1:=by rw [dC,if_pos (by omega)]
   rw [hc] at hV
   refine bB (bF c0 c1)
   refine aD rfl ?_
   refine aA
   rw [hV];rfl
  .have c1:decide (((AC.length:Nat):Int)<((BC.length:Nat):Int))=false:=by simp;omega
   have hc:dC (A.length:Int) (B.length:Int)=1:=by rw [dC,if_neg (by omega),if_pos (by omega)]
   rw [hc] at hV
   refine bB (bF c0 c1)
   refine aD rfl ?_
   refine aA
   rw [hV];rfl
theorem XM (A B:List Si) (hA:A.length<=1000000000000000) (hp:∀ s∈A,s.1.length<=1000000000000000):Pure Tryz.prog G0 29 [mV A,mV B] (.bool (KN A B==0)):=by
 have kc:=XN A B hA hp
 have hat:=cX A
 have hbt:=cX B
 simp only [mV] at kc ⊢
 generalize mC A=AC at hat kc ⊢
 generalize mC B=BC at hbt kc ⊢
 generalize KN A B=V at kc ⊢
 refine aL bX Tryz.func29 rfl (by kernel_rfl) (by simp [Tryz.ntmps29]) (by simp only [aP,aI,hat,hbt,ai]) (by simp [aI]) ?_
 simp only [Tryz.ntmps29,aK,Nat.reduceAdd]
 refine gU
 refine aD rfl ?_
 refine aA
def dg (M j:Nat):List Int:=(List.range j).map fun i=>(bt M i:Int)
theorem VH (M j:Nat):(dg M j).length=j:=by simp [dg]
theorem YW (M j:Nat):dg M (j+1)=dg M j++[(bt M j:Int)]:=by simp [dg,List.range_succ]
theorem aBa (M j i:Nat) (h:i<j):(cB (dg M j))[i]? =some [.int .u8 (bt M i:Int)]:=by
 simp only [cB,dg,gn,bh,List.getElem?_range h,dv,Function.comp]
theorem VG {M i j:Nat} (h:M / 256 ^ i=0) (hij:i<=j):M / 256 ^ j=0:=by
 have h1:M<256 ^ i:=Nat.lt_of_div_eq_zero (Nat.pow_pos (by decide)) h
 have h2:256 ^ i<=256 ^ j:=Nat.pow_le_pow_right (by decide) hij
 exact Nat.div_eq_of_lt (by omega)
theorem JC {M j:Nat} (h1:∀ i,i<j->M / 256 ^ i≠0) (h2:M / 256 ^ j=0):∀ k,j<=k->y0 M k=j
 |0,hk=>by rw [y0];omega
 |k+1,hk=>by
  rw [y0]
  by_cases hj:j=k+1
  .rw [if_neg (h1 k (by omega)),hj]
  .rw [if_pos (VG h2 (by omega)),JC h1 h2 k (by omega)]
set_option maxHeartbeats 4000000 in
theorem IQ (n:Int) (hn:bR n):NN Tryz.prog G0 113 [.int .i64 n] (c9 n).length 1 false (cB (c9 n)).flatten:=by
 obtain ⟨neg,hneg⟩:∃ b,b=decide (n<0):=⟨_,rfl⟩
 obtain ⟨M,hM⟩:∃ m,m=BD n:=⟨_,rfl⟩
 have hMb:M<256 ^ 8:=by rw [hM,BD];have:=hn.1;have:=hn.2;split<;>omega
 have hMs:M<2 ^ 63:=by rw [hM,BD];have:=hn.1;have:=hn.2;split<;>omega
 have hB:c9 n=PH neg (y0 M 8)::bs neg M (y0 M 8):=by rw [c9,nb,<- hM,<- hneg]
 refine iK bX Tryz.func113 rfl (by kernel_rfl) (by simp [Tryz.ntmps113]) (by simp [aP,aI]) (dK (fE _)) ?_
 simp only [Tryz.ntmps113,aK,Nat.reduceAdd]
 refine cR fun K0 hK0=>?_
 refine gB
 refine hK0.go ?_
 refine cR fun Ka hKa=>?_
 refine gB
 refine hKa.go ?_
 refine cR fun Kb hKb=>?_
 have key : ∀ s, Ref G0 59 0 s ⟨eJ [(0, .int .i64 n), (2, .sl true []), (3, .int .i64 (M : Nat))], []⟩ -> Kb s := fun s hr => by
  refine hKb.go (cK hr ?_)
  clear hr hKb hKa hK0
  refine gB
  rename_i Kc hKc
  refine hKc.go ?_
  refine cR fun Kd hKd=>?_
  replace hKd:=aa trivial hKd
  have key2 : ∀ (K : Nat) s, y0 M 8 = K -> K <= 8 -> Ref G0 59 0 s ⟨eJ [(0, .int .i64 n), (4, .sl false (cB (dg M K)))], []⟩ -> Kd s := fun K s hKn hK8 hr => by
   refine hKd.2.go (cK hr ?_)
   clear hr hKd hKc
   rw [hKn] at hB
   have hdl:(cB (dg M K)).length=K:=by rw [eK,VH]
   have hdt:=fE (dg M K)
   have hdg:=fun i (h:i<K)=>aBa M K i h
   generalize cB (dg M K)=DG at hdl hdt hdg ⊢
   have e5:IntKind.i64.wrap (128+(K:Int))=((128+K:Nat):Int):=by rw [bC (by omega) (by omega)];omega
   have e6:IntKind.u8.wrap ((128+K:Nat):Int)=((128+K:Nat):Int):=by rw [nB,jb (by omega)]
   have e7:IntKind.i64.wrap (127 - (K:Int))=((127 - K:Nat):Int):=by rw [bC (by omega) (by omega)];omega
   have e9:IntKind.u8.wrap ((127 - K:Nat):Int)=((127 - K:Nat):Int):=by rw [nB,jb (by omega)]
   have e8:IntKind.i64.wrap ((K:Int) - 1)=(K:Int) - 1:=bC (by omega) (by omega)
   by_cases hlt:n<0
   .have c0:decide (n >= 0)=false:=by simp;omega
    have c1:decide (n<0)=true:=by simp;omega
    obtain rfl:neg=true:=by rw [hneg,c1]
    have hh:PH true K=((127 - K:Nat):Int):=by simp only [PH,if_true,if_false,aw];omega
    refine aR (f7 c0 c1 e5 e6 e7 e9 e8 hdl)
    refine fO (es:=[]) (sz:=1) (by':=1) (mm:=1) (new:=[.int .u8 ((127 - K:Nat):Int)]) (by kernel_rfl) rfl rfl (by simp [cW]) (by decide) (by simp) ?_
    simp only [wS,simprocAttr,c0,c1,e5,e6,e7,e9,e8,hdl]
    refine aR (f7 c0 c1 e5 e6 e7 e9 e8 hdl)
    refine aJ (α:={p:List Int × Nat × Nat // p.2.1<=K/\c9 n=p.1++bs true M p.2.1/\p.1.length+p.2.1=K+1/\p.1≠[]}) (fun p=>[(0,.int .i64 n),(4,.sl false DG),(6,rv 0 p.1.2.2 1 (cB p.1.1)),(7,.int .i64 ((p.1.2.1:Int) - 1))]) (fun p=>[eX p.1.2.2 (cB p.1.1)]) (fun p=>p.1.2.1) ⟨([PH true K],K,0),ap _,hB,by simp;omega,by simp⟩ (Weak.ref ⟨?_,.inl ?_⟩) ?_
    .simp only [wS,simprocAttr,hh,cB,rv,ay,bu,af,ak,reduceCtorEq,if_false];try exact rfl
    .simp only [wS,simprocAttr,hh,cB,eX,ay,bu,cw,ey,br,reduceCtorEq,if_false];try exact rfl
    .rintro ⟨⟨app,r,v⟩,hr,happ,hlen,hne⟩ K1 hK1
     try simp only at hr happ hlen hne
     have hcl:=eK app
     have hcn:=jP hne
     cases r with
     |zero=>
      have c2:decide (((0:Nat):Int) - 1 >= 0)=false:=rfl
      rw [bs,br] at happ
      subst happ
      simp only [qZ hcn,mA hcn,hcl]
      refine aR c2
      refine aD rfl ?_
      refine aA
      exact ⟨0,v,rfl,rfl⟩
     |succ q=>
      have e9':((q+1:Nat):Int) - 1=(q:Int):=by omega
      have c2:decide ((q:Int) >= 0)=true:=by simp
      have e8':IntKind.i64.wrap ((q:Int) - 1)=(q:Int) - 1:=bC (by omega) (by omega)
      have gq:=hdg q (by omega)
      have hqD:q<DG.length:=by omega
      have hbt:bt M q<256:=Nat.mod_lt _ (by decide)
      have e4:IntKind.u8.wrap (255 - (bt M q:Int))=((255 - bt M q:Nat):Int):=by
       rw [show (255:Int) - (bt M q:Int)=((255 - bt M q:Nat):Int) by omega,nB,jb (by omega)]
      have hfl:fl true (bt M q:Int)=((255 - bt M q:Nat):Int):=by simp only [fl,if_true,if_false,aw];omega
      rw [bs,hfl] at happ
      have happ':c9 n=(app++[((255 - bt M q:Nat):Int)])++bs true M q:=by rw [happ,bj];rfl
      have hcs:cB (app++[((255 - bt M q:Nat):Int)])=cB app++[[.int .u8 ((255 - bt M q:Nat):Int)]]:=n0 _ _
      generalize bt M q=bq at gq e4 happ' hcs ⊢
      simp only [e9']
      repeat' (first|(refine cC ?_;simp only [wS,simprocAttr,gq,hqD,c1,c2,e4,e8'])|refine aM|refine cL (v':=v+1) (es:=[[.int .u8 ((255 - bq:Nat):Int)]]) (by':=1) (by kernel_rfl) aZ (by rw [if_neg hcn]) (mW app) (by simp [cW]) (by simp) (by rw [hcl];simp only [am];omega) (gR ?_))
      refine hK1.go ⟨(app++[((255 - bq:Nat):Int)],q,v+1),by show q<=K;omega,happ',by simp only [an,am];omega,by simp⟩ (Weak.ref ⟨?_,.inl ?_⟩) (by simp only;omega)
      .simp only [wS,simprocAttr,hcs];try exact rfl
      .simp only [wS,simprocAttr,hcs];try exact rfl
   .have c0:decide (n >= 0)=true:=by simp;omega
    have c1:decide (n<0)=false:=by simp;omega
    obtain rfl:neg=false:=by rw [hneg,c1]
    have hh:PH false K=((128+K:Nat):Int):=by simp only [PH,if_true,if_false,aw];omega
    refine aR (f7 c0 c1 e5 e6 e7 e9 e8 hdl)
    refine fO (es:=[]) (sz:=1) (by':=1) (mm:=1) (new:=[.int .u8 ((128+K:Nat):Int)]) (by kernel_rfl) rfl rfl (by simp [cW]) (by decide) (by simp) ?_
    simp only [wS,simprocAttr,c0,c1,e5,e6,e7,e9,e8,hdl]
    refine aR (f7 c0 c1 e5 e6 e7 e9 e8 hdl)
    refine aJ (α:={p:List Int × Nat × Nat // p.2.1<=K/\c9 n=p.1++bs false M p.2.1/\p.1.length+p.2.1=K+1/\p.1≠[]}) (fun p=>[(0,.int .i64 n),(4,.sl false DG),(6,rv 0 p.1.2.2 1 (cB p.1.1)),(7,.int .i64 ((p.1.2.1:Int) - 1))]) (fun p=>[eX p.1.2.2 (cB p.1.1)]) (fun p=>p.1.2.1) ⟨([PH false K],K,0),ap _,hB,by simp;omega,by simp⟩ (Weak.ref ⟨?_,.inl ?_⟩) ?_
    .simp only [wS,simprocAttr,hh,cB,rv,ay,bu,af,ak,reduceCtorEq,if_false];try exact rfl
    .simp only [wS,simprocAttr,hh,cB,eX,ay,bu,cw,ey,br,reduceCtorEq,if_false];try exact rfl
    .rintro ⟨⟨app,r,v⟩,hr,happ,hlen,hne⟩ K1 hK1
     try simp only at hr happ hlen hne
     have hcl:=eK app
     have hcn:=jP hne
     cases r with
     |zero=>
      have c2:decide (((0:Nat):Int) - 1 >= 0)=false:=rfl
      rw [bs,br] at happ
      subst happ
      simp only [qZ hcn,mA hcn,hcl]
      refine aR c2
      refine aD rfl ?_
      refine aA
      exact ⟨0,v,rfl,rfl⟩
     |succ q=>
      have e9':((q+1:Nat):Int) - 1=(q:Int):=by omega
      have c2:decide ((q:Int) >= 0)=true:=by simp
      have e8':IntKind.i64.wrap ((q:Int) - 1)=(q:Int) - 1:=bC (by omega) (by omega)
      have gq:=hdg q (by omega)
      have hqD:q<DG.length:=by omega
      have hbt:bt M q<256:=Nat.mod_lt _ (by decide)
      have e4:IntKind.u8.wrap (255 - (bt M q:Int))=((255 - bt M q:Nat):Int):=by
       rw [show (255:Int) - (bt M q:Int)=((255 - bt M q:Nat):Int) by omega,nB,jb (by omega)]
      have hfl:fl false (bt M q:Int)=((bt M q:Nat):Int):=by simp only [fl,if_false,aw]
      rw [bs,hfl] at happ
      have happ':c9 n=(app++[((bt M q:Nat):Int)])++bs false M q:=by rw [happ,bj];rfl
      have hcs:cB (app++[((bt M q:Nat):Int)])=cB app++[[.int .u8 ((bt M q:Nat):Int)]]:=n0 _ _
      generalize bt M q=bq at gq e4 happ' hcs ⊢
      simp only [e9']
      repeat' (first|(refine cC ?_;simp only [wS,simprocAttr,gq,hqD,c1,c2,e4,e8'])|refine aM|refine cL (v':=v+1) (es:=[[.int .u8 ((bq:Nat):Int)]]) (by':=1) (by kernel_rfl) aZ (by rw [if_neg hcn]) (mW app) (by simp [cW]) (by simp) (by rw [hcl];simp only [am];omega) (gR ?_))
      refine hK1.go ⟨(app++[((bq:Nat):Int)],q,v+1),by show q<=K;omega,happ',by simp only [an,am];omega,by simp⟩ (Weak.ref ⟨?_,.inl ?_⟩) (by simp only;omega)
      .simp only [wS,simprocAttr,hcs];try exact rfl
      .simp only [wS,simprocAttr,hcs];try exact rfl
  refine aF
  refine aJ (α:={j:Nat // j<=8/\∀ i,i<j->M / 256 ^ i≠0}) (fun j=>[(0,.int .i64 n),(3,.int .i64 ((M / 256 ^ j.1:Nat):Int)),(4,rv 0 (j.1 - 1) 1 (cB (dg M j.1)))]) (fun j=>[eX (j.1 - 1) (cB (dg M j.1))]) (fun j=>8 - j.1) ⟨0,by decide,fun i h=>absurd h (bm i)⟩ (cA [] (kp [0]) bX (fun r hr=>absurd hr (bm r)) ?_ ?_ ?_) ?_
  .simp only [wS,simprocAttr,dL,iD,and_true,true_or,Nat.pow_zero,Nat.div_one,dg,List.range_zero,bu,cB,eI];try exact .toRsv
  .simp only [bg,bz,ab,ae,aI,true_and];exact bU rfl
  .simp only [wS,simprocAttr,dg,List.range_zero,bu,cB,eG]
   simp only [hY,and_true]
   try exact kr rfl rfl (by simp)
  .rintro ⟨j,hj,hall⟩ K1 hK1
   try simp only at hj hall
   have hjl:(dg M j).length=j:=VH M j
   have hxle:M / 256 ^ j<=M:=Nat.div_le_self _ _
   have hnext:M / 256 ^ j / 256=M / 256 ^ (j+1):=by rw [Nat.div_div_eq_div_mul,Nat.pow_succ]
   by_cases hz:M / 256 ^ j=0
   .have c0:decide (((M / 256 ^ j:Nat):Int) > 0)=false:=by rw [hz];rfl
    refine aR c0
    have hKn:=JC hall hz 8 hj
    refine key2 j _ hKn hj (cA [0] (kp []) (l:=[(0,.int .i64 n),(4,.sl false (cB (dg M j)))]) (h:=[]) bX (fun r hr=>absurd hr (bm r)) ?_ ?_ ?_)
    .simp only [wS,simprocAttr,dL,iD,and_true,true_or];exact .inr (eA (v:=j - 1) rfl (by simp) (mW _) (fE _))
    .simp only [bg,bz,ab,ac,aI];exact aB (fE _)
    .refine aA
     simp only [hY,and_true]
     try exact rfl
   .have c0:decide (((M / 256 ^ j:Nat):Int) > 0)=true:=by
     rw [decide_eq_true_eq]
     exact Int.natCast_pos.2 (Nat.pos_of_ne_zero hz)
    have hj8:j<8:=by
     by_cases h:j=8
     .subst h;exact absurd (Nat.div_eq_of_lt hMb) hz
     .omega
    have e1:((M / 256 ^ j:Nat):Int).tmod 256=((M / 256 ^ j % 256:Nat):Int):=rfl
    have e2:IntKind.u8.wrap ((M / 256 ^ j % 256:Nat):Int)=((M / 256 ^ j % 256:Nat):Int):=by rw [nB,Nat.mod_mod]
    have e3:IntKind.i64.wrap (((M / 256 ^ j:Nat):Int).tdiv 256)=((M / 256 ^ (j+1):Nat):Int):=by
     have:((M / 256 ^ j:Nat):Int).tdiv 256=((M / 256 ^ j / 256:Nat):Int):=rfl
     rw [this,hnext]
     have hle:M / 256 ^ (j+1)<=M:=Nat.div_le_self _ _
     generalize M / 256 ^ (j+1)=z at hle
     exact bC (by omega) (by omega)
    have hds:=YW M j
    have hcs:cB (dg M (j+1))=cB (dg M j)++[[.int .u8 ((M / 256 ^ j % 256:Nat):Int)]]:=by rw [hds,n0];rfl
    have hcl:=eK (dg M j)
    have hvv:(j+1 - 1)=if cB (dg M j)=[] then 0 else j - 1+1:=by
     by_cases h:cB (dg M j)=[]
     .rw [if_pos h]
      have:=congrArg List.length h
      rw [hcl,hjl] at this
      simp at this;omega
     .rw [if_neg h]
      have:j≠0:=fun e=>h (by subst e;rfl)
      omega
    have hall':∀ i,i<j+1->M / 256 ^ i≠0:=fun i hi=>by
     by_cases h:i=j
     .subst h;exact hz
     .exact hall i (by omega)
    generalize ((M / 256 ^ j:Nat):Int)=mj at c0 e1 e3 ⊢
    repeat' (first|(refine cC ?_;simp only [wS,simprocAttr,c0,e1,e2,e3])|refine aM|refine cL (v':=j+1 - 1) (es:=[[.int .u8 ((M / 256 ^ j % 256:Nat):Int)]]) (by':=1) (by kernel_rfl) aZ hvv (mW _) (by simp [cW]) (by simp) (by rw [hcl,hjl];simp only [am];omega) (gR ?_))
    refine hK1.go ⟨j+1,hj8,hall'⟩ (Weak.ref ⟨?_,.inl ?_⟩) (by simp only;omega)
    .simp only [wS,simprocAttr,hcs];try exact rfl
    .simp only [wS,simprocAttr,hcs];try exact rfl
 clear hKb
 by_cases hlt:n<0
 .have c0:decide (n<0)=true:=by simpa using hlt
  have hm:IntKind.i64.wrap (-1 - n)=(M:Int):=by rw [hM,BD,if_pos hlt,bC (by have:=hn.1;omega) (by have:=hn.1;omega)];omega
  refine aR (bF c0 hm)
  refine key _ (Weak.ref ⟨?_,.inl ?_⟩)
  .exact aZ
  .exact aZ
 .have c0:decide (n<0)=false:=by simpa using hlt
  have hm:n=(M:Int):=by rw [hM,BD,if_neg hlt];omega
  refine aR c0
  refine key _ (Weak.ref ⟨?_,.inl ?_⟩)
  .rw [<- hm]
   exact aZ
  .exact aZ
set_option maxHeartbeats 8000000 in
theorem QJ (b:Bool) (l:List Int) (hl:∀ x∈l,bR x) (h1:1<=l.length) (h2:l.length<=1000000):NN Tryz.prog G0 88 [.sl b (l.map fun n=>[AV.int .i64 n])] (jY l).length 1 false (cB (jY l)).flatten:=by
 have hSm:bR (l.length:Int):=⟨by omega,by omega⟩
 have kl:=IQ (l.length:Int) hSm
 have hil:=mR (l.length:Int)
 have hLt:cQ aE (l.map fun n=>[AV.int .i64 n])=true:=bD l
 have hLl:(l.map fun n=>[AV.int .i64 n]).length=l.length:=bp _
 have hLg:∀ (i:Nat) (x:Int),l[i]? =some x->(l.map fun n=>[AV.int .i64 n])[i]? =some [.int .i64 x]:=fun i x h=>by rw [bh,h];rfl
 have hA0:cB (c9 (l.length:Int))≠[]:=jP (tG _)
 have hB:jY l=c9 (l.length:Int)++l.flatMap c9:=rfl
 rw [hB]
 generalize hA:c9 (l.length:Int)=A at kl hil hA0
 generalize (l.map fun n=>[AV.int .i64 n])=EL at hLt hLl hLg ⊢
 refine iK bX Tryz.func88 rfl (by kernel_rfl) (by simp [Tryz.ntmps88]) (by simp only [aP,aI,hLt,ai]) (dK (fE _)) ?_
 simp only [Tryz.ntmps88,aK,Nat.reduceAdd]
 rw [<- hLl] at kl
 refine aF
 refine cM (kl _ 0 (by rfl)) ?_
 refine aA
 refine aF
 refine aJ (α:={p:Nat × Nat // p.1<=l.length}) (fun p=>[(3,rv 0 p.1.2 1 (cB (A++(l.take p.1.1).flatMap c9))),(0,.sl b EL),(4,.int .i64 (p.1.1:Nat))]) (fun p=>[eX p.1.2 (cB (A++(l.take p.1.1).flatMap c9))]) (fun p=>l.length - p.1.1) ⟨(0,0),az _⟩ (Weak.ref ⟨?_,.inl ?_⟩) ?_
 .simp only [wS,simprocAttr,ci,gv,br,qZ hA0,eK];try exact rfl
 .simp only [wS,simprocAttr,ci,gv,br,mA hA0];try exact rfl
 .rintro ⟨⟨i,v⟩,hi⟩ K hK
  try simp only at hi
  have hne:A++(l.take i).flatMap c9≠[]:=fun e=>hA0 (by rw [(iv.1 e).1];rfl)
  have hfl:=pM (l.take i)
  rw [cr] at hfl
  have hal:(A++(l.take i).flatMap c9).length<=9000009:=by rw [an];omega
  by_cases hlt:i<l.length
  .have c1:decide (((i:Nat):Int)<((EL.length:Nat):Int))=true:=by simp;omega
   have e3:=aO (k:=i) hlt (by omega)
   obtain ⟨x,hx⟩:∃ x,l[i]? =some x:=⟨_,ah hlt⟩
   have gx:=hLg i x hx
   have hB':i<EL.length:=by omega
   have hxs:=hl x (aj hx)
   have htk:A++(l.take (i+1)).flatMap c9=(A++(l.take i).flatMap c9)++c9 x:=by rw [tJ hx,bj]
   have hxl:=mR x
   have hrt:cQ aE (cB ((A++(l.take i).flatMap c9)++c9 x))=true:=fE _
   generalize hP:A++(l.take i).flatMap c9=P at hne hal htk hrt ⊢
   have hcP:=jP hne
   have hcx:=jP (tG x)
   have kx:=IQ x hxs
   repeat' (first|(refine cC ?_;simp only [wS,simprocAttr,gx,hB',c1,e3])|refine aM|refine cM (kx _ 1 (by rfl)) (gR ?_)|(refine cL (v':=v+1) (es:=cB (c9 x)) (by':=1) (by kernel_rfl) aZ (by rw [if_neg hcP]) (mW P) (by rw [<- eK (c9 x)];exact IH aZ (by rw [GT,eK];omega)) hcx (by rw [eK,eK];omega) ?_;simp only [wS,simprocAttr,<- n0,gx,hB',c1,e3]))
   refine hK.go ⟨(i+1,v+1),hlt⟩ aX (by simp only;omega)
   .simp only [wS,simprocAttr,htk];try exact rfl
   .simp only [wS,simprocAttr,htk];try exact rfl
   .intro z hz
    replace hz:=aC hz
    rcases hz with rfl|rfl|rfl<;>first|rfl|(simp only [aI];first|exact aB hLt|exact bU rfl)
   .refine aS;try exact bA (aB (by rw [htk];exact hrt))
  .have c1:decide (((i:Nat):Int)<((EL.length:Nat):Int))=false:=by simp;omega
   obtain rfl:i=l.length:=by omega
   rw [bi] at hne ⊢
   have hcn:=jP hne
   refine aR c1
   refine aD rfl ?_
   refine aA
   refine ⟨0,v,?_,?_⟩
   .rw [qZ hcn,eK]
   .rw [mA hcn];rfl
set_option maxHeartbeats 8000000 in
theorem QK:∀ (N:Nat) (t:T),T.size t<=N->N<=500000000000->T.rg t->Pure Tryz.prog G0 56 [.agg (T.enc t)] (.sl false (cB (T.bytes t))):=by
 intro N
 induction N with
 |zero=>intro t h;have:=T.size_pos t;omega
 |succ N ih=>
  intro t ht hN hrg
  have htr:=T.enc_tree t
  obtain ⟨k,n,m,es⟩:=t
  obtain ⟨hk,hn,hm,hes⟩:=hrg
  have hsz:=len_sizes es
  rw [T.size] at ht
  have ih2:∀ e∈es,Pure Tryz.prog G0 56 [.agg (T.enc e)] (.sl false (cB (T.bytes e))):=fun e he=>ih e (by have:=T.size_mem he;omega) (by omega) (T.rgs_mem hes e he)
  have hSm:bR (es.length:Int):=⟨by omega,by omega⟩
  have ki:=QJ true [k,n,m,(es.length:Int)] (by
   intro x hx
   replace hx:=aC hx
   rcases hx with rfl|rfl|rfl|rfl<;>assumption) (by simp) (by simp)
  have hi4:=qI k n m (es.length:Int)
  obtain ⟨res,hres⟩:∃ r,r=T.bytes (.mk k n m es):=⟨_,rfl⟩
  have hrl:=T.bytes_len (.mk k n m es)
  rw [<- hres] at hrl ⊢
  rw [T.bytes] at hres
  simp only [ay,bu] at ki
  generalize jY [k,n,m,(es.length:Int)]=A at ki hi4 hres
  have hA0:cB A≠[]:=jP hi4.2
  have hEl:=T.encs_len es
  have hEt:=T.encs_tree es
  have hEg:∀ (i:Nat) (e:T),es[i]? =some e->(T.encs es)[i]? =some (T.enc e):=fun i e h=>by rw [T.encs_map,bh,h];rfl
  have hst:∀ i,T.sizes (es.take i)<=T.sizes es:=fun i=>T.sizes_take_le es i
  rw [T.enc] at htr ⊢
  rw [<- hEl] at ki hsz hSm
  generalize T.encs es=EE at ki hEl hEt hEg hsz htr hSm ⊢
  refine aL bX Tryz.func56 rfl (by kernel_rfl) (by simp [Tryz.ntmps56]) (by simpa only [aP,aI,ab,ac] using htr) (by simp only [aI];exact fE _) ?_
  simp only [Tryz.ntmps56,aK,Nat.reduceAdd]
  refine aF
  refine cM (ki _ 1 (by rfl)) ?_
  refine aA
  refine aF
  refine aJ (α:={p:Nat × Nat // p.1<=es.length}) (fun p=>[(1,.ptr 0 0 0),(3,rv 1 p.1.2 1 (cB (A++T.bytess (es.take p.1.1)))),(4,.int .i64 (p.1.1:Nat))]) (fun p=>[.cells 0 [.int .i64 k,.int .i64 n,.int .i64 m,.sl false EE],eX p.1.2 (cB (A++T.bytess (es.take p.1.1)))]) (fun p=>es.length - p.1.1) ⟨(0,0),az _⟩ (Weak.ref ⟨?_,.inl ?_⟩) ?_
  .simp only [wS,simprocAttr,ci,T.bytess,br,qZ hA0,eK];try exact rfl
  .simp only [wS,simprocAttr,ci,T.bytess,br,mA hA0];try exact rfl
  .rintro ⟨⟨i,v⟩,hi⟩ K hK
   try simp only at hi
   have hne:A++T.bytess (es.take i)≠[]:=fun e=>hi4.2 (iv.1 e).1
   have hbl:=T.bytess_len (es.take i)
   have hsi:=hst i
   have hal:(A++T.bytess (es.take i)).length<=45*500000000001:=by rw [an];omega
   by_cases hlt:i<es.length
   .have c1:decide (((i:Nat):Int)<((EE.length:Nat):Int))=true:=by simp;omega
    have e3:=aO (k:=i) hlt (by omega)
    obtain ⟨e,he⟩:∃ e,es[i]? =some e:=⟨_,ah hlt⟩
    have ge:=hEg i e he
    have hB':i<EE.length:=by omega
    have ke:=ih2 e (aj he)
    have htk:A++T.bytess (es.take (i+1))=(A++T.bytess (es.take i))++T.bytes e:=by rw [T.bytess_take he,bj]
    have hxl:=T.bytes_len e
    have hse:=T.size_mem (aj he)
    have hxn:=T.bytes_ne e
    have het:=T.enc_tree e
    generalize hP:A++T.bytess (es.take i)=P at hne hal htk ⊢
    have hrt:cQ aE (cB (P++T.bytes e))=true:=fE _
    have hcP:=jP hne
    obtain ⟨ea,eb,ec,ed,hee⟩:=aN e
    rw [hee] at ge ke het
    generalize hx:T.bytes e=x at ke htk hxl hrt hxn
    have hcx:=jP hxn
    repeat' (first|(refine cC ?_;simp only [wS,simprocAttr,ge,hB',c1,e3])|refine aM|refine iP ?_|(refine cL (v':=v+1) (es:=cB x) (by':=1) (by kernel_rfl) aZ (by rw [if_neg hcP]) (mW P) (nH (N9 _)) hcx (by rw [eK,eK];omega) ?_;simp only [wS,simprocAttr,<- n0,ge,hB',c1,e3]))
    refine hK.go ⟨(i+1,v+1),hlt⟩ aX (by simp only;omega)
    .simp only [wS,simprocAttr,htk];try exact rfl
    .simp only [wS,simprocAttr,htk];try exact rfl
    .intro z hz
     replace hz:=aC hz
     rcases hz with rfl|rfl|rfl<;>first|rfl|(simp only [aI];first|exact aB hEt|exact bU rfl)
    .refine aS;try exact ⟨by simp only [aG,aP,aI,ac,ab];exact aB hEt,bA (aB (by rw [htk];exact hrt))⟩
   .have c1:decide (((i:Nat):Int)<((EE.length:Nat):Int))=false:=by simp;omega
    obtain rfl:i=es.length:=by omega
    rw [bi,<- hres] at hne ⊢
    have hrs:=mW res
    have hrt:=fE res
    refine cP c1
    refine Cont.go (by assumption) ?_
    refine cP c1
    refine Cont.go (by assumption) (cK (cA [1] (kp [0]) (l:=[(3,.sl false (cB res))]) (h:=[.cells 0 [.int .i64 k,.int .i64 n,.int .i64 m,.sl false EE]]) bX (fun r hr=>absurd hr (bm r)) ?_ ?_ ?_) ?_)
    .simp only [wS,simprocAttr,dL,iD,and_true,true_or];exact .inr (eA (v:=v) rfl (by simp) hrs hrt)
    .simp only [bg,bz,ab,aI];exact aB hrt
    .refine aA
     simp only [hY,and_true]
     exact ⟨kr rfl (by simp only [aG,aP,aI,ac,ab];exact aB hEt) (by simp),rfl⟩
    refine aF
    refine aD rfl ?_
    refine aA
theorem yZ (m:Nat):∀ j,m<256 ^ j->m<256 ^ (y0 m j)
 |0,h=>h
 |j+1,h=>by
  rw [y0]
  split
  .rename_i h0
   refine yZ m j ?_
   have hp:0<256 ^ j:=Nat.pow_pos (by decide)
   by_cases hm:m<256 ^ j
   .exact hm
   .have:0<m / 256 ^ j:=Nat.div_pos (by omega) hp
    omega
  .exact h
theorem aA4 {neg:Bool} {x y:Int} (h:fl neg x=fl neg y):x=y:=by
 cases neg<;>simp only [fl] at h<;>simpa using h
theorem VW (neg:Bool) {m m':Nat}:∀ {k:Nat},bs neg m k=bs neg m' k->m % 256 ^ k=m' % 256 ^ k
 |0,_=>by simp [Nat.mod_one]
 |k+1,h=>by
  simp only [bs,de] at h
  have h1:=aA4 h.1
  have h2:=VW neg h.2
  simp only [bt] at h1
  have h3:m / 256 ^ k % 256=m' / 256 ^ k % 256:=by omega
  rw [Nat.pow_succ,Nat.mod_mul,Nat.mod_mul,h2,h3]
theorem UB {n:Int} (h:bR n):BD n<256 ^ 8:=by
 unfold bR at h
 unfold BD
 split<;>omega
theorem U6 (n:Int):nb n<=8:=FV _ 8
theorem pH {a b:Int} (ha:bR a) (hb:bR b) {r r':List Int} (h:c9 a++r=c9 b++r'):a=b/\r=r':=by
 simp only [c9,ar,de] at h
 obtain ⟨h1,h2⟩:=h
 have na:=U6 a
 have nb':=U6 b
 have hneg:decide (a<0)=decide (b<0)/\nb a=nb b:=by
  by_cases x:a<0<;>by_cases y:b<0<;>simp only [x,y,decide_true,decide_false,PH,if_true,if_false,aw] at h1 ⊢<;>first|(refine ⟨trivial,?_⟩;omega)|omega
 obtain ⟨e1,e2⟩:=hneg
 have hl:(bs (decide (a<0)) (BD a) (nb a)).length=(bs (decide (b<0)) (BD b) (nb b)).length:=by rw [GV,GV,e2]
 obtain ⟨h3,h4⟩:=List.append_inj h2 hl
 refine ⟨?_,h4⟩
 rw [<- e1,<- e2] at h3
 have h5:=VW _ h3
 have ga:=yZ (BD a) 8 (UB ha)
 have gb:=yZ (BD b) 8 (UB hb)
 change BD a<256 ^ (nb a) at ga
 change BD b<256 ^ (nb b) at gb
 rw [<- e2] at gb
 rw [jb ga,jb gb] at h5
 have h6:(a<0)↔(b<0):=by simpa using e1
 unfold BD at h5
 split at h5<;>split at h5<;>omega
theorem QZ {a b c d a' b' c' d':Int} (h1:bR a) (h2:bR b) (h3:bR c) (h4:bR d) (h1':bR a') (h2':bR b') (h3':bR c') (h4':bR d') {r r':List Int} (h:jY [a,b,c,d]++r=jY [a',b',c',d']++r'):a=a'/\b=b'/\c=c'/\d=d'/\r=r':=by
 simp only [jY,af,ak,ig,gv,br,bj] at h
 have s4:bR ((0+1+1+1+1:Nat):Int):=by unfold bR;omega
 obtain ⟨_,h⟩:=pH s4 s4 h
 obtain ⟨e1,h⟩:=pH h1 h1' h
 obtain ⟨e2,h⟩:=pH h2 h2' h
 obtain ⟨e3,h⟩:=pH h3 h3' h
 obtain ⟨e4,h⟩:=pH h4 h4' h
 exact ⟨e1,e2,e3,e4,h⟩
mutual
theorem T.bytes_inj:∀ (t u:T),T.rg t->T.rg u->T.size t<=500000000000->T.size u<=500000000000->∀ r r':List Int,T.bytes t++r=T.bytes u++r'->t=u/\r=r'
 | .mk k n m es,.mk k' n' m' es',h,h',hs,hs',r,r',e=>by
  simp only [T.rg] at h h'
  simp only [T.size] at hs hs'
  have l1:=len_sizes es
  have l2:=len_sizes es'
  simp only [T.bytes,bj] at e
  obtain ⟨e1,e2,e3,e4,e5⟩:=QZ h.1 h.2.1 h.2.2.1 (by unfold bR;omega) h'.1 h'.2.1 h'.2.2.1 (by unfold bR;omega) e
  obtain ⟨e6,e7⟩:=T.bytess_inj es es' h.2.2.2 h'.2.2.2 (by omega) (by omega) (by omega) r r' e5
  exact ⟨by rw [e1,e2,e3,e6],e7⟩
theorem T.bytess_inj:∀ (t u:List T),T.rgs t->T.rgs u->T.sizes t<=500000000000->T.sizes u<=500000000000->t.length=u.length->∀ r r':List Int,T.bytess t++r=T.bytess u++r'->t=u/\r=r'
 | [],[],_,_,_,_,_,r,r',e=>⟨rfl,e⟩
 | [],_::_,_,_,_,_,hl,_,_,_=>by cases hl
 |_::_,[],_,_,_,_,hl,_,_,_=>by cases hl
 |x::xs,y::ys,h,h',hs,hs',hl,r,r',e=>by
  simp only [T.rgs] at h h'
  simp only [T.sizes] at hs hs'
  simp only [T.bytess,bj] at e
  obtain ⟨e1,e2⟩:=T.bytes_inj x y h.1 h'.1 (by omega) (by omega) _ _ e
  obtain ⟨e3,e4⟩:=T.bytess_inj xs ys h.2 h'.2 (by omega) (by omega) (by simpa using hl) r r' e2
  exact ⟨by rw [e1,e3],e4⟩
end
theorem zX (l:List Int):∀ b:ByteArray,(l.foldl (fun r n=>r.push (UInt8.ofNat n.toNat)) b).data.toList=b.data.toList++l.map fun n=>UInt8.ofNat n.toNat:=by
 induction l with
 |nil=>intro b;simp
 |cons x l ih=>
  intro b
  rw [gr,ih]
  simp [ByteArray.push]
def WP (l:List Int):Prop:=∀ x∈l,0<=x/\x<256
theorem NA {a b:List Int} (ha:WP a) (hb:WP b) (h:pQ a=pQ b):a=b:=by
 have h1:=zX a ByteArray.empty
 have h2:=zX b ByteArray.empty
 have h3:(a.map fun n:Int=>UInt8.ofNat n.toNat)=b.map fun n=>UInt8.ofNat n.toNat:=by
  unfold pQ at h
  rw [h,h2] at h1
  simpa using h1.symm
 have hl:a.length=b.length:=by have:=congrArg List.length h3;simpa using this
 refine List.ext_getElem hl fun i g1 g2=>?_
 have h4:=congrArg (fun l=>l[i]?) h3
 simp only [bh,ah g1,ah g2,dv,ao] at h4
 have h5:=congrArg UInt8.toNat h4
 obtain ⟨x1,x2⟩:=ha _ (List.getElem_mem g1)
 obtain ⟨y1,y2⟩:=hb _ (List.getElem_mem g2)
 simp only [UInt8.toNat_ofNat'] at h5
 omega
theorem GB {a b:List Int} (ha:WP a) (hb:WP b):WP (a++b):=fun x hx=>by
 rcases bo.1 hx with h|h
 .exact ha x h
 .exact hb x h
theorem UP (neg:Bool) (m:Nat):∀ i,WP (bs neg m i)
 |0=>fun x h=>by cases h
 |i+1=>fun x h=>by
  rw [bs] at h
  rcases bn.1 h with rfl|h
  .have:bt m i<256:=Nat.mod_lt _ (by decide)
   cases neg<;>simp only [fl]<;>simp<;>omega
  .exact UP neg m i x h
theorem PA (n:Int):WP (c9 n):=fun x h=>by
 rw [c9] at h
 rcases bn.1 h with rfl|h
 .have:=U6 n
  unfold PH
  split<;>omega
 .exact UP _ _ _ x h
theorem UO (l:List Int):WP (jY l):=GB (PA _) fun x h=>by
 obtain ⟨y,_,h⟩:=List.mem_flatMap.1 h
 exact PA y x h
mutual
theorem T.isB_bytes:∀ t:T,WP (T.bytes t)
 | .mk k n m es=>by rw [T.bytes];exact GB (UO _) (T.isB_bytess es)
theorem T.isB_bytess:∀ es:List T,WP (T.bytess es)
 | []=>fun x h=>by rw [T.bytess] at h;cases h
 |e::es=>by rw [T.bytess];exact GB (T.isB_bytes e) (T.isB_bytess es)
end
theorem T.key_inj {t u:T} (ht:T.rg t) (hu:T.rg u) (hs:T.size t<=500000000000) (hs':T.size u<=500000000000) (h:T.key t=T.key u):t=u:=by
 have:=NA (T.isB_bytes t) (T.isB_bytes u) h
 exact (T.bytes_inj t u ht hu hs hs' [] [] (by rw [this])).1
end Go.Proofs.YtggflhbigolakaaGreatDoor
