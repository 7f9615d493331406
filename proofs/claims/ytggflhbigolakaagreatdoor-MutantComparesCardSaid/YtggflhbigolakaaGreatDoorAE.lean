import Derived.Test.YtggflhbigolakaaGreatDoorAC
set_option linter.unusedVariables false
set_option linter.unusedSimpArgs false
namespace Go.AM
def cP (E:En) (lfp:List Nat):En:=⟨E.w,fun b=>E.S b∨∃ r∈lfp,(E.rows r).live=true∧b=E.ρ r,E.ρ,fun r=>if r∈lfp then .dead else E.rows r⟩
theorem oJ {E:En} {lfp:List Nat} {r:Nat} (h:((cP E lfp).rows r).live=true):r ∉ lfp∧(E.rows r).live=true:=by
 simp only [cP] at h
 split at h
 ·cases h
 ·rename_i hn;exact ⟨hn,h⟩
theorem mM (E:En) (lfp:List Nat):dX (fun _=>true) E (cP E lfp):=⟨rfl,fun _ h=>.inl h,fun r _=>by
 by_cases hm:r∈lfp
 ·exact .inr (.inl (by simp [cP,hm]))
 ·exact .inl (by simp [cP,hm]),fun r _ _=>rfl⟩
theorem yO {G:Nat→Option (List AV)} {E:En} {lfp:List Nat} (i:Inv G E):Inv G (cP E lfp):=by
 have ag:=mM E lfp
 refine ⟨fun r=>?_,fun r r' h h' hne=>i.inj r r' (oJ h).2 (oJ h').2 hne,fun b hb=>?_,fun g cs hg=>?_⟩
 ·by_cases hm:r∈lfp
  ·unfold RowOK
   have:(cP E lfp).rows r=.dead:=by simp [cP,hm]
   rw [this]
   trivial
  ·have h0:=i.row r
   have hr:(cP E lfp).rows r=E.rows r:=by simp [cP,hm]
   unfold RowOK at h0 ⊢
   rw [hr]
   have hS:(E.rows r).live=true→¬ E.S (E.ρ r)→¬ (cP E lfp).S (E.ρ r):=fun hl h1 h2=>by
    rcases h2 with h2|⟨r',h3,h4,h5⟩
    ·exact h1 h2
    ·by_cases e:r=r'
     ·subst e;exact hm h3
     ·exact i.inj r r' hl h4 e h5
   cases hrr:E.rows r with
   |none=>trivial
   |dead=>trivial
   |cells ver cs=>
    rw [hrr] at h0
    obtain ⟨cur,e,vs,a1,a2,a3,a4⟩:=h0
    exact ⟨cur,e,vs,a1,hS (by rw [hrr];rfl) a2,a3.agree ag (b5 cs),a4⟩
   |map ks vs=>
    rw [hrr] at h0
    obtain ⟨es,clock,a1,a2,a3,a4,a5⟩:=h0
    exact ⟨es,clock,a1,hS (by rw [hrr];rfl) a2,a3,a4.agree ag (b5 ks),a5.agree ag (b5 vs)⟩
   |iter ks vs l j=>
    rw [hrr] at h0
    obtain ⟨mb,es,clock,since,seen,a1,a2,a3,a4,a5,a6,a7,a8,a9⟩:=h0
    exact ⟨mb,es,clock,since,seen,a1,hS (by rw [hrr];rfl) a2,.inl a3,a4,a5,a6,a7.agree ag (b5 ks),a8.agree ag (b5 vs),a9⟩
   |loop st pend fr ps asg body=>
    rw [hrr] at h0
    obtain ⟨fn,tm,D,a1,a2,a3⟩:=h0
    exact ⟨fn,tm,D,a1,hS (by rw [hrr];rfl) a2,a3.agree ag (b5 fr)⟩
 ·rcases hb with h|⟨r,_,h2,rfl⟩
  ·exact i.sb b h
  ·exact (i.live h2).1
 ·obtain ⟨vs,a1,a2,a3⟩:=i.glob g cs hg
  exact ⟨vs,.inl a1,a2.agree ag (b5 cs),a3⟩
theorem yP {E:En} {lfp:List Nat}:Ext E (cP E lfp):=by
 refine ⟨rfl,rfl,rfl,Nat.le_refl _,fun _ h=>.inl h,fun b _ hl=>⟨rfl,fun h=>?_⟩,fun r h=>?_,fun r ver cs h=>?_,fun r h=>?_,fun r h=>.inl ⟨(oJ h).2,rfl⟩⟩
 ·rcases h with h|⟨r,_,h2,rfl⟩
  ·exact h
  ·exact absurd rfl (hl r h2)
 ·simp only [cP];split
  ·rfl
  ·exact h
 ·by_cases hm:r∈lfp
  ·exact .inl (by simp [cP,hm])
  ·exact .inr ⟨ver,cs,by simp [cP,hm,h],Nat.le_refl _,fun _=>⟨rfl,fun cur e fz hc=>⟨cur,e,hc,rfl⟩⟩⟩
 ·by_cases hm:r∈lfp
  ·exact .inl (by simp [cP,hm])
  ·exact .inr ⟨by simp [cP,hm,h],rfl⟩
theorem yN {G:Nat→Option (List AV)} {E:En} {rows:Nat→ARow} {lfp:List Nat} (i:Inv G E) (hE:∀ r∈lfp,E.rows r=rows r):∀ {xs ys:List AV} {us:List Value},j8 rows lfp xs ys→RelL E xs us→RelL (cP E lfp) ys us
 | [],[],us,_,hx=>by simpa only [RelL] using hx
 | [],_::_,_,h,_=>h.elim
 |_::_,[],_,h,_=>h.elim
 |x::xs,y::ys,us,h,hx=>by
  have agl:dX aC (jH E lfp) (cP E lfp):=⟨rfl,fun _ h=>h,fun r h=>(by cases h),fun r h=>(by cases h)⟩
  simp only [RelL] at hx ⊢
  obtain ⟨v,rest,h1,h2,h3⟩:=hx
  refine ⟨v,rest,h1,?_,yN i hE h.2 h3⟩
  rcases h.1 with rfl|h
  ·exact h2.agree (mM E lfp) (iN y)
  ·exact (Lend.rel i hE h h2).agree agl h.tree
theorem GG:∀ (a b:List (Nat × ARow)) (rows:Nat→ARow),upd rows (a++b)=upd (upd rows a) b
 | [],_,_=>rfl
 |p::a,b,rows=>GG a b _
theorem vU {P:Program} {G:Nat→Option (List AV)} {f:FuncId} {args targs:List AV} {rows:Nat→ARow} {fp:List Nat} {eff:Eff} (lfp:List Nat) (h:dH P G f targs rows fp eff) (hl:j8 rows lfp args targs) (hd:∀ r∈fp,r ∉ lfp):
  dH P G f args rows (fp++lfp) ⟨eff.val,eff.wr++lfp.map fun r=>(r,.dead)⟩:=by
 obtain ⟨hgo,hwr,hc⟩:=h
 refine ⟨hgo,fun p hp=>?_,fun E us i hE hus=>?_⟩
 ·rcases List.mem_append.1 hp with hp|hp
  ·exact List.mem_append_left _ (hwr p hp)
  ·obtain ⟨r,hr,rfl⟩:=List.mem_map.1 hp
   exact List.mem_append_right _ hr
 ·have hEl:∀ r∈lfp,E.rows r=rows r:=fun r hr=>hE r (List.mem_append_right _ hr)
  refine (hc (cP E lfp) us (yO i) (fun r hr=>?_) (yN i hEl hl hus)).mono fun e w' hr=>?_
  ·simp only [cP,if_neg (hd r hr)]
   exact hE r (List.mem_append_left _ hr)
  ·obtain ⟨v,E1,rfl,rfl,h3,h4,h5,h6⟩:=hr
   refine ⟨v,E1,rfl,rfl,h3,yP.trans h4,h5,?_⟩
   rw [h6,GG]
   funext r
   rw [m6 (fun _=>.dead)]
   by_cases hm:r∈lfp
   ·rw [if_pos hm,jM _ _ _ fun p hp e=>hd p.1 (hwr p hp) (e ▸ hm)]
    simp [cP,hm]
   ·rw [if_neg hm]
    exact dU _ _ _ _ (by simp [cP,hm])
theorem NU {P:Program} {G:Nat→Option (List AV)} {f:FuncId} {args targs:List AV} {rows:Nat→ARow} {fp:List Nat} {R:Eff→Prop} (lfp:List Nat) (h:EC P G f targs rows fp R) (hl:j8 rows lfp args targs) (hd:∀ r∈fp,r ∉ lfp):
  EC P G f args rows (fp++lfp) (fun eff=>∃ e0,R e0∧eff=⟨e0.val,e0.wr++lfp.map fun r=>(r,.dead)⟩):=by
 obtain ⟨eff,h1,h2⟩:=h
 exact ⟨_,⟨eff,h1,rfl⟩,vU lfp h2 hl hd⟩
end Go.AM
set_option linter.unusedVariables false
set_option linter.unusedSimpArgs false
namespace Go.AM
section
variable {P:Program} {G:Nat→Option (List AV)} {n:Nat} {ops:Array Oper} {Q':Exit→Act→World→Prop}
theorem LY [Rnd] {s:AS} {E0:En} {e:Nat→Eff} {F:Nat→List Nat} {D:Nat→Option Tmp} (hD:∀ i o,ops[i]? =some o→D i=o.dst) (hDn:∀ i,ops[i]? =none→D i=none)
  (hst:∀ i o,ops[i]? =some o→gM n o.dst∧m5 P G ops o (sAt D e s i) (e i) (F i))
  (hA:∀ (j:Nat) (o:Oper),ops[j]? =some o→∀ ed∈o.after,Region.binds .any ed=true→ed.on<j)
  (hB:∀ (i j:Nat) (oi oj:Oper),i<j→ops[i]? =some oi→ops[j]? =some oj→oi.apart ops oj=true∨eT ops i j)
  (sf:Nat→Prop) (j0:Nat) (hij0:∀ i,sf i→i<j0) (hj0:j0<ops.size) (hwr0:∀ i,sf i→(e i).wr=[])
  (hsoft:∀ i o,sf i→ops[i]? =some o→(∀ ev,eQ o.op ev=none∧iZ o.op ev=none)∧∀ nb,aop P o.op (evA G (sAt D e s i).get) (upd (sAt D e s i).row (e j0).wr) nb=some (e i))
  (hC:∀ (i j r:Nat),i<j→j<ops.size→¬ (sf i∧j=j0)→(dP e i r∧(r∈F j∨dP e j r))∨(dP e j r∧(r∈F i∨dP e i r))→eT ops i j)
  (hk:∀ s' E a,s'.get=(sAt D e s ops.size).get→s'.row=(sAt D e s ops.size).row→Sim G n s' E a→Ext E0 E→Q' .normal a E.w):
  ∀ (fuel:Nat) (listed:Array Bool) (s':AS) (E:En) (a:Act),pP ops.size (fun j=>listed.getD j false)≤fuel→listed.size=ops.size→F7 ops (fun j=>listed.getD j false)→
   (∀ t,s'.get t=gl D e s (fun j=>listed.getD j false) ops.size t)→(∀ r,s'.row r=rl e s (fun j=>listed.getD j false) ops.size r)→Sim G n s' E a→Ext E0 E→
   wpAnyIn wL 0 P .any ops Q' fuel listed a E.w:=by
 -- all are listed when none is ready
 have hfull : ∀ listed : Array Bool, listed.size = ops.size → Region.ready .any ops listed = [] → ∀ j, j < ops.size → listed.getD j false = true := by
  intro listed hsz hr j
  induction j using Nat.strongRecOn with
  |ind j ih=>
   intro hj
   cases hl:listed.getD j false with
   |true=>rfl
   |false=>
    exfalso
    have:j∈Region.ready .any ops listed:=by
     rw [mem_ready]
     refine ⟨?_,ops[j],Array.getElem?_eq_getElem hj,fun ed he hb=>ih ed.on (hA j _ (Array.getElem?_eq_getElem hj) ed he hb) ?_⟩
     ·have:j<listed.size:=by omega
      simp [this] at hl ⊢
      exact hl
     ·have:=hA j _ (Array.getElem?_eq_getElem hj) ed he hb
      omega
    rw [hr] at this
    cases this
 have hend:∀ (listed:Array Bool) (s':AS) (E:En) (a:Act),listed.size=ops.size→Region.ready .any ops listed=[]→(∀ t,s'.get t=gl D e s (fun j=>listed.getD j false) ops.size t)→
   (∀ r,s'.row r=rl e s (fun j=>listed.getD j false) ops.size r)→Sim G n s' E a→Ext E0 E→Q' .normal a E.w:=by
  intro listed s' E a hsz hr hg hrr i x
  have hall:=hfull listed hsz hr
  refine hk s' E a (funext fun t=>?_) (funext fun r=>?_) i x
  ·rw [hg,yM (Nat.le_refl _) (fun j hj _=>hall j hj) (fun j h1 h2=>by omega)]
  ·rw [hrr,tQ (Nat.le_refl _) (fun j hj _=>hall j hj) (fun j h1 h2=>by omega)]
 intro fuel
 induction fuel with
 |zero=>
  intro listed s' E a hf hsz hdc hg hrr i x
  have hr:Region.ready .any ops listed=[]:=by
   refine List.eq_nil_iff_forall_not_mem.2 fun j hj=>?_
   obtain ⟨h0,o,ho,_⟩:=mem_ready.1 hj
   have hlt:=(Array.getElem?_eq_some_iff.1 ho).1
   have hl:listed.getD j false=false:=by
    have:j<listed.size:=by omega
    simp [this] at h0 ⊢
    exact h0
   have:=kU (L:=fun j=>listed.getD j false) hlt hl
   omega
  exact ⟨hr,hend listed s' E a hsz hr hg hrr i x⟩
 |succ fuel ih=>
  intro listed s' E a hf hsz hdc hg hrr i x
  refine ⟨fun hr=>hend listed s' E a hsz hr hg hrr i x,fun k hk'=>?_⟩
  obtain ⟨h0,o,ho,hall⟩:=mem_ready.1 hk'
  have hlt:=(Array.getElem?_eq_some_iff.1 ho).1
  generalize hLd:(fun j=>listed.getD j false)=L at hf hdc hg hrr
  have hLk:L k=false:=by
   rw [← hLd]
   have:k<listed.size:=by omega
   simp [this] at h0 ⊢
   exact h0
  have hpre:∀ ed∈o.after,Region.binds .any ed=true→L ed.on=true:=fun ed he hb=>by rw [← hLd];exact hall ed he hb
  have hpl:F7 ops (eO L k):=by
   intro j o' ho' hj ed he hb
   unfold eO at hj ⊢
   split
   ·rfl
   ·split at hj
    ·rename_i e
     subst e
     rw [ho] at ho'
     injection ho' with ho'
     subst ho'
     exact hpre ed he hb
    ·exact hdc j o' ho' hj ed he hb
  have hbef:∀ i,eT ops i k→i≠k→L i=true:=fun i hb hne=>by
   have:=hb _ hpl (by simp [eO])
   simpa [eO,hne] using this
  have haft:∀ j,eT ops k j→L j=false:=fun j hb=>by
   cases hj:L j with
   |false=>rfl
   |true=>
    have:=hb _ hdc hj
    rw [hLk] at this
    cases this
  have hnew:(fun j=>(listed.setIfInBounds k true).getD j false)=eO L k:=by
   funext j
   rw [← hLd]
   unfold eO
   split
   ·rename_i e
    subst e
    have:j<listed.size:=by omega
    simp [this]
   ·rename_i hne
    exact getD_set_ne false (Ne.symm hne)
  -- slots
  have hopj:∀ j t,D j=some t→∃ oj,ops[j]? =some oj∧oj.dst=some t:=fun j t hd=>by
   cases hoj:ops[j]? with
   |none=>rw [hDn j hoj] at hd;cases hd
   |some oj=>exact ⟨oj,rfl,by rw [← hD j oj hoj];exact hd⟩
  have hsee:∀ t∈o.looksAt ops,s'.get t=(sAt D e s k).get t:=by
   intro t ht
   rw [hg]
   refine yM (Nat.le_of_lt hlt) (fun j hj hd=>?_) (fun j h1 h2 hd=>?_)
   ·obtain ⟨oj,hoj,hdj⟩:=hopj j t hd
    rcases hB j k oj o hj hoj ho with h|h
    ·exact absurd ht ((Oper.apart_spec h).1 t hdj)
    ·exact hbef j h (by omega)
   ·by_cases hjk:j=k
    ·subst hjk;exact hLk
    ·obtain ⟨oj,hoj,hdj⟩:=hopj j t hd
     rcases hB k j o oj (by omega) ho hoj with h|h
     ·exact absurd ht ((Oper.apart_spec h).2.2 t hdj)
     ·exact haft j h
  have hno:∀ i r,sf i→¬ dP e i r:=fun i r hi h=>by
   unfold dP at h
   rw [hwr0 i hi] at h
   cases h
  have hrow:¬ (sf k∧L j0=true)→∀ r,r∈F k∨r∈(e k).wr.map (·.1)→s'.row r=(sAt D e s k).row r:=by
   intro hkn r hr
   rw [hrr]
   refine tQ (Nat.le_of_lt hlt) (fun j hj hd=>?_) (fun j h1 h2 hd=>?_)
   ·by_cases hp:sf j∧k=j0
    ·exact absurd hd (hno j r hp.1)
    ·exact hbef j (hC j k r hj hlt hp (.inl ⟨hd,hr⟩)) (by omega)
   ·by_cases hjk:j=k
    ·subst hjk;exact hLk
    ·by_cases hp:sf k∧j=j0
     ·cases hlj:L j with
      |false=>rfl
      |true=>exact absurd ⟨hp.1,hp.2 ▸ hlj⟩ hkn
     ·exact haft j (hC k j r (by omega) h2 hp (.inr ⟨hd,hr⟩))
  have hrow0:sf k→L j0=true→∀ r,r∈F k→s'.row r=upd (sAt D e s k).row (e j0).wr r:=by
   intro hk0 hL0 r hr
   have hkj:=hij0 k hk0
   rw [hrr]
   let L0:Nat→Bool:=fun j=>if j=j0 then false else L j
   have hpl0:eO L0 j0=L:=by
    funext j
    simp only [eO,L0]
    split
    ·rename_i e;rw [e,hL0]
    ·rfl
   rw [← hpl0,zY hj0 (by simp [L0]) (fun j h1 h2 hj _=>by
    simp only [L0]
    rw [if_neg (by omega)]
    exact haft j (hC k j r (by omega) h2 (fun hp=>by omega) (.inr ⟨hj,.inl hr⟩)))]
   refine dU _ _ _ r ?_
   refine tQ (Nat.le_of_lt hlt) (fun j hj hd=>?_) (fun j h1 h2 hd=>?_)
   ·simp only [L0]
    rw [if_neg (by omega)]
    exact hbef j (hC j k r hj hlt (fun hp=>by omega) (.inl ⟨hd,.inl hr⟩)) (by omega)
   ·simp only [L0]
    split
    ·rfl
    ·rename_i hne
     by_cases hjk:j=k
     ·subst hjk;exact hLk
     ·exact haft j (hC k j r (by omega) h2 (fun hp=>hne hp.2) (.inr ⟨hd,.inl hr⟩))
  have hgl:∀ t,(s'.apply o.dst (e k)).get t=gl D e s (eO L k) ops.size t:=by
   intro t
   rw [HC hlt fun j h1 h2 hdj hdk=>by
    obtain ⟨oj,hoj,hj⟩:=hopj j t hdj
    rcases hB k j o oj h1 ho hoj with h|h
    ·exact absurd hj ((Oper.apart_spec h).2.1 t (by rw [← hD k o ho];exact hdk))
    ·exact haft j h]
   rw [hD k o ho,← hg t]
   simp only [AS.apply]
   cases hd:o.dst with
   |none=>simp [AS.get_put_none,AS.get_wr]
   |some d=>
    rw [AS.get_put]
    simp only [Option.some.injEq,AS.get_wr]
    by_cases h:t=d
    ·subst h;simp
    ·rw [if_neg h,if_neg (fun e=>h e.symm)]
  have hrl:∀ r,(s'.apply o.dst (e k)).row r=rl e s (eO L k) ops.size r:=by
   intro r
   rw [zY hlt hLk fun j h1 h2 hj hk2=>haft j (hC k j r h1 h2 (fun hp=>hno k r hp.1 hk2) (.inl ⟨hk2,.inr hj⟩))]
   simp only [AS.apply]
   rw [AS.row_put,AS.row_wr]
   exact dU _ _ _ r (hrr r)
  obtain ⟨hdst,hstep⟩:=hst k o ho
  have hcount:pP ops.size (eO L k)≤fuel:=by
   have:=kU (L:=L) hlt hLk
   omega
  have next:∀ E' a',Sim G n (s'.apply o.dst (e k)) E' a'→Ext E E'→wpAnyIn wL 0 P .any ops Q' fuel (listed.setIfInBounds k true) a' E'.w:=by
   intro E' a' i' x'
   refine ih _ (s'.apply o.dst (e k)) E' a' (by rw [hnew];exact hcount) (by simpa using hsz) (by rw [hnew];exact hpl) (by rw [hnew];exact hgl) (by rw [hnew];exact hrl) i' (x.trans x')
  unfold wpOpIn
  rw [ho]
  simp only
  have hwant:iB ops o s'=iB ops o (sAt D e s k):=qZ hsee
  rcases hstep with ⟨hw,hop⟩|⟨hw,he,hF⟩
  ·rw [← hwant] at hw
   rw [if_pos (jL i hw)]
   have hop':zK P G o.op (evA G s'.get) s'.row (sAt D e s k).h.length (e k):=by
    by_cases hp:sf k∧L j0=true
    ·obtain ⟨hk0,hL0⟩:=hp
     obtain ⟨ho1,ho2⟩:=hsoft k o hk0 ho
     have he:∀ x∈o.op.operands,evA G s'.get x=evA G (sAt D e s k).get x:=fun x hx=>yW fun t ht=>hsee t (xY (ht ▸ hx))
     have hF:F k=fpA o.op (evA G (sAt D e s k).get):=by
      unfold OpC at hop
      rw [(ho1 _).1] at hop
      simp only [(ho1 _).2] at hop
      exact hop.2
     refine OpC.astep (fp:=F k) ?_
     unfold OpC
     rw [(ho1 _).1]
     simp only [(ho1 _).2]
     rw [zF he,yS he]
     refine ⟨qW (ho2 _) (fun r hr=>hrow0 hk0 hL0 r (by rw [hF];exact hr)) (fun r hr=>?_),hF⟩
     rw [hwr0 k hk0] at hr
     cases hr
    ·exact (hop.moved (ops:=ops) (g':=s'.get) (rows':=s'.row) hsee (hrow hp)).astep
   rw [← i.rows] at hop'
   exact (zL i.inv i.eval hop' fun E' v x1 i1 e1 hv=>next E' _ (i.step hdst x1 i1 e1 hv) x1)
  ·rw [← hwant] at hw
   rw [if_neg (by rw [jL i hw];simp)]
   refine ⟨fun _ _=>trivial,next E _ ?_ (Ext.refl E)⟩
   rw [he]
   exact i.skip hdst
theorem sU {P:Program} {G:Nat→Option (List AV)} {n:Nat} {ops:Array Oper} {K:Option Acc→AS→Prop} {S:AS→Prop} (l2:List Oper):∀ (l:List Oper) (s:AS) (acc:Acc),
  aY P G n (fun m s1=>S s1∧aY P G n K (l2.map fun o=>(o.dst,o.op,o.guard.map fun p=>((ops[p.1]?).bind (·.dst),p.2))) m s1) (l.map fun o=>(o.dst,o.op,o.guard.map fun p=>((ops[p.1]?).bind (·.dst),p.2))) (some acc) s→
  ∃ (e:Nat→Eff) (F:Nat→List Nat),(∀ i o,(l++l2)[i]? =some o→gM n o.dst∧m5 P G ops o (sAt (fun i=>((l++l2)[i]?).bind (·.dst)) e s i) (e i) (F i))∧K (some (lJ F e (l++l2).length acc)) (sAt (fun i=>((l++l2)[i]?).bind (·.dst)) e s (l++l2).length)∧S (sAt (fun i=>((l++l2)[i]?).bind (·.dst)) e s l.length)
 | [],s,acc,h=>by
  obtain ⟨e,F,h1,h2⟩:=sV l2 s acc h.2
  exact ⟨e,F,h1,h2,h.1⟩
 | o :: rest, s, acc, h => by
  simp only [List.map_cons,aY] at h
  obtain ⟨hd,h⟩:=h
  have fin:∀ (e0:Eff) (F0:List Nat),m5 P G ops o s e0 F0→
    aY P G n (fun m s1=>S s1∧aY P G n K (l2.map fun o=>(o.dst,o.op,o.guard.map fun p=>((ops[p.1]?).bind (·.dst),p.2))) m s1) (rest.map fun o=>(o.dst,o.op,o.guard.map fun p=>((ops[p.1]?).bind (·.dst),p.2))) (some ((F0,e0.wr.map (·.1))::acc)) (s.apply o.dst e0)→
    ∃ (e:Nat→Eff) (F:Nat→List Nat),(∀ i o',(o::rest++l2)[i]? =some o'→gM n o'.dst∧m5 P G ops o' (sAt (fun i=>((o::rest++l2)[i]?).bind (·.dst)) e s i) (e i) (F i))∧
     K (some (lJ F e (o::rest++l2).length acc)) (sAt (fun i=>((o::rest++l2)[i]?).bind (·.dst)) e s (o::rest++l2).length)∧S (sAt (fun i=>((o::rest++l2)[i]?).bind (·.dst)) e s (o::rest).length):=by
   intro e0 F0 hst hr
   obtain ⟨e,F,h1,h2,h3⟩:=sU l2 rest _ _ hr
   refine ⟨fun|0=>e0|i+1=>e i,fun|0=>F0|i+1=>F i,fun i o' ho=>?_,?_,?_⟩
   ·cases i with
    |zero=>
     simp at ho
     subst ho
     exact ⟨hd,hst⟩
    |succ i=>
     have:=h1 i o' (by simpa using ho)
     rw [jP]
     exact this
   ·rw [List.cons_append,List.length_cons,jP,oP]
    exact h2
   ·rw [List.length_cons,jP]
    exact h3
  rw [← lK] at h
  split at h
  ·rename_i hw
   unfold opR at h
   split at h
   ·obtain ⟨h0,_⟩:=h
    cases h0
   ·obtain ⟨eff,fp,h1,h2⟩:=h
    exact fin eff fp (.inl ⟨hw,h1⟩) h2
  ·rename_i hw
   exact fin ⟨.tup [],[]⟩ [] (.inr ⟨hw,rfl,rfl⟩) h
  ·exact h.elim
theorem zT {D:Nat→Option Tmp} {e:Nat→Eff} {s:AS} {t:Tmp} (i:Nat):∀ d,(∀ j,i≤j→j<i+d→D j≠some t)→(sAt D e s (i+d)).get t=(sAt D e s i).get t
 |0,_=>rfl
 |d+1,h=>by
  show ((sAt D e s (i+d)).apply (D (i+d)) (e (i+d))).get t=_
  rw [← zT i d fun j h1 h2=>h j h1 (by omega)]
  have:=h (i+d) (by omega) (by omega)
  simp only [AS.apply]
  cases hd:D (i+d) with
  |none=>simp [AS.get_put_none,AS.get_wr]
  |some q=>
   rw [hd] at this
   rw [AS.get_put,if_neg (fun e=>this (by rw [e])),AS.get_wr]
theorem GO {D:Nat→Option Tmp} {e:Nat→Eff} {s:AS} {r:Nat} (i:Nat):∀ d,(∀ j,i≤j→j<i+d→¬ dP e j r)→(sAt D e s (i+d)).row r=(sAt D e s i).row r
 |0,_=>rfl
 |d+1,h=>by
  show ((sAt D e s (i+d)).apply (D (i+d)) (e (i+d))).row r=_
  rw [← GO i d fun j h1 h2=>h j h1 (by omega)]
  simp only [AS.apply]
  rw [AS.row_put,AS.row_wr]
  exact eV (h (i+d) (by omega) (by omega))
def reads:Op→Bool
 | .load _ (.tmp _)=>true
 | .nilCheck (.tmp _)=>true
 | .fieldAddr _ (.tmp _) _=>true
 |_=>false
def kE:Op→Tmp
 | .load _ (.tmp a)=>a
 | .nilCheck (.tmp a)=>a
 | .fieldAddr _ (.tmp a) _=>a
 |_=>0
theorem FH {o:Op} (h:reads o=true):(∀ ev,eQ o ev=none∧iZ o ev=none)∧(∀ (P:Program) (g g':Nat→AV) (G:Nat→Option (List AV)) (rows:Nat→ARow) (nb nb':Nat),g' (kE o)=g (kE o)→aop P o (evA G g') rows nb'=aop P o (evA G g) rows nb)∧(∀ (P:Program) ev (rows:Nat→ARow) (nb:Nat) eff,aop P o ev rows nb=some eff→eff.wr=[]):=by
 unfold reads at h
 split at h
 ·rename_i t a
  refine ⟨fun ev=>⟨rfl,rfl⟩,fun P g g' G rows nb nb' hg=>?_,fun P ev rows nb eff he=>?_⟩
  ·simp only [kE] at hg
   simp only [aop,evA,hg]
  ·simp only [aop,Option.map_eq_some_iff] at he
   obtain ⟨v,_,rfl⟩:=he
   rfl
 ·rename_i a
  refine ⟨fun ev=>⟨rfl,rfl⟩,fun P g g' G rows nb nb' hg=>?_,fun P ev rows nb eff he=>?_⟩
  ·simp only [kE] at hg
   simp only [aop,evA,hg]
  ·simp only [aop,Option.map_eq_some_iff] at he
   obtain ⟨v,_,rfl⟩:=he
   rfl
 ·rename_i t a f
  refine ⟨fun ev=>⟨rfl,rfl⟩,fun P g g' G rows nb nb' hg=>?_,fun P ev rows nb eff he=>?_⟩
  ·simp only [kE] at hg
   simp only [aop,evA,hg]
  ·simp only [aop,Option.map_eq_some_iff] at he
   obtain ⟨v,_,rfl⟩:=he
   rfl
 ·cases h
def lF (P:Program) (G:Nat→Option (List AV)) (s1:AS):List POp→Prop
 | []=>True
 |p::l=>(match p.1 with
  |some d=>aop P p.2.1 (evA G s1.get) s1.row 0=some ⟨s1.get d,[]⟩
  |none=>False)∧lF P G s1 l
theorem xG {P:Program} {G:Nat→Option (List AV)} {s1:AS}:∀ {l:List POp},lF P G s1 l→∀ p∈l,∃ d,p.1=some d∧aop P p.2.1 (evA G s1.get) s1.row 0=some ⟨s1.get d,[]⟩
 | [],_,p,hp=>by cases hp
 |q::l,h,p,hp=>by
  rcases List.mem_cons.1 hp with rfl|hp
  ·have:=h.1
   split at this
   ·rename_i d hd
    exact ⟨d,hd,this⟩
   ·exact this.elim
  ·exact xG h.2 p hp
def o8 (ops:Array Oper) (ks:List Nat) (j0:Nat) (acc:Acc):Bool:=
 let l:=acc.reverse
 ((List.range l.length).all fun j=>(List.range j).all fun i=>(ks.contains i&&decide (j=j0)) || (((mD ops).getD j 0).testBit i || match l[i]?,l[j]? with
  |some (fi,wi),some (fj,wj)=>BA wi fj&&BA wi wj&&BA wj fi
  |_,_=>true))&&
 ks.all fun i0=>(List.range j0).all fun j=>decide (j<i0) || match l[i0]?,l[j]? with
  |some (fi,_),some (_,wj)=>BA wj fi
  |_,_=>true
def NY (ops:Array Oper) (ks:List Nat) (j0:Nat):Option Acc→Prop
 |some acc=>o8 ops ks j0 acc=true
 |none=>False
def FC (ops : Array Oper) (ks : List Nat) (j0 : Nat) : Bool :=
 decide (j0<ops.size)&&ks.all fun i0=>decide (i0<j0)&&match ops[i0]? with
  |some o=>reads o.op&&(match o.guard with
   |none=>true
   |some _=>false)&&(match o.dst with
   |some d=>(List.range (j0+1)).all fun j=>decide (j<i0) || match (ops[j]?).bind (·.dst) with
    |some t=>decide (t≠kE o.op)&&(decide (j=i0) || decide (t≠d))
    |none=>true
   |none=>false)
  |none=>false
def pick (l:List POp) (ks:List Nat):List POp:=ks.filterMap fun i=>l[i]?
theorem BJ [Rnd] {k rid:Nat} {Q:Exit→AS→Prop} {s:AS} (ks:List Nat) (j0:Nat) (hm:P.follows .mixedOrders=true) (hs:fV ops=true) (hso:FC ops ks j0=true)
  (h:aY P G n (fun m s1=>lF P G s1 (pick (dQ ops) ks)∧aY P G n (fun m s'=>NY ops ks j0 m∧Q .normal s') ((dQ ops).drop (j0+1)) m s1) ((dQ ops).take (j0+1)) (some []) s):AWp P G n k (.region rid ops true) Q s:=fun E a i=>by
 simp only [FC,Bool.and_eq_true,decide_eq_true_eq,List.all_eq_true] at hso
 obtain ⟨hj0,hks⟩:=hso
 have hload:∀ i0∈ks,i0<j0∧∃ o0 d,ops[i0]? =some o0∧reads o0.op=true∧o0.guard=none∧o0.dst=some d∧∀ j,i0≤j→j<j0+1→∀ t,(ops[j]?).bind (fun o:Oper=>o.dst)=some t→t≠kE o0.op∧(j=i0∨t≠d):=by
  intro i0 hi0
  obtain ⟨h1,h2⟩:=hks i0 hi0
  refine ⟨h1,?_⟩
  revert h2
  cases hq:ops[i0]? with
  |none=>intro h;cases h
  |some o0=>
   intro h2
   simp only [Bool.and_eq_true] at h2
   obtain ⟨⟨h3,h4⟩,h5⟩:=h2
   have h4':o0.guard=none:=by
    revert h4
    cases o0.guard with
    |none=>intro _;rfl
    |some _=>intro h;cases h
   revert h5
   cases hd:o0.dst with
   |none=>intro h;cases h
   |some d=>
    intro h5
    simp only [List.all_eq_true,List.mem_range,Bool.or_eq_true,decide_eq_true_eq] at h5
    refine ⟨o0,d,rfl,h3,h4',hd,fun j hj1 hj2 t ht=>?_⟩
    have:=h5 j hj2
    rw [ht] at this
    simp only [Bool.and_eq_true,Bool.or_eq_true,decide_eq_true_eq] at this
    rcases this with h|h
    ·omega
    ·exact h
 have hsplit:ops.toList=ops.toList.take (j0+1)++ops.toList.drop (j0+1):=(List.take_append_drop _ _).symm
 have h':aY P G n (fun m s1=>lF P G s1 (pick (dQ ops) ks)∧aY P G n (fun m s'=>NY ops ks j0 m∧Q .normal s') ((ops.toList.drop (j0+1)).map fun o=>(o.dst,o.op,o.guard.map fun p=>((ops[p.1]?).bind (·.dst),p.2))) m s1) ((ops.toList.take (j0+1)).map fun o=>(o.dst,o.op,o.guard.map fun p=>((ops[p.1]?).bind (·.dst),p.2))) (some []) s:=by
  rw [List.map_drop,List.map_take]
  exact h
 obtain ⟨e,F,h1,h2,h3⟩:=sU (ops:=ops) (ops.toList.drop (j0+1)) (ops.toList.take (j0+1)) s [] h'
 rw [← hsplit] at h1 h2 h3
 have htl:(ops.toList.take (j0+1)).length=j0+1:=by simp;omega
 rw [htl] at h3
 obtain ⟨h2,hQ⟩:=h2
 simp only [fV,List.all_eq_true,List.mem_range] at hs
 have hA:∀ (j:Nat) (o:Oper),ops[j]? =some o→∀ ed∈o.after,Region.binds .any ed=true→ed.on<j:=by
  intro j o ho ed he hb
  have:=hs j (Array.getElem?_eq_some_iff.1 ho).1
  rw [ho] at this
  simp only [Bool.and_eq_true,Array.all_eq_true_iff_forall_mem] at this
  have:=this.1 ed he
  simpa [hb] using this
 have hM:=(oG hA ops.toList [] (fun j hj=>by simp at hj) (fun i o ho=>by simpa using ho))
 have hMl:(mD ops).length=ops.size:=by have:=hM.2;simpa [mD] using this
 have hbit:∀ i j,j<ops.size→((mD ops).getD j 0).testBit i=true→eT ops i j:=fun i j hj hb=>hM.1 j (by unfold mD at hMl;omega) i hb
 have hB:∀ (i j:Nat) (oi oj:Oper),i<j→ops[i]? =some oi→ops[j]? =some oj→oi.apart ops oj=true∨eT ops i j:=by
  intro i j oi oj hij hi hj
  have hlt:=(Array.getElem?_eq_some_iff.1 hj).1
  have:=hs j hlt
  rw [hj] at this
  simp only [Bool.and_eq_true,List.all_eq_true,List.mem_range] at this
  have:=this.2 i hij
  rw [hi] at this
  simp only [Bool.or_eq_true] at this
  exact this.imp (fun h=>h) (hbit i j hlt)
 have hl:ops.toList.length=ops.size:=by simp
 rw [hl] at h2
 simp only [NY,o8,Bool.and_eq_true,List.all_eq_true,List.mem_range,List.length_reverse,hX] at h2
 obtain ⟨h2,h4⟩:=h2
 have hC:∀ (i j r:Nat),i<j→j<ops.size→¬ (i∈ks∧j=j0)→(dP e i r∧(r∈F j∨dP e j r))∨(dP e j r∧(r∈F i∨dP e i r))→eT ops i j:=by
  intro i j r hij hj hp hw
  have gi:=gE F e ops.size i (by omega)
  have gj:=gE F e ops.size j hj
  have:=h2 j hj i hij
  rw [gi,gj] at this
  simp only [Bool.or_eq_true,Bool.and_eq_true,decide_eq_true_eq,List.contains_iff_mem] at this
  rcases this with h|h|⟨⟨d1,d2⟩,d3⟩
  ·exact absurd h hp
  ·exact hbit i j hj h
  ·exfalso
   rcases hw with ⟨w1,w2|w2⟩|⟨w1,w2|w2⟩
   ·exact fH d1 w1 w2
   ·exact fH d2 w1 w2
   ·exact fH d3 w1 w2
   ·exact fH d2 w2 w1
 have hlist:∀ (i:Nat) (o:Oper),ops[i]? =some o→ops.toList[i]? =some o:=fun i o ho=>by simpa using ho
 have hD:∀ j:Nat,(ops.toList[j]?).bind (fun o:Oper=>o.dst)=(ops[j]?).bind (fun o:Oper=>o.dst):=fun j=>by simp
 let D:Nat→Option Tmp:=fun i=>(ops.toList[i]?).bind (·.dst)
 have hone:∀ i0∈ks,(e i0).wr=[]∧∀ o,ops[i0]? =some o→(∀ ev,eQ o.op ev=none∧iZ o.op ev=none)∧∀ nb,aop P o.op (evA G (sAt D e s i0).get) (upd (sAt D e s i0).row (e j0).wr) nb=some (e i0):=by
  intro i0 hi0
  obtain ⟨hij0,o0,d,ho0,hrd,hgd0,hdst0,hsl⟩:=hload i0 hi0
  obtain ⟨r1,r2,r3⟩:=FH hrd
  obtain ⟨_,hst0⟩:=h1 i0 o0 (hlist i0 o0 ho0)
  have hw0:OpC P G o0.op (evA G (sAt D e s i0).get) (sAt D e s i0).row (sAt D e s i0).h.length (F i0) (e i0):=by
   rcases hst0 with h|h
   ·exact h.2
   ·have:=h.1
    unfold iB at this
    rw [hgd0] at this
    cases this
  unfold OpC at hw0
  rw [(r1 _).1] at hw0
  simp only [(r1 _).2] at hw0
  obtain ⟨ha0,hF0⟩:=hw0
  have hwr0:=r3 _ _ _ _ _ ha0
  refine ⟨hwr0,fun o ho=>?_⟩
  rw [ho0] at ho
  injection ho with ho
  subst ho
  refine ⟨r1,fun nb=>?_⟩
  have hd0:D i0=some d:=by simp only [D,hD,ho0,Option.bind_some,hdst0]
  have hgd:(sAt D e s (j0+1)).get d=(e i0).val:=by
   have e1:j0+1=i0+1+(j0 - i0):=by omega
   rw [e1,zT (i0+1) (j0 - i0) fun j h1 h2 hjt=>by
    simp only [D,hD] at hjt
    rcases (hsl j (by omega) (by omega) d hjt).2 with h|h
    ·omega
    ·exact h rfl]
   show ((sAt D e s i0).apply (D i0) (e i0)).get d=_
   rw [hd0]
   simp only [AS.apply]
   rw [AS.get_put,if_pos rfl]
  have hga:(sAt D e s (j0+1)).get (kE o0.op)=(sAt D e s i0).get (kE o0.op):=by
   have e1:j0+1=i0+(j0+1 - i0):=by omega
   rw [e1]
   refine zT i0 _ fun j h1 h2 hjt=>?_
   simp only [D,hD] at hjt
   exact (hsl j (by omega) (by omega) _ hjt).1 rfl
  obtain ⟨d',hd',hs1⟩:=xG h3 (o0.dst,o0.op,o0.guard.map fun p=>((ops[p.1]?).bind (·.dst),p.2)) (List.mem_filterMap.2 ⟨i0,hi0,by simp [dQ,ho0]⟩)
  simp only at hd' hs1
  rw [hdst0] at hd'
  injection hd' with hd'
  subst hd'
  have hs2:aop P o0.op (evA G (sAt D e s i0).get) (sAt D e s (j0+1)).row nb=some (e i0):=by
   rw [← r2 P _ _ G (sAt D e s (j0+1)).row nb 0 hga]
   refine hs1.trans ?_
   show some (Eff.mk ((sAt D e s (j0+1)).get d) [])=some (e i0)
   rw [hgd]
   cases hq:e i0 with
   |mk v wr=>
    rw [hq] at hwr0
    simp only at hwr0
    subst hwr0
    rfl
  refine qW hs2 (fun r hr=>?_) (fun r hr=>by rw [hwr0] at hr;cases hr)
  show _=((sAt D e s j0).apply (D j0) (e j0)).row r
  simp only [AS.apply]
  rw [AS.row_put,AS.row_wr]
  refine dU _ _ _ r ?_
  have e1:j0=i0+(j0 - i0):=by omega
  refine Eq.symm ?_
  rw [e1]
  refine GO i0 _ fun j h5 h6 hw=>?_
  have:=h4 i0 hi0 j (by omega)
  have gi:=gE F e ops.size i0 (by omega)
  have gj:=gE F e ops.size j (by omega)
  rw [gi,gj] at this
  simp only [Bool.or_eq_true,decide_eq_true_eq] at this
  rcases this with h|h
  ·omega
  ·exact fH h hw (by rw [hF0];exact hr)
 refine wpIn_region_any hm ?_
 have hst:=lP i.inv { E.w with drawn:=E.w.drawn+1 } E.S rfl rfl rfl (Nat.le_refl _) (fun b hb=>rfl) (fun b hb=>hb) (fun b hb=>.inl hb)
 have i1:Sim G n s ⟨{ E.w with drawn:=E.w.drawn+1 },E.S,E.ρ,E.rows⟩ a:=⟨hst.2,i.rows,i.sz,fun t=>(i.tm t).ext i.inv hst.1,i.df.ext hst.1⟩
 refine LY (Q':=fun e a' w'=>∃ s' E',w'=E'.w∧ExtK k E E'∧Sim G n s' E' a'∧Q e s') (n:=n) (s:=s) (E0:=⟨{ E.w with drawn:=E.w.drawn+1 },E.S,E.ρ,E.rows⟩) (e:=e) (F:=F) (D:=fun i=>(ops.toList[i]?).bind (·.dst))
  (fun i o ho=>by simp only [hlist i o ho,Option.bind_some]) (fun i hi=>by
   have:ops.toList[i]? =none:=by simpa using hi
   simp only [this,Option.bind_none]) (fun i o ho=>h1 i o (hlist i o ho)) hA hB (fun i=>i∈ks) j0 (fun i hi=>(hload i hi).1) hj0 (fun i hi=>(hone i hi).1) (fun i o hi ho=>(hone i hi).2 o ho) hC ?_
  ops.size (Array.replicate ops.size false) s ⟨{ E.w with drawn:=E.w.drawn+1 },E.S,E.ρ,E.rows⟩ a ?_ (by simp) ?_ ?_ ?_ i1 (Ext.refl _)
 ·intro s' E' a' hg hr hsim x
  rw [hl] at hQ
  exact ⟨_,E',rfl,(hst.1.trans x).toK k,hsim.congr hg.symm hr.symm,hQ⟩
 ·have:=List.countP_le_length (p:=fun i=> !(Array.replicate ops.size false).getD i false) (l:=List.range ops.size)
  simpa [pP] using this
 ·intro j o _ hj
  simp [Array.getElem?_replicate] at hj
  split at hj<;>simp at hj
 ·intro t
  rw [yM (Nat.zero_le _) (fun j hj=>by omega) (fun j _ _ _=>by simp [Array.getElem?_replicate];split<;>rfl)]
  rfl
 ·intro r
  rw [tQ (D:=fun _=>none) (Nat.zero_le _) (fun j hj=>by omega) (fun j _ _ _=>by simp [Array.getElem?_replicate];split<;>rfl)]
  rfl
end
def OD (P:Program) (G:Nat→Option (List AV)) (n:Nat) (sl:List POp) (K:Option Acc→AS→Prop) (l:List POp) (m:Option Acc) (s1:AS):Prop:=lF P G s1 sl∧aY P G n K l m s1
theorem B7 {P:Program} {G:Nat→Option (List AV)} {n:Nat} {ι:Type} {R: ι→Prop} {sl:List POp} {K: ι→Option Acc→AS→Prop} {l:List POp} {m:Option Acc} {s1:AS} (h:lF P G s1 sl) (hk:EG R (fun i=>aY P G n (K i) l m s1)):EG R (fun i=>OD P G n sl (K i) l m s1):=hk.mono fun _ q=>⟨h,q⟩
theorem mN [Rnd] {P:Program} {G:Nat→Option (List AV)} {n k:Nat} {ι:Type} {R: ι→Prop} {Q: ι→Exit→AS→Prop} {s:AS} {id:Nat} {ops:Array Oper} (ks:List Nat) (j0:Nat) (hm:P.follows .mixedOrders=true) (hs:fV ops=true) (hso:FC ops ks j0=true)
  (h:EG R (fun i=>aY P G n (OD P G n (pick (dQ ops) ks) (fun m s'=>NY ops ks j0 m∧Q i .normal s') ((dQ ops).drop (j0+1))) ((dQ ops).take (j0+1)) (some []) s)):EG R (fun i=>AWp P G n k (.region id ops true) (Q i) s):=h.mono fun _ q=>BJ ks j0 hm hs hso q
end Go.AM
set_option linter.unusedVariables false
set_option linter.unusedSimpArgs false
namespace Go.AM
end Go.AM
set_option linter.unusedVariables false
set_option linter.unusedSimpArgs false
namespace Go.AM
end Go.AM
set_option linter.unusedVariables false
set_option linter.unusedSimpArgs false
namespace Go.AM
end Go.AM
set_option linter.unusedVariables false
set_option linter.unusedSimpArgs false
namespace Go.AM
theorem HA:∀ {H:List ARow} {r:Nat} {x:ARow},r<H.length→H.getD r .none=x→d7 H r x=H
 | [],_,_,h,_=>by cases h
 |a::H,0,x,_,h=>by simp only [List.getD_cons_zero] at h;subst h;rfl
 |a::H,r+1,x,h,g=>by
  simp only [d7]
  rw [HA (by simpa using h) (by simpa using g)]
section
variable {P:Program} {G:Nat→Option (List AV)} {n:Nat} {K:Option Acc→AS→Prop} {d:Option Tmp} {rest:List POp} {fp:List Nat} {s:AS} {t u:TypeId} {sz by' nb:Nat} {x:AV} {rows:Nat→ARow}
def rvN (v:Nat) (app:List (List AV)):Nat:=if app=[] then 0 else v+1
theorem NR {r v:Nat} {app es:List (List AV)} (ht:rY P t u=some (sz,by')) (hr:rows r=rvR v app) (hr0:s.row r=rvR v app) (hlt:r<s.h.length) (hsz:∀ e∈app,e.length=sz) (hs:cJ sz x rows=some (es.length,es.flatten)) (hb:(app.length+es.length)*(by'+1)≤140737488355328)
  (hk:aY P G n K rest none ((s.wr [(r,rvR (rvN v app) (app++es))]).put d (rv r (rvN v app) sz (app++es)))):bU P G n K d rest none fp s (dN P t u (rv r v sz app) x rows nb):=by
 by_cases he:es=[]
 ·subst he
  by_cases ha:app=[]
  ·subst ha
   refine NS rfl ht hs ?_
   have:s.wr [(r,rvR (rvN v []) ([]++[]))]=s:=by
    show AS.mk s.fr (d7 s.h r .none)=s
    rw [HA hlt (show s.h.getD r .none=.none from hr0)]
   rw [this] at hk
   exact hk
  ·have hrv:rv r v sz app=.osl r v 0 app.length sz false:=if_neg ha
   have hr':rows r=.cells v app.flatten:=by rw [hr];exact if_neg ha
   rw [hrv]
   refine f7 (mm:=0) (new:=[]) (cs:=app.flatten) ht hr' (cG hsz) hs hb ?_
   simp only [rv,rvR,rvN,List.append_nil,if_neg ha] at hk ⊢
   exact hk
 ·refine b8 (m:=none) ht hr rfl hsz hs he hb ?_
  exact hk
end
end Go.AM
set_option linter.unusedVariables false
set_option linter.unusedSimpArgs false
namespace Go.AM
theorem u3 {F:AV→AV→Prop} (h:∀ a,F a a):∀ l:List AV,FrzLF F l l
 | []=>trivial
 |a::l=>⟨h a,u3 h l⟩
theorem yR {F:AV→AV→Prop} (h:∀ a,F a a) {x y:AV} (hx:F x y) (post:List AV):∀ pre:List AV,FrzLF F (pre++x::post) (pre++y::post)
 | []=>⟨hx,u3 h post⟩
 |a::l=>⟨h a,yR h hx post l⟩
theorem JW [Rnd] {G:Nat→Option (List AV)} {n k:Nat} {s:AS} {r b ver vb m sz:Nat} {bb:Bool} {L:List (List AV)} {pre post:List AV} (hb:s.row b=.cells vb (pre++.osl r ver 0 m sz bb::post)) (hr:s.row r=.cells ver L.flatten) (hm:L.length=m) (hsz:∀ e∈L,e.length=sz) (hbr:b≠r)
  {s':AS} (hf:s'.fr=s.fr) (hs:∀ q,s'.row q=if q=b then .cells vb (pre++.sl false L::post) else if q=r then .dead else s.row q):Ref G n k s s':=fun E a i=>by
 refine i.freezeF [r] (fun x y=>y=x∨(x=.osl r ver 0 m sz bb∧y=.sl false L)) ?_ (fun t=>.inr (.inl (by show s'.fr.getD t .undef=s.fr.getD t .undef;rw [hf]))) fun q=>?_
 ·rintro E' ag hS x y u (rfl|⟨rfl,rfl⟩) hx
  ·exact hx.agree ag (iN y)
  ·have hr':E.rows r=.cells ver L.flatten:=by rw [i.rows];exact hr
   have hc:aT E.rows r ver=some L.flatten:=by simp [aT,hr']
   obtain ⟨cap,cur,e,rfl,a1,a2,a3,a4,a5⟩:=iI hc hx
   obtain ⟨cur',e',vs,k1,k2,k3,k4,k5⟩:=iE i.inv hc
   have r1:=gX (b:=E.ρ r) (off:=0) k2 k5 hsz
   simp only [Rel]
   refine ⟨some ⟨E.ρ r,0,none⟩,cap,by rw [hm],by omega,a2,by simp,by simp,E.ρ r,0,sz,.inr ⟨rfl,hS r (by simp) (by rw [hr'];rfl)⟩,r1.agree ag (uR L)⟩
 ·rw [hs q]
  by_cases hqb:q=b
  ·subst hqb
   rw [if_pos rfl,hb]
   exact .inr ⟨.inl (by simpa using hbr),.inr ⟨vb,_,_,rfl,rfl,yR (fun a=>.inl rfl) (.inr ⟨rfl,rfl⟩) post pre⟩⟩
  ·rw [if_neg hqb]
   by_cases hqr:q=r
   ·subst hqr
    rw [if_pos rfl,hr]
    exact .inl ⟨by simp,rfl,by simp⟩
   ·rw [if_neg hqr]
    exact .inr ⟨.inl (by simpa using hqr),.inl rfl⟩
end Go.AM
