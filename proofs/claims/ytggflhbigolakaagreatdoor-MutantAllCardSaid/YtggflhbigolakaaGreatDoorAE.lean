import Derived.Test.YtggflhbigolakaaGreatDoorAC
set_option linter.unusedVariables false
set_option linter.unusedSimpArgs false
namespace Go.AM
def cZ (E:En) (lfp:List Nat):En:=⟨E.w,fun b=>E.S b\/∃ r∈lfp,(E.rows r).live=true/\b=E.ρ r,E.ρ,fun r=>if r∈lfp then .dead else E.rows r⟩
theorem rW {E:En} {lfp:List Nat} {r:Nat} (h:((cZ E lfp).rows r).live=true):r ∉ lfp/\(E.rows r).live=true:=by
 simp only [cZ] at h
 split at h
 .cases h
 .rename_i hn;exact ⟨hn,h⟩
theorem pL (E:En) (lfp:List Nat):eY (fun _=>true) E (cZ E lfp):=⟨rfl,fun _ h=>.inl h,fun r _=>by
 by_cases hm:r∈lfp
 .exact .inr (.inl (by simp [cZ,hm]))
 .exact .inl (by simp [cZ,hm]),fun r _ _=>rfl⟩
theorem uV {G:Nat->Option (List AV)} {E:En} {lfp:List Nat} (i:Inv G E):Inv G (cZ E lfp):=by
 have ag:=pL E lfp
 refine ⟨fun r=>?_,fun r r' h h' hne=>i.inj r r' (rW h).2 (rW h').2 hne,fun b hb=>?_,fun g cs hg=>?_⟩
 .by_cases hm:r∈lfp
  .unfold RowOK
   have:(cZ E lfp).rows r=.dead:=by simp [cZ,hm]
   rw [this]
   trivial
  .have h0:=i.row r
   have hr:(cZ E lfp).rows r=E.rows r:=by simp [cZ,hm]
   unfold RowOK at h0 ⊢
   rw [hr]
   have hS:(E.rows r).live=true->¬ E.S (E.ρ r)->¬ (cZ E lfp).S (E.ρ r):=fun hl h1 h2=>by
    rcases h2 with h2|⟨r',h3,h4,h5⟩
    .exact h1 h2
    .by_cases e:r=r'
     .subst e;exact hm h3
     .exact i.inj r r' hl h4 e h5
   cases hrr:E.rows r with
   |none=>trivial
   |dead=>trivial
   |cells ver cs=>
    rw [hrr] at h0
    obtain ⟨cur,e,vs,a1,a2,a3,a4⟩:=h0
    exact ⟨cur,e,vs,a1,hS (by rw [hrr];rfl) a2,a3.agree ag (cT cs),a4⟩
   |map ks vs=>
    rw [hrr] at h0
    obtain ⟨es,clock,a1,a2,a3,a4,a5⟩:=h0
    exact ⟨es,clock,a1,hS (by rw [hrr];rfl) a2,a3,a4.agree ag (cT ks),a5.agree ag (cT vs)⟩
   |iter ks vs l j=>
    rw [hrr] at h0
    obtain ⟨mb,es,clock,since,seen,a1,a2,a3,a4,a5,a6,a7,a8,a9⟩:=h0
    exact ⟨mb,es,clock,since,seen,a1,hS (by rw [hrr];rfl) a2,.inl a3,a4,a5,a6,a7.agree ag (cT ks),a8.agree ag (cT vs),a9⟩
   |loop st pend fr ps asg body=>
    rw [hrr] at h0
    obtain ⟨fn,tm,D,a1,a2,a3⟩:=h0
    exact ⟨fn,tm,D,a1,hS (by rw [hrr];rfl) a2,a3.agree ag (cT fr)⟩
 .rcases hb with h|⟨r,_,h2,rfl⟩
  .exact i.sb b h
  .exact (i.live h2).1
 .obtain ⟨vs,a1,a2,a3⟩:=i.glob g cs hg
  exact ⟨vs,.inl a1,a2.agree ag (cT cs),a3⟩
theorem uW {E:En} {lfp:List Nat}:Ext E (cZ E lfp):=by
 refine ⟨rfl,rfl,rfl,ap _,fun _ h=>.inl h,fun b _ hl=>⟨rfl,fun h=>?_⟩,fun r h=>?_,fun r ver cs h=>?_,fun r h=>?_,fun r h=>.inl ⟨(rW h).2,rfl⟩⟩
 .rcases h with h|⟨r,_,h2,rfl⟩
  .exact h
  .exact absurd rfl (hl r h2)
 .simp only [cZ];split
  .rfl
  .exact h
 .by_cases hm:r∈lfp
  .exact .inl (by simp [cZ,hm])
  .exact .inr ⟨ver,cs,by simp [cZ,hm,h],ap _,fun _=>⟨rfl,fun cur e fz hc=>⟨cur,e,hc,rfl⟩⟩⟩
 .by_cases hm:r∈lfp
  .exact .inl (by simp [cZ,hm])
  .exact .inr ⟨by simp [cZ,hm,h],rfl⟩
theorem uU {G:Nat->Option (List AV)} {E:En} {rows:Nat->ARow} {lfp:List Nat} (i:Inv G E) (hE:∀ r∈lfp,E.rows r=rows r):∀ {xs ys:List AV} {us:List Value},sE rows lfp xs ys->RelL E xs us->RelL (cZ E lfp) ys us
 | [],[],us,_,hx=>by simpa only [RelL] using hx
 | [],_::_,_,h,_=>h.elim
 |_::_,[],_,h,_=>h.elim
 |x::xs,y::ys,us,h,hx=>by
  have agl:eY aE (mF E lfp) (cZ E lfp):=⟨rfl,fun _ h=>h,fun r h=>(by cases h),fun r h=>(by cases h)⟩
  simp only [RelL] at hx ⊢
  obtain ⟨v,rest,h1,h2,h3⟩:=hx
  refine ⟨v,rest,h1,?_,uU i hE h.2 h3⟩
  rcases h.1 with rfl|h
  .exact h2.agree (pL E lfp) (lB y)
  .exact (Lend.rel i hE h h2).agree agl h.tree
theorem EW:∀ (a b:List (Nat × ARow)) (rows:Nat->ARow),upd rows (a++b)=upd (upd rows a) b
 | [],_,_=>rfl
 |p::a,b,rows=>EW a b _
theorem nZ {P:Program} {G:Nat->Option (List AV)} {f:FuncId} {args targs:List AV} {rows:Nat->ARow} {fp:List Nat} {eff:eL} (lfp:List Nat) (h:c8 P G f targs rows fp eff) (hl:sE rows lfp args targs) (hd:∀ r∈fp,r ∉ lfp):
  c8 P G f args rows (fp++lfp) ⟨eff.val,eff.wr++lfp.map fun r=>(r,.dead)⟩:=by
 obtain ⟨hgo,hwr,hc⟩:=h
 refine ⟨hgo,fun p hp=>?_,fun E us i hE hus=>?_⟩
 .rcases bo.1 hp with hp|hp
  .exact gu _ (hwr p hp)
  .obtain ⟨r,hr,rfl⟩:=cf.1 hp
   exact gm _ hr
 .have hEl:∀ r∈lfp,E.rows r=rows r:=fun r hr=>hE r (gm _ hr)
  refine (hc (cZ E lfp) us (uV i) (fun r hr=>?_) (uU i hEl hl hus)).mono fun e w' hr=>?_
  .simp only [cZ,if_neg (hd r hr)]
   exact hE r (gu _ hr)
  .obtain ⟨v,E1,rfl,rfl,h3,h4,h5,h6⟩:=hr
   refine ⟨v,E1,rfl,rfl,h3,uW.trans h4,h5,?_⟩
   rw [h6,EW]
   funext r
   rw [nG (fun _=>.dead)]
   by_cases hm:r∈lfp
   .rw [if_pos hm,gW _ _ _ fun p hp e=>hd p.1 (hwr p hp) (e ▸ hm)]
    simp [cZ,hm]
   .rw [if_neg hm]
    exact dA _ _ _ _ (by simp [cZ,hm])
end Go.AM
namespace Go.AM
section
variable {P:Program} {G:Nat->Option (List AV)} {n:Nat} {ops:Array Oper} {Q':Exit->Act->World->Prop}
theorem W6 [i6] {s:AS} {E0:En} {e:Nat->eL} {F:Nat->List Nat} {D:Nat->Option Tmp} (hD:∀ i o,ops[i]? =some o->D i=o.dst) (hDn:∀ i,ops[i]? =none->D i=none)
  (hst:∀ i o,ops[i]? =some o->jO n o.dst/\pZ P G ops o (iZ D e s i) (e i) (F i))
  (hA:∀ (j:Nat) (o:Oper),ops[j]? =some o->∀ ed∈o.after,Region.binds .any ed=true->ed.on<j)
  (hB:∀ (i j:Nat) (oi oj:Oper),i<j->ops[i]? =some oi->ops[j]? =some oj->oi.apart ops oj=true\/f6 ops i j)
  (sf:Nat->Prop) (j0:Nat) (hij0:∀ i,sf i->i<j0) (hj0:j0<ops.size) (hwr0:∀ i,sf i->(e i).wr=[])
  (hsoft:∀ i o,sf i->ops[i]? =some o->(∀ ev,fX o.op ev=none/\lO o.op ev=none)/\∀ nb,pT P o.op (d8 G (iZ D e s i).get) (upd (iZ D e s i).row (e j0).wr) nb=some (e i))
  (hC:∀ (i j r:Nat),i<j->j<ops.size->¬ (sf i/\j=j0)->(eW e i r/\(r∈F j\/eW e j r))\/(eW e j r/\(r∈F i\/eW e i r))->f6 ops i j)
  (hk:∀ s' E a,s'.get=(iZ D e s ops.size).get->s'.row=(iZ D e s ops.size).row->Sim G n s' E a->Ext E0 E->Q' .normal a E.w):
  ∀ (fuel:Nat) (listed:Array Bool) (s':AS) (E:En) (a:Act),tK ops.size (fun j=>listed.getD j false)<=fuel->listed.size=ops.size->LK ops (fun j=>listed.getD j false)->
   (∀ t,s'.get t=gl D e s (fun j=>listed.getD j false) ops.size t)->(∀ r,s'.row r=rl e s (fun j=>listed.getD j false) ops.size r)->Sim G n s' E a->Ext E0 E->
   wpAnyIn BJ 0 P .any ops Q' fuel listed a E.w:=by
 -- all are listed when none is ready
 have hfull : ∀ listed : Array Bool, listed.size = ops.size -> Region.ready .any ops listed = [] -> ∀ j, j < ops.size -> listed.getD j false = true := by
  intro listed hsz hr j
  induction j using Nat.strongRecOn with
  |ind j ih=>
   intro hj
   cases hl:listed.getD j false with
   |true=>rfl
   |false=>
    exfalso
    have:j∈Region.ready .any ops listed:=by
     rw [mem_ready]
     refine ⟨?_,ops[j],d6 hj,fun ed he hb=>ih ed.on (hA j _ (d6 hj) ed he hb) ?_⟩
     .have:j<listed.size:=by omega
      simp [this] at hl ⊢
      exact hl
     .have:=hA j _ (d6 hj) ed he hb
      omega
    rw [hr] at this
    cases this
 have hend:∀ (listed:Array Bool) (s':AS) (E:En) (a:Act),listed.size=ops.size->Region.ready .any ops listed=[]->(∀ t,s'.get t=gl D e s (fun j=>listed.getD j false) ops.size t)->
   (∀ r,s'.row r=rl e s (fun j=>listed.getD j false) ops.size r)->Sim G n s' E a->Ext E0 E->Q' .normal a E.w:=by
  intro listed s' E a hsz hr hg hrr i x
  have hall:=hfull listed hsz hr
  refine hk s' E a (funext fun t=>?_) (funext fun r=>?_) i x
  .rw [hg,DM (ap _) (fun j hj _=>hall j hj) (fun j h1 h2=>by omega)]
  .rw [hrr,yB (ap _) (fun j hj _=>hall j hj) (fun j h1 h2=>by omega)]
 intro fuel
 induction fuel with
 |zero=>
  intro listed s' E a hf hsz hdc hg hrr i x
  have hr:Region.ready .any ops listed=[]:=by
   refine List.eq_nil_iff_forall_not_mem.2 fun j hj=>?_
   obtain ⟨h0,o,ho,_⟩:=mem_ready.1 hj
   have hlt:=(cq.1 ho).1
   have hl:listed.getD j false=false:=by
    have:j<listed.size:=by omega
    simp [this] at h0 ⊢
    exact h0
   have:=nU (L:=fun j=>listed.getD j false) hlt hl
   omega
  exact ⟨hr,hend listed s' E a hsz hr hg hrr i x⟩
 |succ fuel ih=>
  intro listed s' E a hf hsz hdc hg hrr i x
  refine ⟨fun hr=>hend listed s' E a hsz hr hg hrr i x,fun k hk'=>?_⟩
  obtain ⟨h0,o,ho,hall⟩:=mem_ready.1 hk'
  have hlt:=(cq.1 ho).1
  generalize hLd:(fun j=>listed.getD j false)=L at hf hdc hg hrr
  have hLk:L k=false:=by
   rw [<- hLd]
   have:k<listed.size:=by omega
   simp [this] at h0 ⊢
   exact h0
  have hpre:∀ ed∈o.after,Region.binds .any ed=true->L ed.on=true:=fun ed he hb=>by rw [<- hLd];exact hall ed he hb
  have hpl:LK ops (fW L k):=by
   intro j o' ho' hj ed he hb
   unfold fW at hj ⊢
   split
   .rfl
   .split at hj
    .rename_i e
     subst e
     rw [ho] at ho'
     injection ho' with ho'
     subst ho'
     exact hpre ed he hb
    .exact hdc j o' ho' hj ed he hb
  have hbef:∀ i,f6 ops i k->i≠k->L i=true:=fun i hb hne=>by
   have:=hb _ hpl (by simp [fW])
   simpa [fW,hne] using this
  have haft:∀ j,f6 ops k j->L j=false:=fun j hb=>by
   cases hj:L j with
   |false=>rfl
   |true=>
    have:=hb _ hdc hj
    rw [hLk] at this
    cases this
  have hnew:(fun j=>(listed.setIfInBounds k true).getD j false)=fW L k:=by
   funext j
   rw [<- hLd]
   unfold fW
   split
   .rename_i e
    subst e
    have:j<listed.size:=by omega
    simp [this]
   .rename_i hne
    exact getD_set_ne false (Ne.symm hne)
  -- slots
  have hopj:∀ j t,D j=some t->∃ oj,ops[j]? =some oj/\oj.dst=some t:=fun j t hd=>by
   cases hoj:ops[j]? with
   |none=>rw [hDn j hoj] at hd;cases hd
   |some oj=>exact ⟨oj,rfl,by rw [<- hD j oj hoj];exact hd⟩
  have hsee:∀ t∈o.looksAt ops,s'.get t=(iZ D e s k).get t:=by
   intro t ht
   rw [hg]
   refine DM (Nat.le_of_lt hlt) (fun j hj hd=>?_) (fun j h1 h2 hd=>?_)
   .obtain ⟨oj,hoj,hdj⟩:=hopj j t hd
    rcases hB j k oj o hj hoj ho with h|h
    .exact absurd ht ((Oper.apart_spec h).1 t hdj)
    .exact hbef j h (by omega)
   .by_cases hjk:j=k
    .subst hjk;exact hLk
    .obtain ⟨oj,hoj,hdj⟩:=hopj j t hd
     rcases hB k j o oj (by omega) ho hoj with h|h
     .exact absurd ht ((Oper.apart_spec h).2.2 t hdj)
     .exact haft j h
  have hno:∀ i r,sf i->¬ eW e i r:=fun i r hi h=>by
   unfold eW at h
   rw [hwr0 i hi] at h
   cases h
  have hrow:¬ (sf k/\L j0=true)->∀ r,r∈F k\/r∈(e k).wr.map (·.1)->s'.row r=(iZ D e s k).row r:=by
   intro hkn r hr
   rw [hrr]
   refine yB (Nat.le_of_lt hlt) (fun j hj hd=>?_) (fun j h1 h2 hd=>?_)
   .by_cases hp:sf j/\k=j0
    .exact absurd hd (hno j r hp.1)
    .exact hbef j (hC j k r hj hlt hp (.inl ⟨hd,hr⟩)) (by omega)
   .by_cases hjk:j=k
    .subst hjk;exact hLk
    .by_cases hp:sf k/\j=j0
     .cases hlj:L j with
      |false=>rfl
      |true=>exact absurd ⟨hp.1,hp.2 ▸ hlj⟩ hkn
     .exact haft j (hC k j r (by omega) h2 hp (.inr ⟨hd,hr⟩))
  have hrow0:sf k->L j0=true->∀ r,r∈F k->s'.row r=upd (iZ D e s k).row (e j0).wr r:=by
   intro hk0 hL0 r hr
   have hkj:=hij0 k hk0
   rw [hrr]
   let L0:Nat->Bool:=fun j=>if j=j0 then false else L j
   have hpl0:fW L0 j0=L:=by
    funext j
    simp only [fW,L0]
    split
    .rename_i e;rw [e,hL0]
    .rfl
   rw [<- hpl0,FC hj0 (by simp [L0]) (fun j h1 h2 hj _=>by
    simp only [L0]
    rw [if_neg (by omega)]
    exact haft j (hC k j r (by omega) h2 (fun hp=>by omega) (.inr ⟨hj,.inl hr⟩)))]
   refine dA _ _ _ r ?_
   refine yB (Nat.le_of_lt hlt) (fun j hj hd=>?_) (fun j h1 h2 hd=>?_)
   .simp only [L0]
    rw [if_neg (by omega)]
    exact hbef j (hC j k r hj hlt (fun hp=>by omega) (.inl ⟨hd,.inl hr⟩)) (by omega)
   .simp only [L0]
    split
    .rfl
    .rename_i hne
     by_cases hjk:j=k
     .subst hjk;exact hLk
     .exact haft j (hC k j r (by omega) h2 (fun hp=>hne hp.2) (.inr ⟨hd,.inl hr⟩))
  have hgl:∀ t,(s'.apply o.dst (e k)).get t=gl D e s (fW L k) ops.size t:=by
   intro t
   rw [PI hlt fun j h1 h2 hdj hdk=>by
    obtain ⟨oj,hoj,hj⟩:=hopj j t hdj
    rcases hB k j o oj h1 ho hoj with h|h
    .exact absurd hj ((Oper.apart_spec h).2.1 t (by rw [<- hD k o ho];exact hdk))
    .exact haft j h]
   rw [hD k o ho,<- hg t]
   simp only [AS.apply]
   cases hd:o.dst with
   |none=>simp [AS.get_put_none,AS.get_wr]
   |some d=>
    rw [AS.get_put]
    simp only [ao,AS.get_wr]
    by_cases h:t=d
    .subst h;simp
    .rw [if_neg h,if_neg (fun e=>h e.symm)]
  have hrl:∀ r,(s'.apply o.dst (e k)).row r=rl e s (fW L k) ops.size r:=by
   intro r
   rw [FC hlt hLk fun j h1 h2 hj hk2=>haft j (hC k j r h1 h2 (fun hp=>hno k r hp.1 hk2) (.inl ⟨hk2,.inr hj⟩))]
   simp only [AS.apply]
   rw [AS.row_put,AS.row_wr]
   exact dA _ _ _ r (hrr r)
  obtain ⟨hdst,hstep⟩:=hst k o ho
  have hcount:tK ops.size (fW L k)<=fuel:=by
   have:=nU (L:=L) hlt hLk
   omega
  have next:∀ E' a',Sim G n (s'.apply o.dst (e k)) E' a'->Ext E E'->wpAnyIn BJ 0 P .any ops Q' fuel (listed.setIfInBounds k true) a' E'.w:=by
   intro E' a' i' x'
   refine ih _ (s'.apply o.dst (e k)) E' a' (by rw [hnew];exact hcount) (by simpa using hsz) (by rw [hnew];exact hpl) (by rw [hnew];exact hgl) (by rw [hnew];exact hrl) i' (x.trans x')
  unfold wpOpIn
  rw [ho]
  simp only
  have hwant:kP ops o s'=kP ops o (iZ D e s k):=vB hsee
  rcases hstep with ⟨hw,hop⟩|⟨hw,he,hF⟩
  .rw [<- hwant] at hw
   rw [if_pos (mN i hw)]
   have hop':EQ P G o.op (d8 G s'.get) s'.row (iZ D e s k).h.length (e k):=by
    by_cases hp:sf k/\L j0=true
    .obtain ⟨hk0,hL0⟩:=hp
     obtain ⟨ho1,ho2⟩:=hsoft k o hk0 ho
     have he:∀ x∈o.op.operands,d8 G s'.get x=d8 G (iZ D e s k).get x:=fun x hx=>DT fun t ht=>hsee t (D0 (ht ▸ hx))
     have hF:F k=RV o.op (d8 G (iZ D e s k).get):=by
      unfold OpC at hop
      rw [(ho1 _).1] at hop
      simp only [(ho1 _).2] at hop
      exact hop.2
     refine OpC.astep (fp:=F k) ?_
     unfold OpC
     rw [(ho1 _).1]
     simp only [(ho1 _).2]
     rw [EJ he,DQ he]
     refine ⟨u4 (ho2 _) (fun r hr=>hrow0 hk0 hL0 r (by rw [hF];exact hr)) (fun r hr=>?_),hF⟩
     rw [hwr0 k hk0] at hr
     cases hr
    .exact (hop.moved (ops:=ops) (g':=s'.get) (rows':=s'.row) hsee (hrow hp)).astep
   rw [<- i.rows] at hop'
   exact (ES i.inv i.eval hop' fun E' v x1 i1 e1 hv=>next E' _ (i.step hdst x1 i1 e1 hv) x1)
  .rw [<- hwant] at hw
   rw [if_neg (by rw [mN i hw];simp)]
   refine ⟨fun _ _=>trivial,next E _ ?_ (Ext.refl E)⟩
   rw [he]
   exact i.skip hdst
theorem xH {P:Program} {G:Nat->Option (List AV)} {n:Nat} {ops:Array Oper} {K:Option eV->AS->Prop} {S:AS->Prop} (l2:List Oper):∀ (l:List Oper) (s:AS) (acc:eV),
  bG P G n (fun m s1=>S s1/\bG P G n K (l2.map fun o=>(o.dst,o.op,o.guard.map fun p=>((ops[p.1]?).bind (·.dst),p.2))) m s1) (l.map fun o=>(o.dst,o.op,o.guard.map fun p=>((ops[p.1]?).bind (·.dst),p.2))) (some acc) s->
  ∃ (e:Nat->eL) (F:Nat->List Nat),(∀ i o,(l++l2)[i]? =some o->jO n o.dst/\pZ P G ops o (iZ (fun i=>((l++l2)[i]?).bind (·.dst)) e s i) (e i) (F i))/\K (some (oM F e (l++l2).length acc)) (iZ (fun i=>((l++l2)[i]?).bind (·.dst)) e s (l++l2).length)/\S (iZ (fun i=>((l++l2)[i]?).bind (·.dst)) e s l.length)
 | [],s,acc,h=>by
  obtain ⟨e,F,h1,h2⟩:=xI l2 s acc h.2
  exact ⟨e,F,h1,h2,h.1⟩
 | o :: rest, s, acc, h => by
  simp only [ay,bG] at h
  obtain ⟨hd,h⟩:=h
  have fin:∀ (e0:eL) (F0:List Nat),pZ P G ops o s e0 F0->
    bG P G n (fun m s1=>S s1/\bG P G n K (l2.map fun o=>(o.dst,o.op,o.guard.map fun p=>((ops[p.1]?).bind (·.dst),p.2))) m s1) (rest.map fun o=>(o.dst,o.op,o.guard.map fun p=>((ops[p.1]?).bind (·.dst),p.2))) (some ((F0,e0.wr.map (·.1))::acc)) (s.apply o.dst e0)->
    ∃ (e:Nat->eL) (F:Nat->List Nat),(∀ i o',(o::rest++l2)[i]? =some o'->jO n o'.dst/\pZ P G ops o' (iZ (fun i=>((o::rest++l2)[i]?).bind (·.dst)) e s i) (e i) (F i))/\
     K (some (oM F e (o::rest++l2).length acc)) (iZ (fun i=>((o::rest++l2)[i]?).bind (·.dst)) e s (o::rest++l2).length)/\S (iZ (fun i=>((o::rest++l2)[i]?).bind (·.dst)) e s (o::rest).length):=by
   intro e0 F0 hst hr
   obtain ⟨e,F,h1,h2,h3⟩:=xH l2 rest _ _ hr
   refine ⟨fun|0=>e0|i+1=>e i,fun|0=>F0|i+1=>F i,fun i o' ho=>?_,?_,?_⟩
   .cases i with
    |zero=>
     simp at ho
     subst ho
     exact ⟨hd,hst⟩
    |succ i=>
     have:=h1 i o' (by simpa using ho)
     rw [mP]
     exact this
   .rw [ar,af,mP,sD]
    exact h2
   .rw [af,mP]
    exact h3
  rw [<- oS] at h
  split at h
  .rename_i hw
   unfold MA at h
   split at h
   .obtain ⟨h0,_⟩:=h
    cases h0
   .obtain ⟨eff,fp,h1,h2⟩:=h
    exact fin eff fp (.inl ⟨hw,h1⟩) h2
  .rename_i hw
   exact fin ⟨.tup [],[]⟩ [] (.inr ⟨hw,rfl,rfl⟩) h
  .exact h.elim
theorem F7 {D:Nat->Option Tmp} {e:Nat->eL} {s:AS} {t:Tmp} (i:Nat):∀ d,(∀ j,i<=j->j<i+d->D j≠some t)->(iZ D e s (i+d)).get t=(iZ D e s i).get t
 |0,_=>rfl
 |d+1,h=>by
  show ((iZ D e s (i+d)).apply (D (i+d)) (e (i+d))).get t=_
  rw [<- F7 i d fun j h1 h2=>h j h1 (by omega)]
  have:=h (i+d) (by omega) (by omega)
  simp only [AS.apply]
  cases hd:D (i+d) with
  |none=>simp [AS.get_put_none,AS.get_wr]
  |some q=>
   rw [hd] at this
   rw [AS.get_put,if_neg (fun e=>this (by rw [e])),AS.get_wr]
theorem O7 {D:Nat->Option Tmp} {e:Nat->eL} {s:AS} {r:Nat} (i:Nat):∀ d,(∀ j,i<=j->j<i+d->¬ eW e j r)->(iZ D e s (i+d)).row r=(iZ D e s i).row r
 |0,_=>rfl
 |d+1,h=>by
  show ((iZ D e s (i+d)).apply (D (i+d)) (e (i+d))).row r=_
  rw [<- O7 i d fun j h1 h2=>h j h1 (by omega)]
  simp only [AS.apply]
  rw [AS.row_put,AS.row_wr]
  exact gI (h (i+d) (by omega) (by omega))
def reads:Op->Bool
 | .load _ (.tmp _)=>true
 | .nilCheck (.tmp _)=>true
 | .fieldAddr _ (.tmp _) _=>true
 |_=>false
def nK:Op->Tmp
 | .load _ (.tmp a)=>a
 | .nilCheck (.tmp a)=>a
 | .fieldAddr _ (.tmp a) _=>a
 |_=>0
theorem M7 {o:Op} (h:reads o=true):(∀ ev,fX o ev=none/\lO o ev=none)/\(∀ (P:Program) (g g':Nat->AV) (G:Nat->Option (List AV)) (rows:Nat->ARow) (nb nb':Nat),g' (nK o)=g (nK o)->pT P o (d8 G g') rows nb'=pT P o (d8 G g) rows nb)/\(∀ (P:Program) ev (rows:Nat->ARow) (nb:Nat) eff,pT P o ev rows nb=some eff->eff.wr=[]):=by
 unfold reads at h
 split at h
 .rename_i t a
  refine ⟨fun ev=>⟨rfl,rfl⟩,fun P g g' G rows nb nb' hg=>?_,fun P ev rows nb eff he=>?_⟩
  .simp only [nK] at hg
   simp only [pT,d8,hg]
  .simp only [pT,bw] at he
   obtain ⟨v,_,rfl⟩:=he
   rfl
 .rename_i a
  refine ⟨fun ev=>⟨rfl,rfl⟩,fun P g g' G rows nb nb' hg=>?_,fun P ev rows nb eff he=>?_⟩
  .simp only [nK] at hg
   simp only [pT,d8,hg]
  .simp only [pT,bw] at he
   obtain ⟨v,_,rfl⟩:=he
   rfl
 .rename_i t a f
  refine ⟨fun ev=>⟨rfl,rfl⟩,fun P g g' G rows nb nb' hg=>?_,fun P ev rows nb eff he=>?_⟩
  .simp only [nK] at hg
   simp only [pT,d8,hg]
  .simp only [pT,bw] at he
   obtain ⟨v,_,rfl⟩:=he
   rfl
 .cases h
def qX (P:Program) (G:Nat->Option (List AV)) (s1:AS):List nA->Prop
 | []=>True
 |p::l=>(match p.1 with
  |some d=>pT P p.2.1 (d8 G s1.get) s1.row 0=some ⟨s1.get d,[]⟩
  |none=>False)/\qX P G s1 l
theorem CG {P:Program} {G:Nat->Option (List AV)} {s1:AS}:∀ {l:List nA},qX P G s1 l->∀ p∈l,∃ d,p.1=some d/\pT P p.2.1 (d8 G s1.get) s1.row 0=some ⟨s1.get d,[]⟩
 | [],_,p,hp=>by cases hp
 |q::l,h,p,hp=>by
  rcases bn.1 hp with rfl|hp
  .have:=h.1
   split at this
   .rename_i d hd
    exact ⟨d,hd,this⟩
   .exact this.elim
  .exact CG h.2 p hp
def sR (ops:Array Oper) (ks:List Nat) (j0:Nat) (acc:eV):Bool:=
 let l:=acc.reverse
 ((List.range l.length).all fun j=>(List.range j).all fun i=>(ks.contains i&&decide (j=j0)) || (((pE ops).getD j 0).testBit i || match l[i]?,l[j]? with
  |some (fi,wi),some (fj,wj)=>GO wi fj&&GO wi wj&&GO wj fi
  |_,_=>true))&&
 ks.all fun i0=>(List.range j0).all fun j=>decide (j<i0) || match l[i0]?,l[j]? with
  |some (fi,_),some (_,wj)=>GO wj fi
  |_,_=>true
def aBc (ops:Array Oper) (ks:List Nat) (j0:Nat):Option eV->Prop
 |some acc=>sR ops ks j0 acc=true
 |none=>False
def T3 (ops : Array Oper) (ks : List Nat) (j0 : Nat) : Bool :=
 decide (j0<ops.size)&&ks.all fun i0=>decide (i0<j0)&&match ops[i0]? with
  |some o=>reads o.op&&(match o.guard with
   |none=>true
   |some _=>false)&&(match o.dst with
   |some d=>(List.range (j0+1)).all fun j=>decide (j<i0) || match (ops[j]?).bind (·.dst) with
    |some t=>decide (t≠nK o.op)&&(decide (j=i0) || decide (t≠d))
    |none=>true
   |none=>false)
  |none=>false
def pick (l:List nA) (ks:List Nat):List nA:=ks.filterMap fun i=>l[i]?
theorem n8 [i6] {k rid:Nat} {Q:Exit->AS->Prop} {s:AS} (ks:List Nat) (j0:Nat) (hm:P.follows .mixedOrders=true) (hs:jG ops=true) (hso:T3 ops ks j0=true)
  (h:bG P G n (fun m s1=>qX P G s1 (pick (fQ ops) ks)/\bG P G n (fun m s'=>aBc ops ks j0 m/\Q .normal s') ((fQ ops).drop (j0+1)) m s1) ((fQ ops).take (j0+1)) (some []) s):cG P G n k (.region rid ops true) Q s:=fun E a i=>by
 simp only [T3,ae,decide_eq_true_eq,cl] at hso
 obtain ⟨hj0,hks⟩:=hso
 have hload:∀ i0∈ks,i0<j0/\∃ o0 d,ops[i0]? =some o0/\reads o0.op=true/\o0.guard=none/\o0.dst=some d/\∀ j,i0<=j->j<j0+1->∀ t,(ops[j]?).bind (fun o:Oper=>o.dst)=some t->t≠nK o0.op/\(j=i0\/t≠d):=by
  intro i0 hi0
  obtain ⟨h1,h2⟩:=hks i0 hi0
  refine ⟨h1,?_⟩
  revert h2
  cases hq:ops[i0]? with
  |none=>intro h;cases h
  |some o0=>
   intro h2
   simp only [ae] at h2
   obtain ⟨⟨h3,h4⟩,h5⟩:=h2
   have h4':o0.guard=none:=by
    revert h4
    cases o0.guard with
    |none=>intro _;rfl
    |some _=>intro h;cases h
   revert h5
   cases hd:o0.dst with
   |none=>intro h;cases h
   |some d=>
    intro h5
    simp only [cl,gg,eg,decide_eq_true_eq] at h5
    refine ⟨o0,d,rfl,h3,h4',hd,fun j hj1 hj2 t ht=>?_⟩
    have:=h5 j hj2
    rw [ht] at this
    simp only [ae,eg,decide_eq_true_eq] at this
    rcases this with h|h
    .omega
    .exact h
 have hsplit:ops.toList=ops.toList.take (j0+1)++ops.toList.drop (j0+1):=(List.take_append_drop _ _).symm
 have h':bG P G n (fun m s1=>qX P G s1 (pick (fQ ops) ks)/\bG P G n (fun m s'=>aBc ops ks j0 m/\Q .normal s') ((ops.toList.drop (j0+1)).map fun o=>(o.dst,o.op,o.guard.map fun p=>((ops[p.1]?).bind (·.dst),p.2))) m s1) ((ops.toList.take (j0+1)).map fun o=>(o.dst,o.op,o.guard.map fun p=>((ops[p.1]?).bind (·.dst),p.2))) (some []) s:=by
  rw [List.map_drop,List.map_take]
  exact h
 obtain ⟨e,F,h1,h2,h3⟩:=xH (ops:=ops) (ops.toList.drop (j0+1)) (ops.toList.take (j0+1)) s [] h'
 rw [<- hsplit] at h1 h2 h3
 have htl:(ops.toList.take (j0+1)).length=j0+1:=by simp;omega
 rw [htl] at h3
 obtain ⟨h2,hQ⟩:=h2
 simp only [jG,cl,gg] at hs
 have hA:∀ (j:Nat) (o:Oper),ops[j]? =some o->∀ ed∈o.after,Region.binds .any ed=true->ed.on<j:=by
  intro j o ho ed he hb
  have:=hs j (cq.1 ho).1
  rw [ho] at this
  simp only [ae,Array.all_eq_true_iff_forall_mem] at this
  have:=this.1 ed he
  simpa [hb] using this
 have hM:=(rT hA ops.toList [] (fun j hj=>by simp at hj) (fun i o ho=>by simpa using ho))
 have hMl:(pE ops).length=ops.size:=by have:=hM.2;simpa [pE] using this
 have hbit:∀ i j,j<ops.size->((pE ops).getD j 0).testBit i=true->f6 ops i j:=fun i j hj hb=>hM.1 j (by unfold pE at hMl;omega) i hb
 have hB:∀ (i j:Nat) (oi oj:Oper),i<j->ops[i]? =some oi->ops[j]? =some oj->oi.apart ops oj=true\/f6 ops i j:=by
  intro i j oi oj hij hi hj
  have hlt:=(cq.1 hj).1
  have:=hs j hlt
  rw [hj] at this
  simp only [ae,cl,gg] at this
  have:=this.2 i hij
  rw [hi] at this
  simp only [eg] at this
  exact this.imp (fun h=>h) (hbit i j hlt)
 have hl:ops.toList.length=ops.size:=by simp
 rw [hl] at h2
 simp only [aBc,sR,ae,cl,gg,List.length_reverse,kM] at h2
 obtain ⟨h2,h4⟩:=h2
 have hC:∀ (i j r:Nat),i<j->j<ops.size->¬ (i∈ks/\j=j0)->(eW e i r/\(r∈F j\/eW e j r))\/(eW e j r/\(r∈F i\/eW e i r))->f6 ops i j:=by
  intro i j r hij hj hp hw
  have gi:=jF F e ops.size i (by omega)
  have gj:=jF F e ops.size j hj
  have:=h2 j hj i hij
  rw [gi,gj] at this
  simp only [eg,ae,decide_eq_true_eq,List.contains_iff_mem] at this
  rcases this with h|h|⟨⟨d1,d2⟩,d3⟩
  .exact absurd h hp
  .exact hbit i j hj h
  .exfalso
   rcases hw with ⟨w1,w2|w2⟩|⟨w1,w2|w2⟩
   .exact g7 d1 w1 w2
   .exact g7 d2 w1 w2
   .exact g7 d3 w1 w2
   .exact g7 d2 w2 w1
 have hlist:∀ (i:Nat) (o:Oper),ops[i]? =some o->ops.toList[i]? =some o:=fun i o ho=>by simpa using ho
 have hD:∀ j:Nat,(ops.toList[j]?).bind (fun o:Oper=>o.dst)=(ops[j]?).bind (fun o:Oper=>o.dst):=fun j=>by simp
 let D:Nat->Option Tmp:=fun i=>(ops.toList[i]?).bind (·.dst)
 have hone:∀ i0∈ks,(e i0).wr=[]/\∀ o,ops[i0]? =some o->(∀ ev,fX o.op ev=none/\lO o.op ev=none)/\∀ nb,pT P o.op (d8 G (iZ D e s i0).get) (upd (iZ D e s i0).row (e j0).wr) nb=some (e i0):=by
  intro i0 hi0
  obtain ⟨hij0,o0,d,ho0,hrd,hgd0,hdst0,hsl⟩:=hload i0 hi0
  obtain ⟨r1,r2,r3⟩:=M7 hrd
  obtain ⟨_,hst0⟩:=h1 i0 o0 (hlist i0 o0 ho0)
  have hw0:OpC P G o0.op (d8 G (iZ D e s i0).get) (iZ D e s i0).row (iZ D e s i0).h.length (F i0) (e i0):=by
   rcases hst0 with h|h
   .exact h.2
   .have:=h.1
    unfold kP at this
    rw [hgd0] at this
    cases this
  unfold OpC at hw0
  rw [(r1 _).1] at hw0
  simp only [(r1 _).2] at hw0
  obtain ⟨ha0,hF0⟩:=hw0
  have hwr0:=r3 _ _ _ _ _ ha0
  refine ⟨hwr0,fun o ho=>?_⟩
  rw [ho0] at ho
  injection ho with ho
  subst ho
  refine ⟨r1,fun nb=>?_⟩
  have hd0:D i0=some d:=by simp only [D,hD,ho0,ij,hdst0]
  have hgd:(iZ D e s (j0+1)).get d=(e i0).val:=by
   have e1:j0+1=i0+1+(j0 - i0):=by omega
   rw [e1,F7 (i0+1) (j0 - i0) fun j h1 h2 hjt=>by
    simp only [D,hD] at hjt
    rcases (hsl j (by omega) (by omega) d hjt).2 with h|h
    .omega
    .exact h rfl]
   show ((iZ D e s i0).apply (D i0) (e i0)).get d=_
   rw [hd0]
   simp only [AS.apply]
   rw [AS.get_put,if_pos rfl]
  have hga:(iZ D e s (j0+1)).get (nK o0.op)=(iZ D e s i0).get (nK o0.op):=by
   have e1:j0+1=i0+(j0+1 - i0):=by omega
   rw [e1]
   refine F7 i0 _ fun j h1 h2 hjt=>?_
   simp only [D,hD] at hjt
   exact (hsl j (by omega) (by omega) _ hjt).1 rfl
  obtain ⟨d',hd',hs1⟩:=CG h3 (o0.dst,o0.op,o0.guard.map fun p=>((ops[p.1]?).bind (·.dst),p.2)) (List.mem_filterMap.2 ⟨i0,hi0,by simp [fQ,ho0]⟩)
  simp only at hd' hs1
  rw [hdst0] at hd'
  injection hd' with hd'
  subst hd'
  have hs2:pT P o0.op (d8 G (iZ D e s i0).get) (iZ D e s (j0+1)).row nb=some (e i0):=by
   rw [<- r2 P _ _ G (iZ D e s (j0+1)).row nb 0 hga]
   refine hs1.trans ?_
   show some (eL.mk ((iZ D e s (j0+1)).get d) [])=some (e i0)
   rw [hgd]
   cases hq:e i0 with
   |mk v wr=>
    rw [hq] at hwr0
    simp only at hwr0
    subst hwr0
    rfl
  refine u4 hs2 (fun r hr=>?_) (fun r hr=>by rw [hwr0] at hr;cases hr)
  show _=((iZ D e s j0).apply (D j0) (e j0)).row r
  simp only [AS.apply]
  rw [AS.row_put,AS.row_wr]
  refine dA _ _ _ r ?_
  have e1:j0=i0+(j0 - i0):=by omega
  refine Eq.symm ?_
  rw [e1]
  refine O7 i0 _ fun j h5 h6 hw=>?_
  have:=h4 i0 hi0 j (by omega)
  have gi:=jF F e ops.size i0 (by omega)
  have gj:=jF F e ops.size j (by omega)
  rw [gi,gj] at this
  simp only [eg,decide_eq_true_eq] at this
  rcases this with h|h
  .omega
  .exact g7 h hw (by rw [hF0];exact hr)
 refine wpIn_region_any hm ?_
 have hst:=oX i.inv { E.w with drawn:=E.w.drawn+1 } E.S rfl rfl rfl (ap _) (fun b hb=>rfl) (fun b hb=>hb) (fun b hb=>.inl hb)
 have i1:Sim G n s ⟨{ E.w with drawn:=E.w.drawn+1 },E.S,E.ρ,E.rows⟩ a:=⟨hst.2,i.rows,i.sz,fun t=>(i.tm t).ext i.inv hst.1,i.df.ext hst.1⟩
 refine W6 (Q':=fun e a' w'=>∃ s' E',w'=E'.w/\ExtK k E E'/\Sim G n s' E' a'/\Q e s') (n:=n) (s:=s) (E0:=⟨{ E.w with drawn:=E.w.drawn+1 },E.S,E.ρ,E.rows⟩) (e:=e) (F:=F) (D:=fun i=>(ops.toList[i]?).bind (·.dst))
  (fun i o ho=>by simp only [hlist i o ho,ij]) (fun i hi=>by
   have:ops.toList[i]? =none:=by simpa using hi
   simp only [this,Option.bind_none]) (fun i o ho=>h1 i o (hlist i o ho)) hA hB (fun i=>i∈ks) j0 (fun i hi=>(hload i hi).1) hj0 (fun i hi=>(hone i hi).1) (fun i o hi ho=>(hone i hi).2 o ho) hC ?_
  ops.size (Array.replicate ops.size false) s ⟨{ E.w with drawn:=E.w.drawn+1 },E.S,E.ρ,E.rows⟩ a ?_ (by simp) ?_ ?_ ?_ i1 (Ext.refl _)
 .intro s' E' a' hg hr hsim x
  rw [hl] at hQ
  exact ⟨_,E',rfl,(hst.1.trans x).toK k,hsim.congr hg.symm hr.symm,hQ⟩
 .have:=List.countP_le_length (p:=fun i=> !(Array.replicate ops.size false).getD i false) (l:=List.range ops.size)
  simpa [tK] using this
 .intro j o _ hj
  simp [io] at hj
  split at hj<;>simp at hj
 .intro t
  rw [DM (az _) (fun j hj=>by omega) (fun j _ _ _=>by simp [io];split<;>rfl)]
  rfl
 .intro r
  rw [yB (D:=fun _=>none) (az _) (fun j hj=>by omega) (fun j _ _ _=>by simp [io];split<;>rfl)]
  rfl
end
end Go.AM
namespace Go.AM
def uF (a b r:Nat):Nat:=if r=a then b else if r=b then a else r
theorem wO (a b r:Nat):uF a b (uF a b r)=r:=by
 unfold uF
 split
 .rename_i h;subst h
  split
  .rename_i h;exact h
  .simp
 .split
  .rename_i h;subst h;simp
  .rename_i h1 h2;simp [h1,h2]
theorem X9 {a b r r':Nat} (h:uF a b r=uF a b r'):r=r':=by rw [<- wO a b r,h,wO]
theorem SU {a b r:Nat} (h1:r≠a) (h2:r≠b):uF a b r=r:=by simp [uF,h1,h2]
def iF (a b:Nat) (E:En):En:=⟨E.w,E.S,fun r=>E.ρ (uF a b r),fun r=>E.rows (uF a b r)⟩
theorem QE (a b:Nat) (E:En):iF a b (iF a b E)=E:=by
 obtain ⟨w,S,ρ,rows⟩:=E
 simp only [iF,wO]
def sV (a b:Nat):Nat->Bool:=fun q=>decide (q≠a)&&decide (q≠b)
theorem rN (a b:Nat) (E:En):eY (sV a b) E (iF a b E):=by
 have key:∀ r,sV a b r=true->uF a b r=r:=fun r h=>by
  simp only [sV,ae,decide_eq_true_eq] at h
  exact SU h.1 h.2
 refine ⟨rfl,fun _ h=>h,fun r hr=>.inl ?_,fun r hr _=>?_⟩
 .show E.rows (uF a b r)=_
  rw [key r hr]
 .show E.ρ (uF a b r)=_
  rw [key r hr]
theorem I1 {G:Nat->Option (List AV)} {a b:Nat} {E:En} (hG:∀ g cs,G g=some cs->aP aE cs=true) (i:Inv G E) (h:∀ r,aG (sV a b) (E.rows r)=true):Inv G (iF a b E):=by
 have ag:=rN a b E
 refine ⟨fun r=>?_,fun r r' h1 h2 hne=>i.inj (uF a b r) (uF a b r') h1 h2 (fun e=>hne (X9 e)),i.sb,fun g cs hg=>?_⟩
 .have h0:=i.row (uF a b r)
  have hin:=h (uF a b r)
  unfold RowOK at h0 ⊢
  show match E.rows (uF a b r) with
   |_=>_
  simp only [iF]
  cases hrr:E.rows (uF a b r) with
  |none=>trivial
  |dead=>trivial
  |cells ver cs=>
   rw [hrr] at h0 hin
   obtain ⟨cur,e,vs,a1,a2,a3,a4⟩:=h0
   exact ⟨cur,e,vs,a1,a2,a3.agree ag hin,a4⟩
  |map ks vs=>
   rw [hrr] at h0 hin
   simp only [aG,ae] at hin
   obtain ⟨es,clock,a1,a2,a3,a4,a5⟩:=h0
   exact ⟨es,clock,a1,a2,a3,a4.agree ag hin.1,a5.agree ag hin.2⟩
  |iter ks vs l j=>
   rw [hrr] at h0 hin
   simp only [aG,ae] at hin
   obtain ⟨mb,es,clock,since,seen,a1,a2,a3,a4,a5,a6,a7,a8,a9⟩:=h0
   exact ⟨mb,es,clock,since,seen,a1,a2,a3,a4,a5,a6,a7.agree ag hin.1,a8.agree ag hin.2,a9⟩
  |loop st pend fr ps asg body=>
   rw [hrr] at h0 hin
   obtain ⟨fn,tm,D,a1,a2,a3⟩:=h0
   exact ⟨fn,tm,D,a1,a2,a3.agree ag hin⟩
 .obtain ⟨vs,a1,a2,a3⟩:=i.glob g cs hg
  exact ⟨vs,a1,a2.agree ag (b7 (fun r hr=>by cases hr) (hG g cs hg)),a3⟩
theorem SV {a b:Nat} {E E':En} (x:Ext E E'):Ext (iF a b E) (iF a b E'):=by
 refine ⟨x.os,x.tape,x.output,x.sz,x.sub,fun q hq hl=>x.out q hq fun r hr=>?_,fun r h=>x.dead _ h,fun r ver cs h=>x.cells _ ver cs h,fun r h=>x.map _ h,fun r h=>x.fresh _ h⟩
 have:=hl (uF a b r)
 simp only [iF,wO] at this
 exact this hr
def NQ (fq:List Nat) (a b:Nat):List AV->List AV->Prop
 | [],[]=>True
 |x::xs,y::ys=>((x=y/\aI (fun r=>fq.contains r) x=true)\/∃ ver off n sz f,x=.osl a ver off n sz f/\y=.osl b ver off n sz f)/\NQ fq a b xs ys
 |_,_=>False
def M5 (a b:Nat) (wr:List (Nat × ARow)):List (Nat × ARow):=wr.map fun p=>(if p.1=a then b else p.1,p.2)
theorem NW {a b:Nat} {fq:List Nat} (ha:a ∉ fq) (hb:b ∉ fq):∀ (wr:List (Nat × ARow)) (rows rows':Nat->ARow),(∀ p∈wr,p.1∈a::fq)->rows a=rows' b->(∀ r∈fq,rows r=rows' r)->upd rows' (M5 a b wr) b=upd rows wr a/\∀ r∈fq,upd rows' (M5 a b wr) r=upd rows wr r
 | [],_,_,_,h1,h2=>⟨h1.symm,fun r hr=>(h2 r hr).symm⟩
 | p :: wr, rows, rows', h, h1, h2 => by
  simp only [M5,ay,upd]
  refine NW ha hb wr _ _ (fun q hq=>h q (by simp [hq])) ?_ ?_
  .by_cases hp:p.1=a
   .simp [hp]
   .have hm:p.1∈fq:=by
     rcases bn.1 (h p (by simp)) with h|h
     .exact absurd h hp
     .exact h
    have hpb:p.1≠b:=fun e=>hb (e ▸ hm)
    simp [hp,Ne.symm hp,Ne.symm hpb,h1]
  .intro r hr
   have hra:r≠a:=fun e=>ha (e ▸ hr)
   have hrb:r≠b:=fun e=>hb (e ▸ hr)
   by_cases hp:p.1=a
   .simp [hp,hra,hrb,h2 r hr]
   .simp [hp,h2 r hr]
theorem RB {P:Program} {G:Nat->Option (List AV)} {f:FuncId} {args args':List AV} {rows rows':Nat->ARow} {fq:List Nat} {a b:Nat} {val:AV} {wr:List (Nat × ARow)} (hG:∀ g cs,G g=some cs->aP aE cs=true)
  (h:c8 P G f args rows (a::fq) ⟨val,wr⟩) (ha:a ∉ fq) (hb:b ∉ fq) (h1:rows a=rows' b) (h2:∀ r∈fq,rows r=rows' r) (hin:∀ r∈b::fq,aG (fun r=>fq.contains r) (rows' r)=true)
  (hargs:NQ fq a b args args') (hval:aI (fun r=>fq.contains r) val=true) (hend:∀ r∈a::fq,aG (fun r=>fq.contains r) (upd rows wr r)=true):c8 P G f args' rows' (b::fq) ⟨val,M5 a b wr⟩:=by
 obtain ⟨hgo,hwr,hc⟩:=h
 have hwr':∀ p∈M5 a b wr,p.1∈b::fq:=by
  intro p hp
  obtain ⟨q,hq,rfl⟩:=cf.1 hp
  have:=hwr q hq
  simp only
  split
  .simp
  .rename_i hne
   rcases bn.1 this with h|h
   .exact absurd h hne
   .simp [h]
 refine ⟨hgo,hwr',fun E us i hE hus=>?_⟩
 obtain ⟨m,hm⟩:∃ m,∀ r∈b::fq,r<m:=by
  have:∀ l:List Nat,∃ m,∀ r∈l,r<m:=fun l=>by
   induction l with
   |nil=>exact ⟨0,fun r h=>by cases h⟩
   |cons x l ih=>
    obtain ⟨m,hm⟩:=ih
    exact ⟨max m (x+1),fun r hr=>by
     rcases bn.1 hr with rfl|hr
     .omega
     .have:=hm r hr;omega⟩
  exact this _
 let H:List ARow:=(List.range m).map fun r=>if r∈b::fq then rows' r else .dead
 have hHl:H.length=m:=by simp [H]
 have hHg:∀ r,H.getD r .none=if r<m then (if r∈b::fq then rows' r else .dead) else .none:=fun r=>by
  simp only [H,bc,bh]
  by_cases hr:r<m
  .rw [List.getElem?_range hr];simp [hr]
  .rw [d5 (by simpa using hr)];simp [hr]
 have hlt:∀ r,fq.contains r=true->decide (r<H.length)=true:=fun r hr=>by rw [hHl];simp at hr;simpa using hm r (by simp [hr])
 have ok:BB G H rows' (b::fq):=by
  refine ⟨hG,fun r hr=>?_,fun r hr=>?_,fun r hr=>bJ hlt (hin r hr),fun r hr h=>?_⟩
  .rw [hHg,if_pos (hm r hr),if_pos hr]
  .rw [hHg,hHl,if_neg hr]
  .rw [hHl] at h
   exact absurd (hm r hr) (by omega)
 obtain ⟨ic,ag,hrowfp,hcl⟩:=tV ok i hE
 have hoff:∀ r,fq.contains r=true->sV a b r=true:=fun r hr=>by
  have hr:r∈fq:=by simpa using hr
  simp only [sV,ae,decide_eq_true_eq]
  exact ⟨fun e=>ha (e ▸ hr),fun e=>hb (e ▸ hr)⟩
 have hcin:∀ r,aG (sV a b) ((cut E H).rows r)=true:=fun r=>by
  show aG (sV a b) (H.getD r .none)=true
  rw [hHg]
  split
  .split
   .rename_i hr;exact bJ hoff (hin r hr)
   .rfl
  .rfl
 have is:=I1 hG ic hcin
 have ags:=rN a b (cut E H)
 have hsa:uF a b a=b:=by simp [uF]
 have hsb:uF a b b=a:=by
  unfold uF
  split
  .rename_i h;exact h
  .simp
 have hsq:∀ r∈fq,uF a b r=r:=fun r hr=>SU (fun e=>ha (e ▸ hr)) (fun e=>hb (e ▸ hr))
 have hEs:∀ r∈a::fq,(iF a b (cut E H)).rows r=rows r:=by
  intro r hr
  rcases bn.1 hr with rfl|hr
  .show H.getD (uF r b r) .none=_
   rw [hsa,ok.eqs b (by simp),h1]
  .show H.getD (uF a b r) .none=_
   rw [hsq r hr,ok.eqs r (by simp [hr]),h2 r hr]
 have hus' : RelL (iF a b (cut E H)) args us := by
  have key:∀ (xs ys:List AV) (us:List Value),NQ fq a b xs ys->RelL E ys us->RelL (iF a b (cut E H)) xs us:=by
   intro xs
   induction xs with
   |nil=>intro ys us h hr;cases ys with
    |nil=>simpa only [RelL] using hr
    |cons=>exact h.elim
   |cons x xs ih=>
    intro ys us h hr
    cases ys with
    |nil=>exact h.elim
    |cons y ys=>
     simp only [RelL] at hr ⊢
     obtain ⟨v,rest,e,r1,r2⟩:=hr
     refine ⟨v,rest,e,?_,ih ys rest h.2 r2⟩
     rcases h.1 with ⟨rfl,hx⟩|⟨ver,off,n,sz,fl,rfl,rfl⟩
     .exact (r1.agree ag (gE hlt hx)).agree ags (gE hoff hx)
     .have r1':=r1.agree ag (by simp only [aI];rw [hHl];simpa using hm b (by simp))
      simp only [Rel] at r1' ⊢
      simp only [iF,hsa]
      exact r1'
  exact key _ _ _ hargs hus
 refine Calls.mono (hc (iF a b (cut E H)) us is hEs hus') ?_
 rintro e w' ⟨v,Es',rfl,rfl,rv,xs,is',hrows'⟩
 have hcin':∀ r,aG (sV a b) (Es'.rows r)=true:=fun r=>by
  rw [hrows']
  by_cases hr:r∈a::fq
  .rw [dA wr _ rows r (hEs r hr)]
   exact bJ hoff (hend r hr)
  .rw [gW wr _ r fun p hp e=>hr (e ▸ hwr p hp)]
   exact hcin _
 have ic':=I1 (a:=a) (b:=b) hG is' hcin'
 have xc:Ext (cut E H) (iF a b Es'):=by
  have:=SV (a:=a) (b:=b) xs
  rw [QE] at this
  exact this
 have hup:=NW ha hb wr rows rows' hwr h1 h2
 obtain ⟨E',c1,c2,c3,c4,c5⟩:=tW (eff:=⟨val,M5 a b wr⟩) ok i hE hwr' (xc.toK H.length) ic' (fun r hr=>by
  have hcon:∀ q,fq.contains q=true->(b::fq).contains q=true:=fun q hq=>by simp at hq ⊢;exact .inr hq
  show Es'.rows (uF a b r)=_/\aG _ (Es'.rows (uF a b r))=true
  rw [hrows']
  rcases bn.1 hr with rfl|hr
  .rw [hsb,dA wr _ rows a (hEs a (by simp))]
   exact ⟨hup.1.symm,bJ hcon (hend a (by simp))⟩
  .rw [hsq r hr,dA wr _ rows r (hEs r (by simp [hr]))]
   exact ⟨(hup.2 r hr).symm,bJ hcon (hend r (by simp [hr]))⟩) (gE (fun q hq=>by simp at hq ⊢;exact .inr hq) hval) (rv.agree (rN a b Es') (gE hoff hval))
 exact ⟨v,E',rfl,c1,c2,c3,c4,c5⟩
end Go.AM
namespace Go.AM
theorem yG {E:En} {r ver n sz:Nat} {cs:List AV} (hE:E.rows r=.cells ver cs) {post:List AV}:∀ {pre:List AV} {us:List Value},RelL E (pre++.osl r ver 0 n sz false::post) us->RelL E (pre++.osl r ver 0 n sz true::post) us\/RelL E (pre++.rsl r ver 0 n sz::post) us
 | [],us,h=>by
  simp only [ba,RelL] at h ⊢
  obtain ⟨u,rest,rfl,h1,h2⟩:=h
  simp only [Rel,hE,RefOK] at h1
  obtain ⟨o,_,h1⟩:=h1
  obtain ⟨cap,cur,e,q1,q2,q3,q4,q5,q6⟩:=h1 trivial
  by_cases hcap:cap=n
  .exact .inl ⟨u,rest,rfl,by simp only [Rel,hE,RefOK];exact ⟨o,ap _,fun _=>⟨cap,cur,e,q1,q2,q3,fun _=>hcap,q5,q6⟩⟩,h2⟩
  .exact .inr ⟨u,rest,rfl,by simp only [Rel,hE,RefOK];exact ⟨o,ap _,fun _=>⟨cap,cur,e,q1,q2,q3,by omega,q5,q6⟩⟩,h2⟩
 |a::pre,us,h=>by
  simp only [ar,RelL] at h ⊢
  obtain ⟨u,rest,rfl,h1,h2⟩:=h
  rcases yG hE h2 with h3|h3
  .exact .inl ⟨u,rest,rfl,h1,h3⟩
  .exact .inr ⟨u,rest,rfl,h1,h3⟩
theorem KW {P:Program} {G:Nat->Option (List AV)} {f:FuncId} {pre post:List AV} {r ver n sz:Nat} {cs:List AV} {rows:Nat->ARow} {fp:List Nat} {v:AV} {wr1 wr2 wr:List (Nat × ARow)}
  (h1:c8 P G f (pre++.osl r ver 0 n sz true::post) rows fp ⟨v,wr1⟩) (h2:c8 P G f (pre++.rsl r ver 0 n sz::post) rows fp ⟨v,wr2⟩) (hr:r∈fp) (hrow:rows r=.cells ver cs) (hw:∀ p∈wr,p.1∈fp)
  (c1:∃ c,upd rows wr1 r=.cells ver c/\c.take cs.length=cs) (c2:∃ c,upd rows wr2 r=.cells ver c/\c.take cs.length=cs)
  (e1:∀ q∈fp,q≠r->upd rows wr1 q=upd rows wr q) (e2:∀ q∈fp,q≠r->upd rows wr2 q=upd rows wr q) (er:upd rows wr r=.cells ver cs):c8 P G f (pre++.osl r ver 0 n sz false::post) rows fp ⟨v,wr⟩:=by
 obtain ⟨hgo,w1,k1⟩:=h1
 obtain ⟨_,w2,k2⟩:=h2
 refine ⟨hgo,hw,fun E us i hE hus=>?_⟩
 have hEr:E.rows r=.cells ver cs:=(hE r hr).trans hrow
 have fin:∀ (wr':List (Nat × ARow)),(∀ p∈wr',p.1∈fp)->(∃ c,upd rows wr' r=.cells ver c/\c.take cs.length=cs)->(∀ q∈fp,q≠r->upd rows wr' q=upd rows wr q)->∀ (e:Ending) (w':World),(∃ u E',e=.returned u/\w'=E'.w/\Rel E' v u/\Ext E E'/\Inv G E'/\E'.rows=upd E.rows wr')->
   ∃ u E',e=.returned u/\w'=E'.w/\Rel E' v u/\Ext E E'/\Inv G E'/\E'.rows=upd E.rows wr:=by
  rintro wr' hw' ⟨c,hc1,hc2⟩ he e w' ⟨u,E',a1,a2,a3,a4,a5,a6⟩
  have hx2:=O9 a5 (r:=r) (ver:=ver) (c:=c) (cs:=cs) (by rw [a6,dA wr' _ rows r (hE r hr),hc1]) hc2
  refine ⟨u,⟨E'.w,E'.S,E'.ρ,upd E'.rows [(r,.cells ver cs)]⟩,a1,a2,a3.ext a5 hx2.1,a4.trans hx2.1,hx2.2,?_⟩
  funext q
  show upd E'.rows [(r,.cells ver cs)] q=_
  rw [fC]
  by_cases hq:q=r
  .subst hq
   rw [if_pos rfl,dA wr _ rows q (hE q hr),er]
  .rw [if_neg hq,a6]
   by_cases hm:q∈fp
   .rw [dA wr' _ rows q (hE q hm),dA wr _ rows q (hE q hm),he q hm hq]
   .rw [gW wr' _ q fun p hp e=>hm (e ▸ hw' p hp),gW wr _ q fun p hp e=>hm (e ▸ hw p hp)]
 rcases yG hEr hus with hl|hl
 .exact (k1 E us i hE hl).mono fun e w' hh=>fin wr1 w1 c1 e1 e w' hh
 .exact (k2 E us i hE hl).mono fun e w' hh=>fin wr2 w2 c2 e2 e w' hh
end Go.AM
namespace Go.AM
theorem C2 {P:Program} {G:Nat->Option (List AV)} {r:Nat} {args targs:List AV} {rows:Nat->ARow} {fp:List Nat} {eff:eL} (lfp:List Nat) (h:wI P G r targs rows fp eff) (hl:sE rows lfp args targs) (hd:∀ q∈fp,q ∉ lfp):
  wI P G r args rows (fp++lfp) ⟨eff.val,eff.wr++lfp.map fun q=>(q,.dead)⟩:=by
 obtain ⟨hrf,hob,hwr,hc⟩:=h
 refine ⟨gu _ hrf,hob,fun p hp=>?_,fun E us i hE hus=>?_⟩
 .rcases bo.1 hp with hp|hp
  .exact gu _ (hwr p hp)
  .obtain ⟨q,hq,rfl⟩:=cf.1 hp
   exact gm _ hq
 .have hEl:∀ q∈lfp,E.rows q=rows q:=fun q hq=>hE q (gm _ hq)
  obtain ⟨fn,tmps,asg,body,a,b⟩:=hc (cZ E lfp) us (uV i) (fun q hq=>by
   simp only [cZ,if_neg (hd q hq)]
   exact hE q (gu _ hq)) (uU i hEl hl hus)
  refine ⟨fn,tmps,asg,body,a,b.mono fun e w' hr=>?_⟩
  obtain ⟨v,E1,rfl,rfl,h3,h4,h5,h6⟩:=hr
  refine ⟨v,E1,rfl,rfl,h3,uW.trans h4,h5,?_⟩
  rw [h6,EW]
  funext q
  rw [nG (fun _=>.dead)]
  by_cases hm:q∈lfp
  .rw [if_pos hm,gW _ _ _ fun p hp e=>hd p.1 (hwr p hp) (e ▸ hm)]
   simp [cZ,hm]
  .rw [if_neg hm]
   exact dA _ _ _ _ (by simp [cZ,hm])
theorem qL {P:Program} {G:Nat->Option (List AV)} {n:Nat} {K:Option eV->AS->Prop} {d:Option Tmp} {rest:List nA} {m:Option eV} {s:AS} {args:List AV} {r:Nat}:bL P G n K d rest m s args (.yld r)=ZV P G n K d rest m s r args:=rfl
theorem gH {rows:Nat->ARow} {r r' r'' i:Nat} {x y z:ARow}:upd rows [(r,x),(r',y),(r'',z)] i=if i=r'' then z else if i=r' then y else if i=r then x else rows i:=rfl
theorem JW {s:AS} {r r' r'':Nat} {x y z:ARow}:(s.wr [(r,x),(r',y),(r'',z)]).h=eD (eD (eD s.h r x) r' y) r'' z:=rfl
theorem VD {P:Program} {G:Nat->Option (List AV)} {n:Nat} {K:Option eV->AS->Prop} {d:Option Tmp} {rest:List nA} {m:Option eV} {fp:List Nat} {s:AS} {t u:TypeId} {sz by':Nat} {x:AV} {rows:Nat->ARow} {nb r ver len:Nat} {new cs:List AV} (ht:u3 P t u=some (sz,by')) (hr:aU rows r ver=some cs) (hn:len*sz<=cs.length) (hs:cW sz x rows=some (1,new))
  (hk:bG P G n K rest (lM m fp [r]) ((s.wr [(r,.cells ver (cs.take (len*sz)++new++cs.drop ((len+1)*sz)))]).put d (.osl r ver 0 (len+1) sz false))):bW P G n K d rest m fp s (eP P t u (.rsl r ver 0 len sz) x rows nb):=by
 rw [lI ht _ hs]
 simp only [hr]
 rw [if_pos ⟨trivial,trivial,trivial,hn⟩]
 exact hk
end Go.AM
namespace Go.AM
theorem PC:∀ {H:List ARow} {r:Nat} {x:ARow},r<H.length->H.getD r .none=x->eD H r x=H
 | [],_,_,h,_=>by cases h
 |a::H,0,x,_,h=>by simp only [List.getD_cons_zero] at h;subst h;rfl
 |a::H,r+1,x,h,g=>by
  simp only [eD]
  rw [PC (by simpa using h) (by simpa using g)]
section
variable {P:Program} {G:Nat->Option (List AV)} {n:Nat} {K:Option eV->AS->Prop} {d:Option Tmp} {rest:List nA} {fp:List Nat} {s:AS} {t u:TypeId} {sz by' nb:Nat} {x:AV} {rows:Nat->ARow}
def rvN (v:Nat) (app:List (List AV)):Nat:=if app=[] then 0 else v+1
theorem YT {r v:Nat} {app es:List (List AV)} (ht:u3 P t u=some (sz,by')) (hr:rows r=eX v app) (hr0:s.row r=eX v app) (hlt:r<s.h.length) (hsz:∀ e∈app,e.length=sz) (hs:cW sz x rows=some (es.length,es.flatten)) (hb:(app.length+es.length)*(by'+1)<=140737488355328)
  (hk:bG P G n K rest none ((s.wr [(r,eX (rvN v app) (app++es))]).put d (rv r (rvN v app) sz (app++es)))):bW P G n K d rest none fp s (eP P t u (rv r v sz app) x rows nb):=by
 by_cases he:es=[]
 .subst he
  by_cases ha:app=[]
  .subst ha
   refine YU rfl ht hs ?_
   have:s.wr [(r,eX (rvN v []) ([]++[]))]=s:=by
    show AS.mk s.fr (eD s.h r .none)=s
    rw [PC hlt (show s.h.getD r .none=.none from hr0)]
   rw [this] at hk
   exact hk
  .have hrv:rv r v sz app=.osl r v 0 app.length sz false:=if_neg ha
   have hr':rows r=.cells v app.flatten:=by rw [hr];exact if_neg ha
   rw [hrv]
   refine lV (mm:=0) (new:=[]) (cs:=app.flatten) ht hr' (dE hsz) hs hb ?_
   simp only [rv,eX,rvN,br,if_neg ha] at hk ⊢
   exact hk
 .refine cL (m:=none) ht hr rfl hsz hs he hb ?_
  exact hk
end
end Go.AM
namespace Go.AM
theorem zW {F:AV->AV->Prop} (h:∀ a,F a a):∀ l:List AV,FrzLF F l l
 | []=>trivial
 |a::l=>⟨h a,zW h l⟩
theorem DP {F:AV->AV->Prop} (h:∀ a,F a a) {x y:AV} (hx:F x y) (post:List AV):∀ pre:List AV,FrzLF F (pre++x::post) (pre++y::post)
 | []=>⟨hx,zW h post⟩
 |a::l=>⟨h a,DP h hx post l⟩
theorem TH [i6] {G:Nat->Option (List AV)} {n k:Nat} {s:AS} {r b ver vb m sz:Nat} {bb:Bool} {L:List (List AV)} {pre post:List AV} (hb:s.row b=.cells vb (pre++.osl r ver 0 m sz bb::post)) (hr:s.row r=.cells ver L.flatten) (hm:L.length=m) (hsz:∀ e∈L,e.length=sz) (hbr:b≠r)
  {s':AS} (hf:s'.fr=s.fr) (hs:∀ q,s'.row q=if q=b then .cells vb (pre++.sl false L::post) else if q=r then .dead else s.row q):Ref G n k s s':=fun E a i=>by
 refine i.freezeF [r] (fun x y=>y=x\/(x=.osl r ver 0 m sz bb/\y=.sl false L)) ?_ (fun t=>.inr (.inl (by show s'.fr.getD t .undef=s.fr.getD t .undef;rw [hf]))) fun q=>?_
 .rintro E' ag hS x y u (rfl|⟨rfl,rfl⟩) hx
  .exact hx.agree ag (lB y)
  .have hr':E.rows r=.cells ver L.flatten:=by rw [i.rows];exact hr
   have hc:aU E.rows r ver=some L.flatten:=by simp [aU,hr']
   obtain ⟨cap,cur,e,rfl,a1,a2,a3,a4,a5⟩:=kZ hc hx
   obtain ⟨cur',e',vs,k1,k2,k3,k4,k5⟩:=kV i.inv hc
   have r1:=j2 (b:=E.ρ r) (off:=0) k2 k5 hsz
   simp only [Rel]
   refine ⟨some ⟨E.ρ r,0,none⟩,cap,by rw [hm],by omega,a2,by simp,by simp,E.ρ r,0,sz,.inr ⟨rfl,hS r (by simp) (by rw [hr'];rfl)⟩,r1.agree ag (zL L)⟩
 .rw [hs q]
  by_cases hqb:q=b
  .subst hqb
   rw [if_pos rfl,hb]
   exact .inr ⟨.inl (by simpa using hbr),.inr ⟨vb,_,_,rfl,rfl,DP (fun a=>.inl rfl) (.inr ⟨rfl,rfl⟩) post pre⟩⟩
  .rw [if_neg hqb]
   by_cases hqr:q=r
   .subst hqr
    rw [if_pos rfl,hr]
    exact .inl ⟨by simp,rfl,by simp⟩
   .rw [if_neg hqr]
    exact .inr ⟨.inl (by simpa using hqr),.inl rfl⟩
end Go.AM
