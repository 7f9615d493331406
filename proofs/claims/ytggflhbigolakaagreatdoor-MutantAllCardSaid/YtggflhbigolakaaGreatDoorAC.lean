import Derived.Test.YtggflhbigolakaaGreatDoorAB
set_option linter.unusedVariables false
set_option linter.unusedSimpArgs false
namespace Go.AM
theorem RefOK.imp {row:ARow} {ver:Nat} {p p':Prop} (h:RefOK row ver p) (hp:row.live=true->p->p'):RefOK row ver p':=by
 cases row with
 |none=>exact h.elim
 |dead=>trivial
 |cells c cs=>exact ⟨h.1,fun e=>hp rfl (h.2 e)⟩
 |map ks vs=>exact ⟨h.1,hp rfl h.2⟩
 |iter ks vs l j=>exact ⟨h.1,hp rfl h.2⟩
 |loop st pend fr ps asg body=>exact ⟨h.1,hp rfl h.2⟩
def EO (E:En) (b:Nat):Prop:=E.S b\/∃ r,(E.rows r).live=true/\E.ρ r=b
mutual
theorem Rel.heap {E:En} {w':World} (h:∀ b,EO E b->w'.heap[b]? =E.w.heap[b]?):∀ {c:AV} {v:Value},Rel E c v->Rel ⟨w',E.S,E.ρ,E.rows⟩ c v
 | .undef,_,_=>by simp [Rel]
 | .bool b,_,g=>by simpa only [Rel] using g
 | .int k n,_,g=>by simpa only [Rel] using g
 | .str s,_,g=>by simpa only [Rel] using g
 | .agg cs,_,g=>by
  simp only [Rel] at g ⊢
  obtain ⟨vs,h1,h2,h3⟩:=g
  exact ⟨vs,h1,RelL.heap h h2,h3⟩
 | .tup cs,_,g=>by
  simp only [Rel] at g ⊢
  obtain ⟨vs,h1,h2⟩:=g
  exact ⟨vs,h1,RelL.heap h h2⟩
 | .sl full es,_,g=>by
  simp only [Rel] at g ⊢
  obtain ⟨p,cap,h1,h2,h3,h4,h5,b,off,sz,h6,h7⟩:=g
  refine ⟨p,cap,h1,h2,h3,h4,h5,b,off,sz,h6,?_⟩
  rcases h6 with h6|⟨_,s⟩
  .subst h6;simp [RelE]
  .exact RelE.heap h s h7
 | .osl r ver off n sz full,v,g=>by
  simp only [Rel] at g ⊢
  exact ⟨g.1,g.2.imp fun hl ⟨cap,cur,e,a1,a2,a3,a4,a5,a6⟩=>⟨cap,cur,e,a1,a2,a3,a4,by rw [h _ (.inr ⟨r,hl,rfl⟩)];exact a5,a6⟩⟩
 | .rsl r ver off n sz,v,g=>by
  simp only [Rel] at g ⊢
  exact ⟨g.1,g.2.imp fun hl ⟨cap,cur,e,a1,a2,a3,a4,a5,a6⟩=>⟨cap,cur,e,a1,a2,a3,a4,by rw [h _ (.inr ⟨r,hl,rfl⟩)];exact a5,a6⟩⟩
 | .rsv _,v,g=>by simpa only [Rel] using g
 | .ptr r ver off,v,g=>by simpa only [Rel] using g
 | .imm cs,_,g=>by
  simp only [Rel] at g ⊢
  obtain ⟨b,off,vs,h1,h2,h3,h4⟩:=g
  exact ⟨b,off,vs,h1,h2,RelL.heap h h3,h4.of_block (h b (.inl h2))⟩
 | .nilptr,_,g=>by simpa only [Rel] using g
 | .mp ks vs,_,g=>by
  simp only [Rel] at g ⊢
  rcases g with g|⟨b,es,clock,h1,h2,h3,h6,el,h7,h4,h5⟩
  .exact .inl g
  .exact .inr ⟨b,es,clock,h1,h2,by rw [h b (.inl h2)];exact h3,h6,el,h7,RelL.heap h h4,RelL.heap h h5⟩
 | .omp r,v,g=>by simpa only [Rel] using g
 | .yld r,v,g=>by simpa only [Rel] using g
 | .fn f first cap,_,g=>by
  simp only [Rel] at g ⊢
  obtain ⟨a,b,h1,h2,h3⟩:=g
  exact ⟨a,b,h1,RelL.heap h h2,RelL.heap h h3⟩
 | .nilfn,_,g=>by simpa only [Rel] using g
 | .iface t c,_,g=>by
  simp only [Rel] at g ⊢
  obtain ⟨u,h1,h2⟩:=g
  exact ⟨u,h1,Rel.heap h h2⟩
 | .niliface,_,g=>by simpa only [Rel] using g
 | .anyb,_,g=>by simpa only [Rel] using g
theorem RelL.heap {E:En} {w':World} (h:∀ b,EO E b->w'.heap[b]? =E.w.heap[b]?):∀ {cs:List AV} {vs:List Value},RelL E cs vs->RelL ⟨w',E.S,E.ρ,E.rows⟩ cs vs
 | [],_,g=>by simpa only [RelL] using g
 |c::cs,_,g=>by
  simp only [RelL] at g ⊢
  obtain ⟨v,rest,h1,h2,h3⟩:=g
  exact ⟨v,rest,h1,Rel.heap h h2,RelL.heap h h3⟩
theorem RelE.heap {E:En} {w':World} (h:∀ b,EO E b->w'.heap[b]? =E.w.heap[b]?) {b:Nat} (s:E.S b):∀ {es:List (List AV)} {off sz:Nat},RelE E es b off sz->RelE ⟨w',E.S,E.ρ,E.rows⟩ es b off sz
 | [],_,_,_=>by simp [RelE]
 |e::es,_,_,g=>by
  simp only [RelE] at g ⊢
  obtain ⟨⟨h1,vs,h2,h3⟩,h4⟩:=g
  exact ⟨⟨h1,vs,RelL.heap h h2,h3.of_block (h b (.inl s))⟩,RelE.heap h s h4⟩
end
theorem RowOK.heap {E:En} {w':World} (h:∀ b,EO E b->w'.heap[b]? =E.w.heap[b]?) {r:Nat} (g:RowOK E r):RowOK ⟨w',E.S,E.ρ,E.rows⟩ r:=by
 unfold RowOK at g ⊢
 have hh:(E.rows r).live=true->w'.heap[E.ρ r]? =E.w.heap[E.ρ r]? :=fun hl=>h _ (.inr ⟨r,hl,rfl⟩)
 simp only
 cases hr:E.rows r with
 |none=>trivial
 |dead=>trivial
 |cells ver cs=>
  rw [hr] at g hh
  obtain ⟨cur,e,vs,h1,h2,h3,h4⟩:=g
  exact ⟨cur,e,vs,by rw [hh rfl];exact h1,h2,h3.heap h,h4⟩
 |map ks vs=>
  rw [hr] at g hh
  obtain ⟨es,clock,h1,h2,h3,h4,h5⟩:=g
  exact ⟨es,clock,by rw [hh rfl];exact h1,h2,h3,h4.heap h,h5.heap h⟩
 |iter ks vs l j=>
  rw [hr] at g hh
  obtain ⟨mb,es,clock,since,seen,h1,h2,h3,h4,h5,h6,h7,h8,h9⟩:=g
  exact ⟨mb,es,clock,since,seen,by rw [hh rfl];exact h1,h2,h3,by rw [h mb (.inl h3)];exact h4,h5,h6,h7.heap h,h8.heap h,h9⟩
 |loop st pend fr ps asg body=>
  rw [hr] at g hh
  obtain ⟨fn,tm,D,h1,h2,h3⟩:=g
  exact ⟨fn,tm,D,by rw [hh rfl];exact h1,h2,h3.heap h⟩
theorem Inv.heap {G:Nat->Option (List AV)} {E:En} {w':World} (i:Inv G E) (h:∀ b,EO E b->w'.heap[b]? =E.w.heap[b]?) (hsz:E.w.heap.size<=w'.heap.size):Inv G ⟨w',E.S,E.ρ,E.rows⟩:=
 ⟨fun r=>(i.row r).heap h,i.inj,fun b hb=>jk (i.sb b hb) hsz,fun g cs hg=>by
  obtain ⟨vs,h1,h2,h3⟩:=i.glob g cs hg
  exact ⟨vs,h1,h2.heap h,h3.of_block (h g (.inl h1))⟩⟩
def jV (w:World):List Nat->World
 | []=>w
 |D::Ds=>jV (w.putObj D (.deferred none)) Ds
theorem E5:∀ (Ds:List Nat) (w:World),(jV w Ds).os=w.os/\(jV w Ds).tape=w.tape/\(jV w Ds).output=w.output/\(jV w Ds).heap.size=w.heap.size
 | [],w=>⟨rfl,rfl,rfl,rfl⟩
 |D::Ds,w=>by
  obtain ⟨h1,h2,h3,h4⟩:=E5 Ds (w.putObj D (.deferred none))
  exact ⟨h1,h2,h3,by rw [jV,h4,World.putObj_size]⟩
theorem pN:∀ (Ds:List Nat) (w:World) (k:Nat),k ∉ Ds->(jV w Ds).heap[k]? =w.heap[k]?
 | [],w,k,_=>rfl
 |D::Ds,w,k,h=>by
  simp only [bn,not_or] at h
  rw [jV,pN Ds _ k h.2,World.putObj_heap_other h.1]
theorem P3 {P:Program} {fn:Func} {tmps:Array Value} {R:Ending->World->Prop}:∀ (Ds:List Nat) (w:World),Ds.Nodup->(∀ D∈Ds,w.heap[D]? =some (.deferred (some [])))->
  LeavesIn Fence.wide 0 P fn tmps R [] .returning (jV w Ds)->LeavesInM Fence.wide 0 P fn tmps R (Ds.map fun D=>{ target:=.collected D,args:= #[] }) .returning w
 | [],w,_,_,h=>h
 |D::Ds,w,hn,hd,h=>by
  rw [List.nodup_cons] at hn
  refine ⟨by simp,.inl ⟨D,_,rfl,run_takeDeferred (hd D (by simp)),P3 Ds _ hn.2 (fun D' hm=>?_) h⟩⟩
  have hne:D'≠D:=fun e=>hn.1 (by rw [<- e];exact hm)
  rw [World.putObj_heap_other hne]
  exact hd D' (by simp [hm])
theorem uQ {P:Program} {G:Nat->Option (List AV)} {n k:Nat} {s':AS} {Ec Ec':En} {a':Act} (xk:ExtK k Ec Ec') (sim': @Sim ⟨none,some Ec.w.heap.size⟩ G n s' Ec' a'):
  ∃ E2:En,@Sim aCY G n s' E2 { tmps:=a'.tmps,defers:=[] }/\ExtK k Ec E2/\
   ∀ fn R,(∃ v,(results fn a'.tmps).run P E2.w=.ok v E2.w/\R (.returned v) E2.w)->LeavesInM Fence.wide 0 P fn a'.tmps R a'.defers .returning Ec'.w:=by
 obtain ⟨inv',rows',sz',tm',df'⟩:=sim'
 obtain ⟨_,Ds,hds,hn,hD⟩:=df'
 obtain ⟨c1,c2,c3,c4⟩:=E5 Ds Ec'.w
 have hk:∀ b,EO Ec' b->(jV Ec'.w Ds).heap[b]? =Ec'.w.heap[b]? :=fun b hb=>pN Ds Ec'.w b fun hm=>by
  obtain ⟨_,_,h3,h4⟩:=hD b hm
  rcases hb with h|⟨r,hr,e⟩
  .exact h3 h
  .exact h4 r hr e
 have hlow:∀ b,b<Ec.w.heap.size->(jV Ec'.w Ds).heap[b]? =Ec'.w.heap[b]? :=fun b hb=>pN Ds Ec'.w b fun hm=>by
  have:Ec.w.heap.size<=b:=(hD b hm).1
  omega
 refine ⟨⟨jV Ec'.w Ds,Ec'.S,Ec'.ρ,Ec'.rows⟩,⟨inv'.heap hk (by rw [c4];exact ap _),rows',sz',fun t=>(tm' t).heap hk,DefOK.nil⟩,?_,fun fn R h=>?_⟩
 .refine ⟨c1.trans xk.os,c2.trans xk.tape,c3.trans xk.output,by rw [c4];exact xk.sz,xk.sub,fun b hb hl=>⟨(hlow b hb).trans (xk.out b hb hl).1,(xk.out b hb hl).2⟩,xk.dead,fun r hr ver cs h=>?_,xk.map,xk.fresh⟩
  rcases xk.cells r hr ver cs h with h1|⟨v',c',h1,h2,h3⟩
  .exact .inl h1
  .refine .inr ⟨v',c',h1,h2,fun e=>⟨(h3 e).1,fun cur el fz hc=>?_⟩⟩
   obtain ⟨cur',e',h4,h5⟩:=(h3 e).2 cur el fz hc
   exact ⟨cur',e',by rw [hlow _ (cq.1 hc).1];exact h4,h5⟩
 .rw [hds]
  exact P3 Ds _ hn (fun D hm=>(hD D hm).2.1) h
theorem nY {P:Program} {f:FuncId} {fn:Func} {c:Code} {args:Array Value} {w:World} {R:Ending->World->Prop} (hf:P.funcs[f]? =some fn) (hb:fn.body=some c)
  (h:c.wpIn Fence.wide 0 P (bodyPostM Fence.wide 0 P fn R) { tmps:=args++Array.replicate (fn.ntmps - args.size) undef,defers:=[] } w):Calls P f args w R:=
 callsIn_wide.1 (callsIn_of_wp_marks (F:=Fence.wide) (n:=0) hf hb trivial h)
end Go.AM
namespace Go.AM
def cut (E:En) (H:List ARow):En:=⟨E.w,E.S,E.ρ,fun r=>H.getD r .none⟩
structure BB (G:Nat->Option (List AV)) (H:List ARow) (rows:Nat->ARow) (fp:List Nat):Prop where
 glob:∀ g cs,G g=some cs->aP aE cs=true
 eqs:∀ r∈fp,H.getD r .none=rows r
 dead:∀ r,r ∉ fp->H.getD r .none=if r<H.length then .dead else .none
 ins:∀ r∈fp,aG (fun r=>decide (r<H.length)) (rows r)=true
 new:∀ r∈fp,H.length<=r->rows r=.none
theorem tV {G:Nat->Option (List AV)} {H:List ARow} {rows:Nat->ARow} {fp:List Nat} (ok:BB G H rows fp) {E:En} (i:Inv G E) (hE:∀ r∈fp,E.rows r=rows r):
  Inv G (cut E H)/\eY (fun r=>decide (r<H.length)) E (cut E H)/\(∀ r∈fp,(cut E H).rows r=E.rows r)/\(∀ r,((cut E H).rows r).live=true->r∈fp/\(E.rows r).live=true):=by
 obtain ⟨hG,hfp,hdead,hrows,hnew⟩:=ok
 show Inv G ⟨E.w,E.S,E.ρ,fun r=>H.getD r .none⟩/\_
 let Ec:En:=⟨E.w,E.S,E.ρ,fun r=>H.getD r .none⟩
 have hrowfp:∀ r∈fp,Ec.rows r=E.rows r:=fun r hr=>by simp only [Ec];rw [hfp r hr,hE r hr]
 have hrowno:∀ r,r ∉ fp->Ec.rows r=if r<H.length then .dead else .none:=fun r hr=>hdead r hr
 have hcl:∀ r,(Ec.rows r).live=true->r∈fp/\(E.rows r).live=true:=fun r hr=>by
  by_cases hm:r∈fp
  .exact ⟨hm,by rw [<- hrowfp r hm];exact hr⟩
  .rw [hrowno r hm] at hr;split at hr<;>cases hr
 have agc:eY (fun r=>decide (r<H.length)) E Ec:=⟨rfl,fun _ h=>h,fun r hr=>by
   by_cases hm:r∈fp
   .exact .inl (hrowfp r hm)
   .exact .inr (.inl (by rw [hrowno r hm,if_pos (by simpa using hr)])),fun r _ _=>rfl⟩
 have agG:eY aE E Ec:=⟨rfl,fun _ h=>h,fun r hr=>(by cases hr),fun r hr=>(by cases hr)⟩
 have ic:Inv G Ec:=by
  refine ⟨fun r=>?_,fun r r' h h' hne=>i.inj r r' (hcl r h).2 (hcl r' h').2 hne,i.sb,fun g cs hg=>?_⟩
  .by_cases hm:r∈fp
   .have h0:=i.row r
    unfold RowOK at h0 ⊢
    rw [hrowfp r hm]
    have hin:=hrows r hm
    rw [<- hE r hm] at hin
    cases hrr:E.rows r with
    |none=>trivial
    |dead=>trivial
    |cells ver cs=>
     rw [hrr] at h0 hin
     obtain ⟨cur,e,vs,a1,a2,a3,a4⟩:=h0
     exact ⟨cur,e,vs,a1,a2,a3.agree agc hin,a4⟩
    |map ks vs=>
     rw [hrr] at h0 hin
     simp only [aG,ae] at hin
     obtain ⟨es,clock,a1,a2,a3,a4,a5⟩:=h0
     exact ⟨es,clock,a1,a2,a3,a4.agree agc hin.1,a5.agree agc hin.2⟩
    |iter ks vs l j=>
     rw [hrr] at h0 hin
     simp only [aG,ae] at hin
     obtain ⟨mb,es,clock,since,seen,a1,a2,a3,a4,a5,a6,a7,a8,a9⟩:=h0
     exact ⟨mb,es,clock,since,seen,a1,a2,a3,a4,a5,a6,a7.agree agc hin.1,a8.agree agc hin.2,a9⟩
    |loop st pend fr ps asg body=>
     rw [hrr] at h0 hin
     obtain ⟨fn,tm,D,a1,a2,a3⟩:=h0
     exact ⟨fn,tm,D,a1,a2,a3.agree agc hin⟩
   .unfold RowOK
    rw [hrowno r hm]
    by_cases hlt:r<H.length
    .rw [if_pos hlt];trivial
    .rw [if_neg hlt];trivial
  .obtain ⟨vs,a1,a2,a3⟩:=i.glob g cs hg
   exact ⟨vs,a1,a2.agree agG (hG g cs hg),a3⟩
 exact ⟨ic,agc,hrowfp,hcl⟩
theorem tW {G:Nat->Option (List AV)} {H:List ARow} {rows:Nat->ARow} {fp:List Nat} (ok:BB G H rows fp) {E:En} (i:Inv G E) (hE:∀ r∈fp,E.rows r=rows r) {eff:eL} (hwr:∀ p∈eff.wr,p.1∈fp)
  {Ec':En} (xk:ExtK H.length (cut E H) Ec') (ic':Inv G Ec') (hend0:∀ r∈fp,Ec'.rows r=upd rows eff.wr r/\aG (fun r=>fp.contains r) (Ec'.rows r)=true) (hin:aI (fun r=>fp.contains r) eff.val=true) {u:Value} (ru:Rel Ec' eff.val u):
  ∃ E',Ec'.w=E'.w/\Rel E' eff.val u/\Ext E E'/\Inv G E'/\E'.rows=upd E.rows eff.wr:=by
 obtain ⟨_,agc,hrowfp,hcl⟩:=tV ok i hE
 obtain ⟨hG,hfp,hdead,hrows,hnew⟩:=ok
 refine ⟨⟨Ec'.w,Ec'.S,fun r=>if fp.contains r then Ec'.ρ r else E.ρ r,upd E.rows eff.wr⟩,rfl,?_⟩
 have hw1:∀ r∈fp,upd E.rows eff.wr r=Ec'.rows r:=fun r hr=>by
  rw [dA eff.wr E.rows rows r (hE r hr),<- (hend0 r hr).1]
 have hw2:∀ r,r ∉ fp->upd E.rows eff.wr r=E.rows r:=fun r hr=>gW _ _ _ fun p hp e=>hr (e ▸ hwr p hp)
 have hmem:∀ r,fp.contains r=true↔r∈fp:=fun r=>by simp
 have hblk:∀ r,r ∉ fp->(E.rows r).live=true->Ec'.w.heap[E.ρ r]? =E.w.heap[E.ρ r]?/\(Ec'.S (E.ρ r)->E.S (E.ρ r)):=fun r hr hl=>by
  refine xk.out (E.ρ r) (i.live hl).1 fun q hq e=>?_
  obtain ⟨hq1,hq2⟩:=hcl q hq
  exact i.inj q r hq2 hl (fun e=>hr (e ▸ hq1)) e
 have x:Ext E ⟨Ec'.w,Ec'.S,fun r=>if fp.contains r then Ec'.ρ r else E.ρ r,upd E.rows eff.wr⟩:=by
  refine ⟨xk.os,xk.tape,xk.output,xk.sz,xk.sub,fun b hlt hl=>xk.out b hlt fun r hr=>hl r (hcl r hr).2,fun r hr=>?_,fun r ver cs hr=>?_,fun r hr=>?_,fun r hr=>?_⟩
  .by_cases hm:r∈fp
   .simp only [hw1 r hm]
    have hlt:r<H.length:=Nat.lt_of_not_le fun h=>by have:=hnew r hm h;rw [<- hE r hm,hr] at this;cases this
    exact xk.dead r hlt (by rw [hrowfp r hm];exact hr)
   .simp only [hw2 r hm];exact hr
  .by_cases hm:r∈fp
   .simp only [hw1 r hm,(hmem r).2 hm,if_true]
    have hlt:r<H.length:=Nat.lt_of_not_le fun h=>by have:=hnew r hm h;rw [<- hE r hm,hr] at this;cases this
    exact xk.cells r hlt ver cs (by rw [hrowfp r hm];exact hr)
   .have hc:fp.contains r=false:=by simpa using hm
    simp only [hw2 r hm,hc,aw,if_false]
    refine .inr ⟨ver,cs,hr,ap _,fun _=>⟨trivial,fun cur e fz hcur=>⟨cur,e,?_,rfl⟩⟩⟩
    rw [(hblk r hm (by rw [hr];rfl)).1]
    exact hcur
  .by_cases hm:r∈fp
   .simp only [hw1 r hm,(hmem r).2 hm,if_true]
    have hlt:r<H.length:=Nat.lt_of_not_le fun h=>by have:=hnew r hm h;rw [<- hE r hm] at this;rw [this] at hr;cases hr
    exact xk.map r hlt (by rw [hrowfp r hm];exact hr)
   .have hc:fp.contains r=false:=by simpa using hm
    simp only [hw2 r hm,hc,aw,if_false]
    exact .inr ⟨hr,trivial⟩
  .by_cases hm:r∈fp
   .simp only [hw1 r hm] at hr
    simp only [(hmem r).2 hm,if_true]
    rcases xk.fresh r hr with ⟨h1,h2⟩|h1
    .exact .inl ⟨(hcl r h1).2,h2⟩
    .exact .inr h1
   .have hc:fp.contains r=false:=by simpa using hm
    simp only [hw2 r hm] at hr
    simp only [hc,aw,if_false]
    exact .inl ⟨hr,trivial⟩
 have agf:eY (fun r=>fp.contains r) Ec' ⟨Ec'.w,Ec'.S,fun r=>if fp.contains r then Ec'.ρ r else E.ρ r,upd E.rows eff.wr⟩:=
  ⟨rfl,fun _ h=>h,fun r hr=>.inl (hw1 r ((hmem r).1 hr)),fun r hr _=>by simp only [hr,if_true]⟩
 refine ⟨ru.agree agf hin,x,⟨fun r=>?_,fun r r' h h' hne=>?_,ic'.sb,fun g cs hg=>?_⟩,rfl⟩
 .by_cases hm:r∈fp
  .have h0:=ic'.row r
   unfold RowOK at h0 ⊢
   have hri:=(hend0 r hm).2
   simp only [hw1 r hm,(hmem r).2 hm,if_true]
   cases hrr:Ec'.rows r with
   |none=>trivial
   |dead=>trivial
   |cells ver cs=>
    rw [hrr] at h0 hri
    obtain ⟨cur,e,vs,a1,a2,a3,a4⟩:=h0
    exact ⟨cur,e,vs,a1,a2,a3.agree agf hri,a4⟩
   |map ks vs=>
    rw [hrr] at h0 hri
    simp only [aG,ae] at hri
    obtain ⟨es,clock,a1,a2,a3,a4,a5⟩:=h0
    exact ⟨es,clock,a1,a2,a3,a4.agree agf hri.1,a5.agree agf hri.2⟩
   |iter ks vs l j=>
    rw [hrr] at h0 hri
    simp only [aG,ae] at hri
    obtain ⟨mb,es,clock,since,seen,a1,a2,a3,a4,a5,a6,a7,a8,a9⟩:=h0
    exact ⟨mb,es,clock,since,seen,a1,a2,a3,a4,a5,a6,a7.agree agf hri.1,a8.agree agf hri.2,a9⟩
   |loop st pend fr ps asg body=>
    rw [hrr] at h0 hri
    obtain ⟨fn,tm,D,a1,a2,a3⟩:=h0
    exact ⟨fn,tm,D,a1,a2,a3.agree agf hri⟩
  .have hc:fp.contains r=false:=by simpa using hm
   cases hl:(E.rows r).live with
   |false=>
    unfold RowOK
    simp only [hw2 r hm]
    cases hq:E.rows r with
    |cells=>rw [hq] at hl;cases hl
    |map=>rw [hq] at hl;cases hl
    |iter=>rw [hq] at hl;cases hl
    |loop=>rw [hq] at hl;cases hl
    |none=>trivial
    |dead=>trivial
   |true=>
    have hbk:=hblk r hm hl
    exact RowOK.ext i x (by simp only [hc,aw,if_false]) (hw2 r hm) (fun _=>hbk.1) hbk.2 (i.row r)
 .by_cases hm:r∈fp
  .have hc:=(hmem r).2 hm
   simp only [hw1 r hm] at h
   by_cases hm':r'∈fp
   .have hc':=(hmem r').2 hm'
    simp only [hw1 r' hm'] at h'
    simp only [hc,hc',if_true]
    exact ic'.inj r r' h h' hne
   .have hc':fp.contains r'=false:=by simpa using hm'
    simp only [hw2 r' hm'] at h'
    simp only [hc,hc',if_true,aw,if_false]
    rcases xk.fresh r h with ⟨h1,h2⟩|h1
    .rw [h2];exact i.inj r r' (hcl r h1).2 h' hne
    .have:=(i.live h').1
     have h1':E.w.heap.size<=Ec'.ρ r:=h1
     omega
  .have hc:fp.contains r=false:=by simpa using hm
   simp only [hw2 r hm] at h
   by_cases hm':r'∈fp
   .have hc':=(hmem r').2 hm'
    simp only [hw1 r' hm'] at h'
    simp only [hc,hc',if_true,aw,if_false]
    rcases xk.fresh r' h' with ⟨h1,h2⟩|h1
    .rw [h2];exact i.inj r r' h (hcl r' h1).2 hne
    .have:=(i.live h).1
     have h1':E.w.heap.size<=Ec'.ρ r':=h1
     omega
   .have hc':fp.contains r'=false:=by simpa using hm'
    simp only [hw2 r' hm'] at h'
    simp only [hc,hc',aw,if_false]
    exact i.inj r r' h h' hne
 .obtain ⟨vs,a1,a2,a3⟩:=ic'.glob g cs hg
  exact ⟨vs,a1,a2.agree agf (b7 (fun r hr=>by cases hr) (hG g cs hg)),a3⟩
end Go.AM
namespace Go.AM
def vH:List AV->List (Tmp × AV)->List AV
 |fr,[]=>fr
 |fr,z::zs=>vH (nR fr z.1 z.2) zs
theorem IK {E:En} {n:Nat}:∀ (zs:List (Tmp × AV)) (vs:List Value) (fr:List AV) (tm:Array Value),tm.size=n->(∀ t,Rel E (fr.getD t .undef) (tm.getD t undef))->(∀ z∈zs,z.1<n)->RelL E (zs.map (·.2)) vs->
  (((zs.map (·.1)).zip vs).foldl (fun (t:Array Value) (p:Tmp × Value)=>t.setIfInBounds p.1 p.2) tm).size=n/\
  ∀ t,Rel E ((vH fr zs).getD t .undef) ((((zs.map (·.1)).zip vs).foldl (fun (t:Array Value) (p:Tmp × Value)=>t.setIfInBounds p.1 p.2) tm).getD t undef)
 | [],vs,fr,tm,hs,hr,_,_=>by
  simp only [vH,bu,List.zip_nil_left,List.foldl_nil]
  exact ⟨hs,hr⟩
 |z::zs,vs,fr,tm,hs,hr,hz,hv=>by
  simp only [ay,RelL] at hv
  obtain ⟨v,rest,rfl,h1,h2⟩:=hv
  simp only [ay,List.zip_cons_cons,gr,vH]
  refine IK zs rest _ _ (by simpa using hs) (fun t=>?_) (fun z' hz'=>hz z' (by simp [hz'])) h2
  rw [mS]
  have hlt:z.1<tm.size:=by rw [hs];exact hz z (by simp)
  by_cases e:t=z.1
  .subst e
   simp only [if_true]
   simpa [Array.getD,hlt] using h1
  .simp only [if_neg e]
   have:(tm.setIfInBounds z.1 v).getD t undef=tm.getD t undef:=by
    simp only [dt,jj]
    simp [Ne.symm e]
   rw [this]
   exact hr t
theorem QL {E:En} {fr:List AV} {tm:Array Value} (h:RelL E fr tm.toList) (t:Nat):Rel E (fr.getD t .undef) (tm.getD t undef):=by
 rw [bc]
 cases hx:fr[t]? with
 |none=>simp [Rel]
 |some x=>
  obtain ⟨v,h1,h2⟩:=h.get hx
  have:tm.getD t undef=v:=by
   rw [dt,<- Array.getElem?_toList,h1]
   rfl
  rw [this]
  exact h2
theorem C9 {G:Nat->Option (List AV)} {E:En} (i:Inv G E) {r:Nat} {st:LoopState} {pend:Option Code} {fr:List AV} {ps:Array Tmp} {asg body:Code} (hr:E.rows r=.loop st pend fr ps asg body)
  (st':LoopState) (pend':Option Code):∃ rec:Loop,E.w.heap[E.ρ r]? =some (.loop rec)/\rec.state=st/\rec.pending=pend/\
   Ext E ⟨E.w.putObj (E.ρ r) (.loop { rec with state:=st',pending:=pend' }),E.S,E.ρ,upd E.rows [(r,.loop st' pend' fr ps asg body)]⟩/\
   Inv G ⟨E.w.putObj (E.ρ r) (.loop { rec with state:=st',pending:=pend' }),E.S,E.ρ,upd E.rows [(r,.loop st' pend' fr ps asg body)]⟩:=by
 have h0:=i.row r
 unfold RowOK at h0
 rw [hr] at h0
 obtain ⟨fn,tm,D,h1,h2,h3⟩:=h0
 refine ⟨_,h1,rfl,rfl,?_⟩
 have hlt:=(cq.1 h1).1
 refine gV i _ E.ρ (upd E.rows [(r,.loop st' pend' fr ps asg body)]) r rfl rfl rfl (by rw [World.putObj_size];exact ap _) (fun q hq=>⟨by simp [upd,hq],rfl⟩) (fun b hb hne=>World.putObj_heap_other (hne (by rw [hr];rfl)))
  (fun h=>by rw [hr] at h;cases h) (fun ver cs h=>by rw [hr] at h;cases h) (fun _=>.inr ⟨by simp [upd,ARow.obj],rfl⟩) (fun _=>.inl ⟨by rw [hr];rfl,rfl⟩) (fun x=>?_)
 unfold RowOK
 simp only [upd,if_true]
 exact ⟨fn,tm,D,World.putObj_heap_same hlt,h2,h3.ext i x⟩
theorem F3 {G:Nat->Option (List AV)} {E:En} (i:Inv G E) {r:Nat} {st:LoopState} {pend:Option Code} {fr:List AV} {ps:Array Tmp} {asg body:Code} (hr:E.rows r=.loop st pend fr ps asg body) (o:Obj):
  Ext E ⟨E.w.putObj (E.ρ r) o,E.S,E.ρ,upd E.rows [(r,.dead)]⟩/\Inv G ⟨E.w.putObj (E.ρ r) o,E.S,E.ρ,upd E.rows [(r,.dead)]⟩:=by
 refine gV i _ E.ρ (upd E.rows [(r,.dead)]) r rfl rfl rfl (by rw [World.putObj_size];exact ap _) (fun q hq=>⟨by simp [upd,hq],rfl⟩) (fun b hb hne=>World.putObj_heap_other (hne (by rw [hr];rfl)))
  (fun h=>by rw [hr] at h;cases h) (fun ver cs h=>by rw [hr] at h;cases h) (fun _=>.inl (by simp [upd])) (fun h=>by simp [upd,ARow.live] at h) (fun x=>?_)
 unfold RowOK
 simp only [upd,if_true]
def zI:Exit->Option (Option Code)
 | .normal=>some none
 | .ret=>some (some .ret)
 | .exit id=>some (some (.exit id))
 | .goto t=>some (some (.goto t))
 |_=>none
theorem FB {P:Program} {l:Nat} {R:Ending->World->Prop} {e:Exit} {a:Act} {w:World} {jump:Option Code} (h:zI e=some jump) (hr:∃ v w',(Instr.endRound l jump).run P w=.ok v w'/\R (.returned v) w'):roundPost P l R e a w:=by
 cases e<;>simp only [zI,ao,reduceCtorEq] at h<;>subst h<;>exact hr
theorem l5 {P:Program} {G:Nat->Option (List AV)} {r n:Nat} {fr:List AV} {ps:Array Tmp} {asg body:Code} {args:List AV} {H:List ARow} {rows:Nat->ARow} {fp:List Nat} {eff:eL} (ok:BB G H rows fp)
  (hr:rows r=.loop .ready none fr ps asg body) (hrf:r∈fp) (hrH:r<H.length) (hn:fr.length=n) (hps:ps.size=args.length) (hpn:∀ t∈ps.toList,t<n) (hargs:aP (fun r=>decide (r<H.length)) args=true) (hwr:∀ p∈eff.wr,p.1∈fp)
  (hbody:∀ l:Nat,@cG ⟨some l,none⟩ P G n H.length asg (fun e s1=>e=.normal/\∃ fr1 ps1 a1 b1,s1.row r=.loop .ready none fr1 ps1 a1 b1/\
   @cG ⟨some l,none⟩ P G n H.length body (fun e s2=>∃ jump fr2 ps2 a2 b2,zI e=some jump/\s2.row r=.loop .busy none fr2 ps2 a2 b2/\eff.val=.bool jump.isNone/\
    ∀ q∈fp,upd s2.row [(r,.loop (if jump.isNone then .ready else .done) jump fr2 ps2 a2 b2)] q=upd rows eff.wr q/\aG (fun r=>fp.contains r) (upd s2.row [(r,.loop (if jump.isNone then .ready else .done) jump fr2 ps2 a2 b2)] q)=true)
    (s1.wr [(r,.loop .busy none fr1 ps1 a1 b1)])) ⟨vH fr (ps.toList.zip args),H⟩):wI P G r args rows fp eff:=by
 refine ⟨hrf,by rw [hr];rfl,hwr,fun E us i hE hus=>?_⟩
 obtain ⟨ic,ag,hrow,hcl⟩:=tV ok i hE
 have hlen:=hus.length
 have hrr:(cut E H).rows r=.loop .ready none fr ps asg body:=by rw [hrow r hrf,hE r hrf,hr]
 have h0:=ic.row r
 unfold RowOK at h0
 rw [hrr] at h0
 obtain ⟨fn,tm,D,h1,h2,h3⟩:=h0
 have h1':E.w.heap[E.ρ r]? =some (.loop { state:=.ready,pending:=none,fn,tmps:=tm,params:=ps,assign:=asg,body,defers:=D }):=h1
 have hy:=run_yield (P:=P) (args:=us.toArray) h1' (by simp;omega)
 refine ⟨fn,_,asg,body,hy,?_⟩
 have hzl:(ps.toList.zip args).map (·.1)=ps.toList:=List.map_fst_zip (by simp;omega)
 have hzr:(ps.toList.zip args).map (·.2)=args:=List.map_snd_zip (by simp;omega)
 have htm:tm.size=n:=by have:=h3.length;simp at this;omega
 obtain ⟨q1,q2⟩:=IK (E:=cut E H) (n:=n) (ps.toList.zip args) us fr tm htm (QL h3) (fun z hz=>hpn z.1 (List.of_mem_zip hz).1) (by rw [hzr];exact hus.agree ag hargs)
 rw [hzl] at q1 q2
 have hfold:((ps.zip us.toArray).foldl (fun (tmps:Array Value) (x:Tmp × Value)=>match x with|(t,a)=>tmps.setIfInBounds t a) tm)=(ps.toList.zip us).foldl (fun (t:Array Value) (p:Tmp × Value)=>t.setIfInBounds p.1 p.2) tm:=by
  rw [<- Array.foldl_toList,Array.toList_zip]
 have sim: @Sim ⟨some (E.ρ r),none⟩ G n ⟨vH fr (ps.toList.zip args),H⟩ (cut E H) { tmps:=(ps.zip us.toArray).foldl (fun (tmps:Array Value) (x:Tmp × Value)=>match x with|(t,a)=>tmps.setIfInBounds t a) tm,defers:=[] }:=
  @Sim.mk ⟨some (E.ρ r),none⟩ _ _ _ _ _ ic rfl (by rw [hfold];exact q1) (fun t=>by rw [hfold];exact q2 t) DefOK.nil
 refine roundIn_of_wpIn (F:=Fence.wide) trivial (wpIn_mono (hbody (E.ρ r) (cut E H) _ sim) ?_)
 rintro e a1 w1 ⟨s1,E1,rfl,x1,⟨i1,rows1,sz1,tm1,df1⟩,rfl,fr1,ps1,as1,b1,hs1,hb⟩
 have hρ1:E1.ρ r=E.ρ r:=by
  rcases x1.map r hrH (by rw [hrr];rfl) with h|⟨_,h⟩
  .rw [rows1,hs1] at h;cases h
  .exact h
 obtain ⟨rec,k1,k2,k3,x2,i2⟩:=C9 i1 (by rw [rows1];exact hs1) .busy none
 rw [hρ1] at k1 x2 i2
 have hbeg:=run_beginRound (P:=P) k1 k2
 have e1:({ rec with state:=.busy,pending:=none }:Loop)={ rec with state:=.busy }:=by rw [<- k3]
 rw [e1] at x2 i2
 refine ⟨_,hbeg,?_⟩
 have sim2: @Sim ⟨some (E.ρ r),none⟩ G n (s1.wr [(r,.loop .busy none fr1 ps1 as1 b1)]) ⟨E1.w.putObj (E.ρ r) (.loop { rec with state:=.busy }),E1.S,E1.ρ,upd E1.rows [(r,.loop .busy none fr1 ps1 as1 b1)]⟩ a1:=
  @Sim.mk ⟨some (E.ρ r),none⟩ _ _ _ _ _ i2 (by rw [AS.row_wr,rows1]) sz1 (fun t=>by rw [AS.get_wr];exact (tm1 t).ext i1 x2) df1
 refine wpIn_mono (hb _ a1 sim2) ?_
 rintro e a3 w3 ⟨s2,E3,rfl,x3,⟨i3,rows3,sz3,tm3,df3⟩,jump,fr2,ps2,as2,b2,hj,hs2,hval,hend⟩
 refine FB hj ?_
 have hρ3:E3.ρ r=E.ρ r:=by
  rcases x3.map r hrH (by simp [upd,ARow.obj]) with h|⟨_,h⟩
  .rw [rows3,hs2] at h;cases h
  .exact h.trans hρ1
 obtain ⟨rec3,m1,m2,m3,x4,i4⟩:=C9 i3 (by rw [rows3];exact hs2) (if jump.isNone then .ready else .done) jump
 rw [hρ3] at m1 x4 i4
 have hendr:=run_endRound (P:=P) jump m1
 refine ⟨_,_,hendr,?_⟩
 have xx:=((x1.trans (x2.toK H.length)).trans x3).trans (x4.toK H.length)
 obtain ⟨E',c1,c2,c3,c4,c5⟩:=tW ok i hE hwr xx i4 (fun q hq=>by simp only [rows3];exact hend q hq) (by rw [hval];simp [aI]) (u:=.bool jump.isNone) (by rw [hval];simp [Rel])
 exact ⟨_,E',rfl,c1,c2,c3,c4,c5⟩
theorem iB [rd:i6] {P:Program} {G:Nat->Option (List AV)} {n k:Nat} {Q:Exit->AS->Prop} {s:AS} {g:Operand} {ps:Array Tmp} {asg body:Code} {gf:FuncId} {first cap:List AV} {fp:List Nat} {eff:eL} {b:Nat}
  (hround:rd.round=none) (hbase:rd.base=some b) (hg:d8 G s.get g=.fn (.func gf) first cap)
  (hc:c8 P G gf (first++[.yld s.h.length]++cap) (upd s.row [(s.h.length,.loop .ready none ((List.range n).map s.get) ps asg body)]) fp eff)
  (hk:(∃ fr1 ps1 a1 b1,upd (upd s.row [(s.h.length,.loop .ready none ((List.range n).map s.get) ps asg body)]) eff.wr s.h.length=.loop .ready none fr1 ps1 a1 b1/\
    Q .normal (((s.wr [(s.h.length,.loop .ready none ((List.range n).map s.get) ps asg body)]).wr eff.wr).wr [(s.h.length,.dead)]))\/
   ∃ c fr1 ps1 a1 b1,upd (upd s.row [(s.h.length,.loop .ready none ((List.range n).map s.get) ps asg body)]) eff.wr s.h.length=.loop .done (some c) fr1 ps1 a1 b1/\
    cG P G n k c Q (((s.wr [(s.h.length,.loop .ready none ((List.range n).map s.get) ps asg body)]).wr eff.wr).wr [(s.h.length,.dead)])):
  cG P G n k (.rangeFunc g ps asg body) Q s:=fun E a i=>by
 refine wpIn_rangeFunc fun fn _=>?_
 have hro:(BJ:Fence).round=none:=hround
 rw [hro]
 have hv:=i.eval g
 rw [hg] at hv
 simp only [Rel] at hv
 obtain ⟨p,q,hv,hp,hq⟩:=hv
 have hnone:E.rows s.h.length=.none:=by
  rw [i.rows]
  show s.h.getD s.h.length .none=.none
  rw [bc,d5 (ap _)];rfl
 obtain ⟨w1,hw1⟩:∃ w1,(E.w.alloc (.deferred (some []))).alloc (.loop { state:=.ready,pending:=none,fn,tmps:=a.tmps,params:=ps,assign:=asg,body,defers:=E.w.heap.size })=w1:=⟨_,rfl⟩
 have hl1:w1.heap[E.w.heap.size+1]? =some (.loop { state:=.ready,pending:=none,fn,tmps:=a.tmps,params:=ps,assign:=asg,body,defers:=E.w.heap.size }):=by
  rw [<- hw1];have:=World.alloc_heap_new (E.w.alloc (.deferred (some []))) (.loop { state:=.ready,pending:=none,fn,tmps:=a.tmps,params:=ps,assign:=asg,body,defers:=E.w.heap.size });rwa [World.size_alloc] at this
 have hd1:w1.heap[E.w.heap.size]? =some (.deferred (some [])):=by
  rw [<- hw1];exact (Go.RowKit.Below.heap_alloc _ _ _ (by simp)).trans (World.alloc_heap_new E.w _)
 have hlow:∀ j,j<E.w.heap.size->w1.heap[j]? =E.w.heap[j]? :=fun j hj=>by
  rw [<- hw1];exact (Go.RowKit.Below.heap_alloc _ _ _ (by simp;omega)).trans (Go.RowKit.Below.heap_alloc _ _ _ hj)
 have hsz1:w1.heap.size=E.w.heap.size+2:=by rw [<- hw1];simp
 have hos:w1.os=E.w.os/\w1.tape=E.w.tape/\w1.output=E.w.output:=by rw [<- hw1];exact ⟨rfl,rfl,rfl⟩
 obtain ⟨x1,i1⟩:=gV i.inv w1 (fun q=>if q=s.h.length then E.w.heap.size+1 else E.ρ q) (upd E.rows [(s.h.length,.loop .ready none ((List.range n).map s.get) ps asg body)]) s.h.length hos.1 hos.2.1 hos.2.2 (by omega)
  (fun q hq=>⟨by simp [upd,hq],by simp [hq]⟩) (fun j hj _=>hlow j hj) (fun h=>by rw [hnone] at h;cases h) (fun ver cs h=>by rw [hnone] at h;cases h) (fun h=>by rw [hnone] at h;cases h) (fun _=>.inr (by simp)) (fun x=>by
   unfold RowOK
   simp only [upd,if_true]
   refine ⟨fn,a.tmps,E.w.heap.size,hl1,fun hS=>by have:=i.inv.sb _ hS;omega,?_⟩
   have base:RelL E ((List.range n).map s.get) a.tmps.toList:=by
    refine RelL.mk (by simp [i.sz]) fun j c v hc hv=>?_
    rw [bh] at hc
    obtain ⟨j',hj,rfl⟩:=bw.1 hc
    have hjj:j'=j:=by
     have:=(aq.1 hj).2
     simpa using this.symm
    subst hjj
    have:=i.tm j'
    rwa [dt,<- Array.getElem?_toList,hv] at this
   exact base.ext i.inv x)
 obtain ⟨E1,hE1⟩:∃ E1:En,(⟨w1,E.S,fun q=>if q=s.h.length then E.w.heap.size+1 else E.ρ q,upd E.rows [(s.h.length,.loop .ready none ((List.range n).map s.get) ps asg body)]⟩:En)=E1:=⟨_,rfl⟩
 rw [hE1] at x1 i1
 have e1w:E1.w=w1:=by rw [<- hE1]
 have e1r:E1.rows=upd s.row [(s.h.length,.loop .ready none ((List.range n).map s.get) ps asg body)]:=by rw [<- hE1,i.rows]
 have e1ρ:E1.ρ s.h.length=E.w.heap.size+1:=by rw [<- hE1];simp
 have hyl:Rel E1 (.yld s.h.length) (.func (.yield (E.w.heap.size+1)) #[] #[]):=by
  simp only [Rel,e1r,upd,if_true,e1ρ]
  exact ⟨rfl,rfl,trivial⟩
 have hargs:RelL E1 (first++[.yld s.h.length]++cap) (p++[.func (.yield (E.w.heap.size+1)) #[] #[]]++q):=
  ((hp.ext i.inv x1).append (by simp only [RelL];exact ⟨_,_,rfl,hyl,rfl⟩)).append (hq.ext i.inv x1)
 obtain ⟨hgo,hwr,hcall⟩:=hc
 have hcalls:=hcall E1 _ i1 (fun r _=>by rw [e1r]) hargs
 have hcallF:∃ fu,P.funcs[gf]? =some fu/\fu.body.isSome=true/\(fu.name != "runtime.NumGoroutine")=true:=by
  unfold fR at hgo
  cases hfu:P.funcs[gf]? with
  |none=>rw [hfu] at hgo;cases hgo
  |some fu=>rw [hfu] at hgo;simp only [ae] at hgo;exact ⟨fu,rfl,hgo.1,hgo.2⟩
 obtain ⟨fu,hfu,hfb,hfn⟩:=hcallF
 have hb':¬ fu.body=none:=by intro e;rw [e] at hfb;cases hfb
 have hn':¬ fu.name= "runtime.NumGoroutine":=by simpa using hfn
 refine ⟨E.w.heap.size+1,[{ target:=.collected E.w.heap.size,args:= #[] }],w1,{ target:=Target.fn (Fn.func gf) q.toArray,args:=p.toArray++ #[Value.func (.yield (E.w.heap.size+1)) #[] #[]] },w1,gf,(p++[Value.func (.yield (E.w.heap.size+1)) #[] #[]]++q).toArray,w1,?_,?_,fun _ _=>trivial,?_,(fun h=>by cases h),?_⟩
 .rw [<- hw1];exact run_enterLoop_outer _ _ _ _ _
 .have hcv:a.eval (.const (Value.func (.yield (E.w.heap.size+1)) #[] #[]))=Value.func (.yield (E.w.heap.size+1)) #[] #[]:=rfl
  simp [resolve,rangeCall,hv,hcv,Deferred.ofValue]
 .simp [invoke,callFunc,hfu,hb',hn']
 .refine (callsIn_wide (n:=0 - 1)).2 ?_
  rw [e1w] at hcalls
  refine hcalls.mono fun e w2 hr=>?_
  obtain ⟨v,E2,rfl,rfl,hrv,x2,i2,hr2⟩:=hr
  have hρ2:(E2.rows s.h.length).obj=true->E2.ρ s.h.length=E.w.heap.size+1:=fun ho=>by
   rcases x2.map s.h.length (by rw [e1r];simp [upd,ARow.obj]) with h|⟨_,h⟩
   .rw [h] at ho;cases ho
   .exact h.trans e1ρ
  rw [e1r] at hr2
  have hdf1 : DefOK E1 ({ target := .collected E.w.heap.size, args := #[] } :: a.defers) := by
   have h0:=i.df
   revert h0
   unfold DefOK
   rw [hbase]
   rintro ⟨hb,Ds,hds,hn,hD⟩
   refine ⟨by rw [e1w,hsz1];omega,E.w.heap.size::Ds,by rw [hds];rfl,List.nodup_cons.2 ⟨fun hm=>?_,hn⟩,fun D hm=>?_⟩
   .have:=(cq.1 (hD _ hm).2.1).1
    omega
   .rcases bn.1 hm with rfl|hm
    .refine ⟨hb,by rw [e1w];exact hd1,fun hS=>?_,fun q hq e=>?_⟩
     .rw [<- hE1] at hS
      have:=i.inv.sb _ hS
      omega
     .rw [<- hE1] at hq e
      by_cases hqr:q=s.h.length
      .subst hqr;simp at e
      .simp only [upd,if_neg hqr] at hq e
       have:=(i.inv.live hq).1
       omega
    .have h1:=hD D hm
     have hlt:=(cq.1 h1.2.1).1
     refine ⟨h1.1,by rw [e1w,hlow D hlt];exact h1.2.1,fun hS=>?_,fun q hq e=>?_⟩
     .rw [<- hE1] at hS;exact h1.2.2.1 hS
     .rw [<- hE1] at hq e
      by_cases hqr:q=s.h.length
      .subst hqr;simp at e;omega
      .simp only [upd,if_neg hqr] at hq e
       exact h1.2.2.2 q hq e
  have fin:∀ (st:LoopState) (pend:Option Code) fr1 ps1 a1 b1,st≠.busy->E2.rows s.h.length=.loop st pend fr1 ps1 a1 b1->∃ E3:En,(Instr.endLoop (E.w.heap.size+1)).run P E2.w=.ok pend E3.w/\Ext E E3/\
    Sim G n (((s.wr [(s.h.length,.loop .ready none ((List.range n).map s.get) ps asg body)]).wr eff.wr).wr [(s.h.length,.dead)]) E3 { a with defers:=[{ target:=.collected E.w.heap.size,args:= #[] }]++a.defers }:=by
   intro st pend fr1 ps1 a1 b1 hst hrow
   have hl:=hρ2 (by rw [hrow];rfl)
   have h0:=i2.row s.h.length
   unfold RowOK at h0
   rw [hrow] at h0
   obtain ⟨fn2,tm2,D2,k1,_,_⟩:=h0
   have hend:=run_endLoop (P:=P) k1 hst
   rw [hl] at hend
   obtain ⟨x3,i3⟩:=F3 i2 hrow (.loop { { state:=st,pending:=pend,fn:=fn2,tmps:=tm2,params:=ps1,assign:=a1,body:=b1,defers:=D2:Loop } with state:=.exhausted })
   refine ⟨_,?_,(x1.trans x2).trans x3,⟨i3,?_,i.sz,fun t=>?_,(hdf1.ext x2).ext x3⟩⟩
   .rw [hend];simp only [hl]
   .simp only [hr2,AS.row_wr]
   .rw [AS.get_wr,AS.get_wr,AS.get_wr]
    exact (i.tm t).ext i.inv ((x1.trans x2).trans x3)
  rcases hk with ⟨fr1,ps1,a1,b1,h1,h2⟩|⟨c,fr1,ps1,a1,b1,h1,h2⟩
  .obtain ⟨E3,h3,h4,h5⟩:=fin .ready none fr1 ps1 a1 b1 (by simp) (by rw [hr2];exact h1)
   exact ⟨none,_,h3,_,E3,rfl,h4.toK k,h5,h2⟩
  .obtain ⟨E3,h3,h4,h5⟩:=fin .done (some c) fr1 ps1 a1 b1 (by simp) (by rw [hr2];exact h1)
   refine ⟨some c,_,h3,wpIn_mono (h2 E3 _ h5) ?_⟩
   rintro e' a'' w'' ⟨s'',E'',rfl,k2,k3,k4⟩
   exact ⟨s'',E'',rfl,(h4.toK k).trans k2,k3,k4⟩
theorem lH {P:Program} {G:Nat->Option (List AV)} {f:FuncId} {fn:Func} {c:Code} {args:List AV} {H:List ARow} {rows:Nat->ARow} {fp:List Nat} {eff:eL} (ok:BB G H rows fp)
  (hf:P.funcs[f]? =some fn) (hb:fn.body=some c) (hgo:fR P f=true) (hn:args.length<=fn.ntmps) (hargs:aP (fun r=>decide (r<H.length)) args=true) (hwr:∀ p∈eff.wr,p.1∈fp)
  (hbody:∀ b:Nat,@cG ⟨none,some b⟩ P G fn.ntmps H.length c (eR P fn fun v s=>v=eff.val/\aI (fun r=>fp.contains r) v=true/\∀ r∈fp,s.row r=upd rows eff.wr r/\aG (fun r=>fp.contains r) (s.row r)=true) ⟨eJ (aK 0 args),H⟩):
  c8 P G f args rows fp eff:=by
 refine ⟨hgo,hwr,fun E us i hE hus=>?_⟩
 obtain ⟨ic,ag,hrow,hcl⟩:=tV ok i hE
 have hlen:=hus.length
 have sim: @Sim ⟨none,some (cut E H).w.heap.size⟩ G fn.ntmps ⟨eJ (aK 0 args),H⟩ (cut E H) { tmps:=us.toArray++Array.replicate (fn.ntmps - us.toArray.size) undef,defers:=[] }:=by
  refine @Sim.mk ⟨none,some (cut E H).w.heap.size⟩ _ _ _ _ _ ic rfl (by simp;omega) (fun t=>?_) DefOK.nilB
  show Rel (cut E H) ((eJ (aK 0 args)).getD t .undef) _
  rw [jB]
  simp only [az,if_true,dm]
  rw [bc]
  cases hx:args[t]? with
  |none=>simp [Rel]
  |some x=>
   obtain ⟨v,h1,h2⟩:=hus.get hx
   have hlt:=(aq.1 h1).1
   have:(us.toArray++Array.replicate (fn.ntmps - us.toArray.size) undef).getD t undef=v:=by
    rw [dt,jp,if_pos (by simpa using hlt)]
    simp only [ii,h1,eu]
   rw [this]
   have hin:aI (fun r=>decide (r<H.length)) x=true:=by
    have:=lT hargs t
    rw [bc,hx] at this
    simpa using this
   exact h2.agree ag hin
 refine nY hf hb (wpIn_mono (hbody _ (cut E H) _ sim) ?_)
 rintro e a' w' ⟨s',Ec',rfl,xk,sim',q⟩
 obtain ⟨E2,sim2,xk2,hleave⟩:=uQ (P:=P) xk sim'
 have fin:∀ v,dF P fn s'=some v->(v=eff.val/\aI (fun r=>fp.contains r) v=true/\∀ r∈fp,s'.row r=upd rows eff.wr r/\aG (fun r=>fp.contains r) (s'.row r)=true)->
   ∃ u,(results fn a'.tmps).run P E2.w=.ok u E2.w/\∃ v E',Ending.returned u=.returned v/\E2.w=E'.w/\Rel E' eff.val v/\Ext E E'/\Inv G E'/\E'.rows=upd E.rows eff.wr:=by
  rintro v hv ⟨rfl,hin,hend⟩
  obtain ⟨u,hu,ru⟩:=kX (P:=P) sim2 hv
  obtain ⟨E',c1,c2,c3,c4,c5⟩:=tW ok i hE hwr xk2 sim2.inv (fun r hr=>by rw [sim2.rows];exact hend r hr) hin ru
  exact ⟨u,hu,u,E',rfl,c1,c2,c3,c4,c5⟩
 cases e with
 |normal=>
  obtain ⟨v,h1,h2⟩:=q
  exact hleave fn _ (fin v h1 h2)
 |ret=>
  obtain ⟨v,h1,h2⟩:=q
  exact hleave fn _ (fin v h1 h2)
 |exit id=>exact q.elim
 |goto l=>exact q.elim
 |panic ch=>exact q.elim
 |outgrown=>exact q.elim
end Go.AM
namespace Go.AM
abbrev gQ:=FuncId->List AV->List ARow->Option (AV × List (Nat × ARow))
def aA9 (n:Nat):Option Tmp->Bool
 |some t=>decide (t<n)
 |none=>true
theorem YV {n:Nat} {d:Option Tmp} (h:aA9 n d=true):jO n d:=by
 cases d with
 |none=>trivial
 |some t=>simpa [aA9,jO] using h
def UM:Op->Bool
 | .next _ _=>true
 |_=>false
def JP:IntKind->Nat
 | .i8=>0| .i16=>1| .i32=>2| .i64=>3| .u8=>4| .u16=>5| .u32=>6| .u64=>7
theorem UL {a b:IntKind} (h:Nat.beq (JP a) (JP b)=true):a=b:=by
 cases a<;>cases b<;>first|rfl|(simp [JP] at h;done)|(exact absurd (jo h) (by decide))
def c9:Int->Int->Bool
 | .ofNat a,.ofNat b=>Nat.beq a b
 | .negSucc a,.negSucc b=>Nat.beq a b
 |_,_=>false
theorem YM {a b:Int} (h:c9 a b=true):a=b:=by
 cases a<;>cases b<;>simp only [c9] at h
 .rw [jo h]
 .cases h
 .cases h
 .rw [jo h]
def u2:List UInt8->List UInt8->Bool
 | [],[]=>true
 |a::x,b::y=>match Nat.beq a.toNat b.toNat with
  |true=>u2 x y
  |false=>false
 |_,_=>false
theorem E7:∀ {x y:List UInt8},u2 x y=true->x=y
 | [],[],_=>rfl
 | [],_::_,h=>by simp [u2] at h
 |_::_,[],h=>by simp [u2] at h
 |a::x,b::y,h=>by
  simp only [u2] at h
  split at h
  .rename_i e
   rw [UInt8.toNat_inj.1 (jo e),E7 h]
  .cases h
mutual
def uY:AV->AV->Bool
 | .undef,.undef=>true
 | .bool a,.bool b=>decide (a=b)
 | .int k n,.int k' n'=>match c9 n n' with
  |true=>Nat.beq (JP k) (JP k')
  |false=>false
 | .agg a,.agg b=>HC a b
 | .tup a,.tup b=>HC a b
 | .sl f a,.sl f' b=>decide (f=f')&&eqE a b
 | .osl a b c d e f,.osl a' b' c' d' e' f'=>decide (a=a')&&(decide (b=b')&&(decide (c=c')&&(decide (d=d')&&(decide (e=e')&&decide (f=f')))))
 | .rsv a,.rsv b=>decide (a=b)
 | .rsl a b c d e,.rsl a' b' c' d' e'=>decide (a=a')&&(decide (b=b')&&(decide (c=c')&&(decide (d=d')&&decide (e=e'))))
 | .ptr a b c,.ptr a' b' c'=>decide (a=a')&&(decide (b=b')&&decide (c=c'))
 | .imm a,.imm b=>HC a b
 | .str a,.str b=>u2 a.data.toList b.data.toList
 | .fn (.func f) a b,.fn (.func f') a' b'=>decide (f=f')&&(HC a a'&&HC b b')
 | .iface t v,.iface t' v'=>decide (t=t')&&uY v v'
 | .yld a,.yld b=>decide (a=b)
 | .omp a,.omp b=>decide (a=b)
 | .nilptr,.nilptr=>true
 | .nilfn,.nilfn=>true
 | .niliface,.niliface=>true
 |_,_=>false
def HC:List AV->List AV->Bool
 | [],[]=>true
 |x::a,y::b=>match uY x y with
  |true=>HC a b
  |false=>false
 |_,_=>false
def eqE:List (List AV)->List (List AV)->Bool
 | [],[]=>true
 |x::a,y::b=>HC x y&&eqE a b
 |_,_=>false
end
mutual
theorem GM:∀ a b:AV,uY a b=true->a=b
 | .undef,b,h=>by cases b<;>simp [uY] at h ⊢
 | .bool a,b,h=>by cases b<;>simp [uY] at h ⊢<;>exact h
 | .int k n,b,h=>by
  cases b<;>simp only [uY] at h<;>first|(cases h;done)|skip
  split at h
  .rename_i e
   rw [YM e,UL h]
  .cases h
 | .agg a,b,h=>by cases b<;>simp [uY] at h ⊢<;>exact lE _ _ h
 | .tup a,b,h=>by cases b<;>simp [uY] at h ⊢<;>exact lE _ _ h
 | .sl f a,b,h=>by cases b<;>simp [uY] at h ⊢<;>exact ⟨h.1,V4 _ _ h.2⟩
 | .osl _ _ _ _ _ _,b,h=>by cases b<;>simp [uY] at h ⊢<;>exact h
 | .rsl _ _ _ _ _,b,h=>by cases b<;>simp [uY] at h ⊢<;>exact h
 | .rsv _,b,h=>by cases b<;>simp [uY] at h ⊢<;>exact h
 | .ptr _ _ _,b,h=>by cases b<;>simp [uY] at h ⊢<;>exact h
 | .imm a,b,h=>by cases b<;>simp [uY] at h ⊢<;>exact lE _ _ h
 | .nilptr,b,h=>by cases b<;>simp [uY] at h ⊢
 | .nilfn,b,h=>by cases b<;>simp [uY] at h ⊢
 | .niliface,b,h=>by cases b<;>simp [uY] at h ⊢
 | .str a,b,h=>by
  cases b<;>simp only [uY] at h<;>first|(cases h;done)|skip
  have:=E7 h
  rw [ByteArray.ext (ja this)]
 | .mp _ _,b,h=>by cases b<;>simp [uY] at h
 | .omp _,b,h=>by cases b<;>simp [uY] at h ⊢<;>exact h
 | .yld _,b,h=>by cases b<;>simp [uY] at h ⊢<;>exact h
 | .fn f x y,b,h=>by
  cases b with
  |fn f' x' y'=>
   cases f<;>cases f'<;>simp [uY] at h
   rw [h.1,lE _ _ h.2.1,lE _ _ h.2.2]
  |_=>cases f<;>simp [uY] at h
 | .iface t v,b,h=>by
  cases b<;>simp [uY] at h ⊢
  exact ⟨h.1,GM _ _ h.2⟩
 | .anyb,b,h=>by cases b<;>simp [uY] at h
theorem lE:∀ a b:List AV,HC a b=true->a=b
 | [],b,h=>by cases b<;>simp [HC] at h ⊢
 |x::a,b,h=>by
  cases b with
  |nil=>simp [HC] at h
  |cons y b=>
   simp only [HC] at h
   split at h
   .rename_i e
    rw [GM x y e,lE a b h]
   .cases h
theorem V4:∀ a b:List (List AV),eqE a b=true->a=b
 | [],b,h=>by cases b<;>simp [eqE] at h ⊢
 |x::a,b,h=>by
  cases b with
  |nil=>simp [eqE] at h
  |cons y b=>
   simp only [eqE,ae] at h
   rw [lE x y h.1,V4 a b h.2]
end
def oL:ARow->ARow->Bool
 | .none,.none=>true
 | .dead,.dead=>true
 | .cells v c,.cells v' c'=>decide (v=v')&&HC c c'
 |_,_=>false
theorem A1 {a b:ARow} (h:oL a b=true):a=b:=by
 cases a<;>cases b<;>simp [oL] at h ⊢
 exact ⟨h.1,lE _ _ h.2⟩
def yW:List Nat->Bool
 | []=>true
 |x::l=> !l.contains x&&yW l
theorem CW:∀ {l:List Nat},yW l=true->l.Nodup
 | [],_=>List.nodup_nil
 |x::l,h=>by
  simp [yW] at h
  exact List.nodup_cons.2 ⟨h.1,CW h.2⟩
theorem kR (c:Nat × ARow->Bool):∀ (wr:List (Nat × ARow)) (R:Nat->ARow),(∀ p∈wr,c p=false->R p.1=p.2)->(wr.map (·.1)).Nodup->upd R (wr.filter c)=upd R wr
 | [],_,_,_=>rfl
 | (r, x) :: l, R, h, hn => by
  rw [ay,List.nodup_cons] at hn
  have e:upd R ((r,x)::l)=upd (fun q=>if q=r then x else R q) l:=rfl
  cases hcx:c (r,x) with
  |true=>
   rw [List.filter_cons_of_pos hcx,e]
   have e2:upd R ((r,x)::l.filter c)=upd (fun q=>if q=r then x else R q) (l.filter c):=rfl
   rw [e2]
   refine kR c l _ (fun p hp hc=>?_) hn.2
   have:p.1≠r:=fun hpr=>hn.1 (hpr ▸ cf.2 ⟨p,hp,rfl⟩)
   simp only [if_neg this]
   exact h p (dn _ hp) hc
  |false=>
   rw [List.filter_cons_of_neg (by simp [hcx]),e]
   have hR:(fun q=>if q=r then x else R q)=R:=by
    funext q
    by_cases hq:q=r
    .subst hq;simp only [if_true];exact (h (q,x) (cy ..) hcx).symm
    .simp only [if_neg hq]
   rw [hR]
   exact kR c l R (fun p hp hc=>h p (dn _ hp) hc) hn.2
theorem GS {P:Program} {G:Nat->Option (List AV)} {f:FuncId} {args:List AV} {rows:Nat->ARow} {v:AV} {wr:List (Nat × ARow)} (h:c8 P G f args rows (wr.map (·.1)) ⟨v,wr⟩) (hn:(wr.map (·.1)).Nodup) (c:Nat × ARow->Bool)
  (hc:∀ p∈wr,c p=false->rows p.1=p.2):c8 P G f args rows (wr.map (·.1)) ⟨v,wr.filter c⟩:=by
 obtain ⟨h1,h2,h3⟩:=h
 refine ⟨h1,fun p hp=>h2 p (List.mem_filter.1 hp).1,fun E us i hr hl=>(h3 E us i hr hl).mono fun e w' ⟨v',E',a1,a2,a3,a4,a5,a6⟩=>⟨v',E',a1,a2,a3,a4,a5,?_⟩⟩
 rw [a6]
 refine (kR c wr E.rows (fun p hp hcp=>?_) hn).symm
 rw [hr p.1 (cf.2 ⟨p,hp,rfl⟩)]
 exact hc p hp hcp
theorem HG {P:Program} {G:Nat->Option (List AV)} {r:Nat} {args:List AV} {rows:Nat->ARow} {v:AV} {wr:List (Nat × ARow)} (h:wI P G r args rows (wr.map (·.1)) ⟨v,wr⟩) (hn:(wr.map (·.1)).Nodup) (c:Nat × ARow->Bool)
  (hc:∀ p∈wr,c p=false->rows p.1=p.2):wI P G r args rows (wr.map (·.1)) ⟨v,wr.filter c⟩:=by
 obtain ⟨h0,h1,h2,h3⟩:=h
 refine ⟨h0,h1,fun p hp=>h2 p (List.mem_filter.1 hp).1,fun E us i hr hl=>?_⟩
 obtain ⟨fn,tmps,asg,body,a,b⟩:=h3 E us i hr hl
 refine ⟨fn,tmps,asg,body,a,b.mono fun e w' ⟨v',E',a1,a2,a3,a4,a5,a6⟩=>⟨v',E',a1,a2,a3,a4,a5,?_⟩⟩
 rw [a6]
 refine (kR c wr E.rows (fun p hp hcp=>?_) hn).symm
 rw [hr p.1 (cf.2 ⟨p,hp,rfl⟩)]
 exact hc p hp hcp
def MV:ARow->Bool
 | .loop .. =>true
 |_=>false
abbrev fJ:=Nat->List AV->List ARow->Option (AV × List (Nat × ARow))
section
variable (P:Program) (G:Nat->Option (List AV)) (cx:gQ) (yx:fJ)
def T4:AV->AV
 | .rsl r ver off n sz=>.osl r ver off n sz false
 |v=>v
def TN (m:Option eV) (s:AS) (d:Option Tmp):Option (AV × List (Nat × ARow))->Option (Option eV × AS)
 |some (v,wr)=>if yW (wr.map (·.1))=true then
   some (lM m (wr.map (·.1)) ((wr.filter fun q=> !oL (s.row q.1) q.2).map (·.1)),(s.wr (wr.filter fun q=> !oL (s.row q.1) q.2)).put d v) else none
 |none=>none
def opX (n : Nat) (p : nA) (m : Option eV) (s : AS) : Option (Option eV × AS) :=
 if aA9 n p.1 = true /\ UM p.2.1 = false then
  match HJ p.2.2 s with
  |some false=>some (lM m [] [],s.put p.1 (.tup []))
  |some true=>match fX p.2.1 (d8 G s.get) with
   |some (f,args)=>TN m s p.1 (cx f (args.map T4) s.h)
   |none=>match lO p.2.1 (d8 G s.get) with
    |some (r,args)=>TN m s p.1 (yx r args s.h)
    |none=>match pT P p.2.1 (d8 G s.get) s.row s.h.length with
     |some eff=>if eff.wr.all (fun q=> !MV q.2)=true then some (lM m (RV p.2.1 (d8 G s.get)) (eff.wr.map (·.1)),(s.wr eff.wr).put p.1 eff.val) else none
     |none=>none
  |none=>none
 else none
def FG (n:Nat):List nA->Option eV->AS->Option (Option eV × AS)
 | [],m,s=>some (m,s)
 |p::rest,m,s=>match opX P G cx yx n p m s with
  |some (m',s')=>FG n rest m' s'
  |none=>none
def pR (f:AS->Option (List (Exit × AS))):List (Exit × AS)->Option (List (Exit × AS))
 | []=>some []
 |(.normal,s)::r=>match f s,pR f r with
  |some a,some b=>some (a++b)
  |_,_=>none
 |p::r=>match pR f r with
  |some b=>some (p::b)
  |none=>none
def aAf:AV->Bool
 | .int _ (.ofNat m)=>Nat.beq m m
 | .int _ (.negSucc m)=>Nat.beq m m
 | .bool true=>true
 | .bool false=>true
 | .osl a b c d _ _=>match Nat.beq a b,Nat.beq c d with
  |true,true=>true
  |true,false=>true
  |false,true=>true
  |false,false=>true
 | .rsl a b c d _=>match Nat.beq a b,Nat.beq c d with
  |true,true=>true
  |true,false=>true
  |false,true=>true
  |false,false=>true
 | .ptr a b c=>match Nat.beq a b,Nat.beq c c with
  |true,true=>true
  |true,false=>true
  |false,true=>true
  |false,false=>true
 |_=>true
def EZ:List AV->Bool
 | []=>true
 |x::xs=>match aAf x with
  |true=>EZ xs
  |false=>false
def aAe:ARow->Bool
 | .cells v cs=>match Nat.beq v v with
  |true=>EZ cs
  |false=>false
 | .loop _ _ fr _ _ _=>EZ fr
 |_=>true
def SO:List ARow->Bool
 | []=>true
 |x::xs=>match aAe x with
  |true=>SO xs
  |false=>false
def aAd (s:AS):Bool:=match EZ s.fr with
 |true=>SO s.h
 |false=>false
def tC (f:AS->Option (List (Exit × AS))):Nat->AS->Option (List (Exit × AS))
 |0,_=>none
 |n+1,s=>match aAd s with
  |true=>match f s with
   |some L=>pR (tC f n) L
   |none=>none
  |false=>none
def GW (id:Nat):Exit × AS->Exit × AS
 |(.exit j,s)=>if j=id then (.normal,s) else (.exit j,s)
 |p=>p
def gP (n:Nat) (s:AS) (ps:Array Tmp) (asg body:Code):Nat × ARow:=(s.h.length,.loop .ready none ((List.range n).map s.get) ps asg body)
def lL (top : Bool) (N n : Nat) : Code -> AS -> Option (List (Exit × AS))
 | .skip,s=>some [(.normal,s)]
 | .region _ ops false,s=>match FG P G cx yx n (fQ ops) none s with
  |some (_,s')=>some [(.normal,s')]
  |none=>none
 | .region _ ops true,s=>if jG ops=true then match FG P G cx yx n (fQ ops) (some []) s with
   |some (some acc,s')=>if (BL acc || FA ops acc)=true then some [(.normal,s')] else none
   |_=>none
  else none
 | .seq x y,s=>match lL top N n x s with
  |some L=>pR (lL top N n y) L
  |none=>none
 | .cond c x y,s=>match d8 G s.get c with
  | .bool true=>lL top N n x s
  | .bool false=>lL top N n y s
  | .anyb=>match lL top N n x s,lL top N n y s with
   |some a,some b=>some (a++b)
   |_,_=>none
  |_=>none
 | .block id c,s=>match lL top N n c s with
  |some L=>some (L.map (GW id))
  |none=>none
 | .loop c,s=>tC (lL top N n c) N s
 | .exit id,s=>some [(.exit id,s)]
 | .ret,s=>some [(.ret,s)]
 | .label _,s=>some [(.normal,s)]
 | .scope c,s=>match lL top N n c s with
  |some L=>if (L.all fun p=>aAF p.1)=true then some L else none
  |none=>none
 | .rangeFunc g ps asg body,s=>if top=true then match d8 G s.get g with
   | .fn (.func gf) first cap=>match cx gf (first++[.yld s.h.length]++cap) (s.wr [gP n s ps asg body]).h with
    |some (v,wr)=>match upd (upd s.row [gP n s ps asg body]) wr s.h.length with
     | .loop .ready none _ _ _ _=>some [(.normal,((s.wr [gP n s ps asg body]).wr wr).wr [(s.h.length,.dead)])]
     | .loop .done (some .ret) _ _ _ _=>some [(.ret,((s.wr [gP n s ps asg body]).wr wr).wr [(s.h.length,.dead)])]
     | .loop .done (some (.exit id)) _ _ _ _=>some [(.exit id,((s.wr [gP n s ps asg body]).wr wr).wr [(s.h.length,.dead)])]
     |_=>none
    |none=>none
   |_=>none
  else none
 |_,_=>none
end
def jX (P:Program) (G:Nat->Option (List AV)) (cx:gQ):Prop:=∀ f args h v wr,cx f args h=some (v,wr)->c8 P G f args (fun r=>h.getD r .none) (wr.map (·.1)) ⟨v,wr⟩
def kE (P:Program) (G:Nat->Option (List AV)) (yx:fJ):Prop:=∀ r args h v wr,yx r args h=some (v,wr)->wI P G r args (fun r=>h.getD r .none) (wr.map (·.1)) ⟨v,wr⟩
section
variable {P:Program} {G:Nat->Option (List AV)} {cx:gQ} {yx:fJ}
theorem XI {E:En} {v:AV} {u:Value} (h:Rel E v u):Rel E (T4 v) u:=by
 unfold T4
 split
 .simp only [Rel] at h ⊢
  exact ⟨h.1,h.2.imp fun _ ⟨cap,cur,e,a1,a2,a3,a4,a5,a6⟩=>⟨cap,cur,e,a1,a2,a3,by simp,a5,a6⟩⟩
 .exact h
theorem II {E:En}:∀ {vs:List AV} {us:List Value},RelL E vs us->RelL E (vs.map T4) us
 | [],_,h=>by simpa only [RelL,bu] using h
 |v::vs,_,h=>by
  simp only [RelL] at h
  obtain ⟨u,rest,rfl,h1,h2⟩:=h
  simp only [ay,RelL]
  exact ⟨u,rest,rfl,XI h1,II h2⟩
theorem AQ {f:FuncId} {args:List AV} {rows:Nat->ARow} {fp:List Nat} {eff:eL} (h:c8 P G f (args.map T4) rows fp eff):c8 P G f args rows fp eff:=
 ⟨h.1,h.2.1,fun E us i hr hl=>h.2.2 E us i hr (II hl)⟩
theorem FP {m m':Option eV} {s s':AS} {d:Option Tmp} {o:Option (AV × List (Nat × ARow))} (h:TN m s d o=some (m',s')):∃ v wr,o=some (v,wr)/\(wr.map (·.1)).Nodup/\
  m'=lM m (wr.map (·.1)) ((wr.filter fun q=> !oL (s.row q.1) q.2).map (·.1))/\s'=(s.wr (wr.filter fun q=> !oL (s.row q.1) q.2)).put d v:=by
 unfold TN at h
 split at h
 .rename_i v wr
  split at h
  .rename_i hnd
   injection h with h
   obtain ⟨rfl,rfl⟩:=ft h
   exact ⟨v,wr,rfl,CW hnd,rfl,rfl⟩
  .cases h
 .cases h
theorem aAB {n:Nat} {K:Option eV->AS->Prop} {p:nA} {rest:List nA} {m m':Option eV} {s s':AS} (h:opX P G cx yx n p m s=some (m',s')) (hk:bG P G n K rest m' s') (hc:jX P G cx) (hy:kE P G yx):bG P G n K (p::rest) m s:=by
 unfold opX at h
 split at h
 .rename_i hd
  refine ⟨YV hd.1,?_⟩
  split at h
  .rename_i hw
   injection h with h
   obtain ⟨rfl,rfl⟩:=ft h
   simp only [hw]
   exact hk
  .rename_i hw
   simp only [hw]
   have hop:∀ KE:eL->Option eV->Prop,(∃ eff fp,OpC P G p.2.1 (d8 G s.get) s.row s.h.length fp eff/\KE eff (lM m fp (eff.wr.map (·.1))))->MA P G p.2.1 s m KE:=by
    intro KE hKE
    unfold MA
    split
    .rename_i x hx
     rw [hx] at hd
     simp [UM] at hd
    .exact hKE
   refine hop _ ?_
   have hflt:∀ (wr:List (Nat × ARow)),∀ q∈wr,(!oL (s.row q.1) q.2)=false->s.row q.1=q.2:=fun wr q _ hq=>by
    have h2:oL (s.row q.1) q.2=true:=by simpa using hq
    exact A1 h2
   split at h
   .rename_i f args hcall
    obtain ⟨v,wr,hcx,hnd,rfl,rfl⟩:=FP h
    refine ⟨⟨v,wr.filter fun q=> !oL (s.row q.1) q.2⟩,wr.map (·.1),?_,hk⟩
    unfold OpC
    rw [hcall]
    exact GS (AQ (hc _ _ _ _ _ hcx)) hnd _ (hflt wr)
   .rename_i hcall
    split at h
    .rename_i r args hyld
     obtain ⟨v,wr,hcx,hnd,rfl,rfl⟩:=FP h
     refine ⟨⟨v,wr.filter fun q=> !oL (s.row q.1) q.2⟩,wr.map (·.1),?_,hk⟩
     unfold OpC
     rw [hcall,hyld]
     exact HG (hy _ _ _ _ _ hcx) hnd _ (hflt wr)
    .rename_i hyld
     split at h
     .rename_i eff ha
      split at h
      case isFalse=>cases h
      injection h with h
      obtain ⟨rfl,rfl⟩:=ft h
      refine ⟨eff,_,?_,hk⟩
      unfold OpC
      rw [hcall,hyld]
      exact ⟨ha,rfl⟩
     .cases h
  .cases h
 .cases h
theorem FD {n:Nat} {K:Option eV->AS->Prop} (hc:jX P G cx) (hy:kE P G yx):∀ (l:List nA) (m m':Option eV) (s s':AS),FG P G cx yx n l m s=some (m',s')->K m' s'->bG P G n K l m s
 | [],m,m',s,s',h,hk=>by
  simp only [FG,ao,db] at h
  obtain ⟨rfl,rfl⟩:=h
  exact hk
 |p::rest,m,m',s,s',h,hk=>by
  simp only [FG] at h
  split at h
  .rename_i m1 s1 h1
   exact aAB h1 (FD hc hy rest m1 m' s1 s' h hk) hc hy
  .cases h
theorem tZ {f:AS->Option (List (Exit × AS))}:∀ {L L':List (Exit × AS)},pR f L=some L'->∀ p∈L,(p.1=.normal/\∃ a,f p.2=some a/\∀ q∈a,q∈L')\/(p.1≠.normal/\p∈L')
 | [],_,_,p,hp=>by cases hp
 | (e, s) :: r, L', h, p, hp => by
  cases e with
  |normal=>
   simp only [pR] at h
   split at h
   .rename_i a b h1 h2
    injection h with h
    subst h
    rcases bn.1 hp with rfl|hp
    .exact .inl ⟨rfl,a,h1,fun q hq=>bo.2 (.inl hq)⟩
    .rcases tZ h2 p hp with ⟨e,a',q1,q2⟩|⟨e,q⟩
     .exact .inl ⟨e,a',q1,fun q hq=>bo.2 (.inr (q2 q hq))⟩
     .exact .inr ⟨e,bo.2 (.inr q)⟩
   .cases h
  |_=>
   simp only [pR] at h
   split at h
   .rename_i b h2
    injection h with h
    subst h
    rcases bn.1 hp with rfl|hp
    .exact .inr ⟨by simp,cy ..⟩
    .rcases tZ h2 p hp with ⟨e,a',q1,q2⟩|⟨e,q⟩
     .exact .inl ⟨e,a',q1,fun q hq=>dn _ (q2 q hq)⟩
     .exact .inr ⟨e,dn _ q⟩
   .cases h
theorem VZ {K:AS->Prop} {Q:Exit->AS->Prop} {e:Exit} {s:AS} (h:(e=.normal/\K s)\/(e≠.normal/\Q e s)):mY K Q e s:=by
 rcases h with ⟨rfl,h⟩|⟨hn,h⟩
 .exact h
 .cases e<;>first|exact absurd rfl hn|exact h
theorem GY [i6] {n k:Nat} {c:Code} {f:AS->Option (List (Exit × AS))} (hf:∀ (s:AS) (L:List (Exit × AS)) (Q:Exit->AS->Prop),f s=some L->(∀ p∈L,Q p.1 p.2)->cG P G n k c Q s) (N:Nat) (s:AS) (L:List (Exit × AS)) (Q:Exit->AS->Prop) (h:tC f N s=some L) (hq:∀ p∈L,Q p.1 p.2):cG P G n k (.loop c) Q s:=fun E a i=>by
 refine wpIn_mono (Q:=fun e' a' w'=>∃ s2 E',w'=E'.w/\ExtK k E E'/\Sim G n s2 E' a'/\Q e' s2) ?_ ?_
 .refine wpIn_loop_ghost (fun m a' w'=>∃ s2 E' L,tC f m s2=some L/\(∀ p∈L,Q p.1 p.2)/\w'=E'.w/\ExtK k E E'/\Sim G n s2 E' a') N ⟨s,E,L,h,hq,rfl,(Ext.refl _).toK k,i⟩ ?_
  rintro m a' w' ⟨s2,E',L,hm,hL,rfl,hx,hs⟩
  cases m with
  |zero=>simp [tC] at hm
  |succ m=>
   simp only [tC] at hm
   split at hm
   case h_2=>cases hm
   cases hr:f s2 with
   |none=>rw [hr] at hm;cases hm
   |some L1=>
    rw [hr] at hm
    refine wpIn_mono (hf s2 L1 (fun e' s4=>(e',s4)∈L1) hr (fun p hp=>hp) E' a' hs) ?_
    rintro e2 a'' w'' ⟨s4,E'',rfl,h2,h3,h4⟩
    rcases tZ hm _ h4 with ⟨e,a,q1,q2⟩|⟨e,q⟩
    .simp only at e
     subst e
     exact ⟨m,Nat.lt_succ_self m,s4,E'',a,q1,fun p hp=>hL p (q2 p hp),rfl,hx.trans h2,h3⟩
    .have hq4:=hL _ q
     cases e2 with
     |normal=>exact absurd rfl e
     |exit id=>exact ⟨s4,E'',rfl,hx.trans h2,h3,hq4⟩
     |goto l=>exact ⟨s4,E'',rfl,hx.trans h2,h3,hq4⟩
     |ret=>exact ⟨s4,E'',rfl,hx.trans h2,h3,hq4⟩
     |panic ch=>exact ⟨s4,E'',rfl,hx.trans h2,h3,hq4⟩
     |outgrown=>exact ⟨s4,E'',rfl,hx.trans h2,h3,hq4⟩
 .rintro e' a' w' h'
  exact h'
theorem iX [rd:i6] {top:Bool} {N n k:Nat} (hm:P.follows .mixedOrders=true) (htop:top=true->rd.round=none/\∃ b,rd.base=some b) (hc:jX P G cx) (hy:kE P G yx):∀ (c:Code) (s:AS) (L:List (Exit × AS)) (Q:Exit->AS->Prop),lL P G cx yx top N n c s=some L->(∀ p∈L,Q p.1 p.2)->cG P G n k c Q s
 | .skip,s,L,Q,h,hq=>by
  simp only [lL,ao] at h
  subst h
  exact AY (hq _ (cy ..))
 | .region id ops false,s,L,Q,h,hq=>by
  simp only [lL] at h
  split at h
  .rename_i m1 s1 h1
   simp only [ao] at h
   subst h
   exact t3 (FD hc hy _ _ _ _ _ h1 (hq _ (cy ..)))
  .cases h
 | .region id ops true,s,L,Q,h,hq=>by
  simp only [lL] at h
  split at h
  .rename_i hs
   split at h
   .rename_i acc s1 h1
    split at h
    .rename_i hw
     simp only [ao] at h
     subst h
     refine GZ hm hs (FD hc hy _ _ _ _ _ h1 ⟨?_,hq _ (cy ..)⟩)
     simpa [KQ] using hw
    .cases h
   .cases h
  .cases h
 | .seq x y,s,L,Q,h,hq=>by
  simp only [lL] at h
  refine GX ?_
  cases hx:lL P G cx yx top N n x s with
  |none=>rw [hx] at h;cases h
  |some L1=>
   rw [hx] at h
   refine iX hm htop hc hy x s L1 _ hx fun p hp=>VZ ?_
   rcases tZ h p hp with ⟨e,a,q1,q2⟩|⟨e,q⟩
   .exact .inl ⟨e,iX hm htop hc hy y p.2 a Q q1 fun p' hp'=>hq p' (q2 p' hp')⟩
   .exact .inr ⟨e,hq p q⟩
 | .cond c x y,s,L,Q,h,hq=>by
  simp only [lL] at h
  split at h
  .rename_i hb
   exact t5 hb (fun _=>iX hm htop hc hy x s L Q h hq) (fun h0=>by cases h0)
  .rename_i hb
   exact t5 hb (fun h0=>by cases h0) (fun _=>iX hm htop hc hy y s L Q h hq)
  .rename_i hb
   split at h
   .rename_i a b h1 h2
    simp only [ao] at h
    subst h
    exact n7 hb (iX hm htop hc hy x s a Q h1 fun p hp=>hq p (bo.2 (.inl hp))) (iX hm htop hc hy y s b Q h2 fun p hp=>hq p (bo.2 (.inr hp)))
   .cases h
  .cases h
 | .block id c,s,L,Q,h,hq=>by
  simp only [lL] at h
  refine qO ?_
  cases hx:lL P G cx yx top N n c s with
  |none=>rw [hx] at h;cases h
  |some L1=>
   rw [hx] at h
   simp only [ao] at h
   subst h
   refine iX hm htop hc hy c s L1 _ hx fun p hp=>?_
   have h2:=hq _ (cf.2 ⟨p,hp,rfl⟩)
   obtain ⟨e,s1⟩:=p
   cases e with
   |exit j=>
    simp only [GW] at h2
    simp only [oD]
    split
    .rename_i e;rw [if_pos e] at h2;exact h2
    .rename_i e;rw [if_neg e] at h2;exact h2
   |_=>exact h2
 | .loop c,s,L,Q,h,hq=>by
  simp only [lL] at h
  exact GY (fun s L Q h hq=>iX hm htop hc hy c s L Q h hq) N s L Q h hq
 | .exit id,s,L,Q,h,hq=>by
  simp only [lL,ao] at h
  subst h
  exact t4 (hq _ (cy ..))
 | .ret,s,L,Q,h,hq=>by
  simp only [lL,ao] at h
  subst h
  exact w5 (hq _ (cy ..))
 | .rangeFunc g ps asg body,s,L,Q,h,hq=>by
  simp only [lL] at h
  split at h
  case isFalse=>cases h
  rename_i ht
  obtain ⟨hr,b,hb⟩:=htop ht
  split at h
  case h_2=>cases h
  rename_i gf first cap hg
  split at h
  case h_2=>cases h
  rename_i v wr hcx
  have hcall:=hc _ _ _ _ _ hcx
  have hrows:(fun r=>(s.wr [gP n s ps asg body]).h.getD r .none)=upd s.row [gP n s ps asg body]:=AS.row_wr s [gP n s ps asg body]
  rw [hrows] at hcall
  split at h
  .rename_i fr1 ps1 a1 b1 hrow
   simp only [ao] at h
   subst h
   exact iB hr hb hg hcall (.inl ⟨_,_,_,_,hrow,hq _ (cy ..)⟩)
  .rename_i fr1 ps1 a1 b1 hrow
   simp only [ao] at h
   subst h
   exact iB hr hb hg hcall (.inr ⟨_,_,_,_,_,hrow,w5 (hq _ (cy ..))⟩)
  .rename_i id fr1 ps1 a1 b1 hrow
   simp only [ao] at h
   subst h
   exact iB hr hb hg hcall (.inr ⟨_,_,_,_,_,hrow,t4 (hq _ (cy ..))⟩)
  .cases h
 | .scope c,s,L,Q,h,hq=>by
  simp only [lL] at h
  split at h
  .rename_i L1 h1
   simp only [au,ao] at h
   obtain ⟨h2,rfl⟩:=h
   exact E9 (iX hm htop hc hy c s L1 _ h1 fun p hp=>⟨cl.1 h2 p hp,hq p hp⟩)
  .cases h
 | .label _,s,L,Q,h,hq=>by
  simp only [lL,ao] at h
  subst h
  exact EA (hq _ (cy ..))
 | .goto ..,s,L,Q,h,hq=>by simp [lL] at h
 | .refuse ..,s,L,Q,h,hq=>by simp [lL] at h
end
def LF (h rows:Nat->ARow):Prop:=∀ r st pd fr ps a b,rows r=.loop st pd fr ps a b->∃ st' pd' fr',h r=.loop st' pd' fr' ps a b
theorem LF.refl (h:Nat->ARow):LF h h:=fun r st pd fr ps a b e=>⟨st,pd,fr,e⟩
theorem LF.trans {h1 h2 h3:Nat->ARow} (x:LF h1 h2) (y:LF h2 h3):LF h1 h3:=fun r st pd fr ps a b e=>by
 obtain ⟨st',pd',fr',e'⟩:=y r st pd fr ps a b e
 exact x r st' pd' fr' ps a b e'
theorem LF.eq {h1 h2:Nat->ARow} (e:h2=h1):LF h1 h2:=e ▸ LF.refl _
def RW (cx:gQ):Prop:=∀ f args (h:List ARow) v wr,cx f args h=some (v,wr)->LF (fun r=>h.getD r .none) (upd (fun r=>h.getD r .none) wr)
def WR (yx:fJ):Prop:=∀ r args (h:List ARow) v wr,yx r args h=some (v,wr)->LF (fun r=>h.getD r .none) (upd (fun r=>h.getD r .none) wr)
theorem xB:∀ (wr:List (Nat × ARow)) (R:Nat->ARow),(wr.all fun q=> !MV q.2)=true->LF R (upd R wr)
 | [],R,_=>LF.refl R
 |(q,x)::l,R,h=>by
  simp only [bg,ae] at h
  have e:upd R ((q,x)::l)=upd (fun r=>if r=q then x else R r) l:=rfl
  rw [e]
  refine LF.trans (fun r st pd fr ps a b he=>?_) (xB l _ h.2)
  by_cases hr:r=q
  .simp only [if_pos hr] at he
   rw [he] at h
   simp [MV] at h
  .simp only [if_neg hr] at he
   exact ⟨st,pd,fr,he⟩
section
variable {P:Program} {G:Nat->Option (List AV)} {cx:gQ} {yx:fJ}
theorem aAC {n:Nat} {p:nA} {m m':Option eV} {s s':AS} (hc:RW cx) (hy:WR yx) (h:opX P G cx yx n p m s=some (m',s')):LF s.row s'.row:=by
 unfold opX at h
 split at h
 case isFalse=>cases h
 split at h
 .injection h with h
  obtain ⟨rfl,rfl⟩:=ft h
  exact LF.eq (AS.row_put _ _ _)
 .have hput:∀ (o:Option (AV × List (Nat × ARow))),(∀ v wr,o=some (v,wr)->LF s.row (upd s.row wr))->TN m s p.1 o=some (m',s')->LF s.row s'.row:=by
   intro o ho hp
   obtain ⟨v,wr,e,hnd,rfl,rfl⟩:=FP hp
   rw [AS.row_put,AS.row_wr,kR _ wr s.row (fun q _ hq=>by
    have h2:oL (s.row q.1) q.2=true:=by simpa using hq
    exact A1 h2) hnd]
   exact ho v wr e
  split at h
  .exact hput _ (fun v wr e=>hc _ _ _ _ _ e) h
  .split at h
   .exact hput _ (fun v wr e=>hy _ _ _ _ _ e) h
   .split at h
    .rename_i eff ha
     split at h
     case isFalse=>cases h
     rename_i hnl
     injection h with h
     obtain ⟨rfl,rfl⟩:=ft h
     rw [AS.row_put,AS.row_wr]
     exact xB _ _ hnl
    .cases h
 .cases h
theorem FF {n:Nat} (hc:RW cx) (hy:WR yx):∀ (l:List nA) (m m':Option eV) (s s':AS),FG P G cx yx n l m s=some (m',s')->LF s.row s'.row
 | [],m,m',s,s',h=>by
  simp only [FG,ao,db] at h
  obtain ⟨rfl,rfl⟩:=h
  exact LF.refl _
 |p::rest,m,m',s,s',h=>by
  simp only [FG] at h
  split at h
  .rename_i m1 s1 h1
   exact (aAC hc hy h1).trans (FF hc hy rest m1 m' s1 s' h)
  .cases h
theorem t2 {f:AS->Option (List (Exit × AS))} (hf:∀ s L,f s=some L->∀ p∈L,LF s.row p.2.row):∀ {L L':List (Exit × AS)} {R:Nat->ARow},(∀ p∈L,LF R p.2.row)->pR f L=some L'->∀ p∈L',LF R p.2.row
 | [],_,_,_,h,p,hp=>by
  simp only [pR,ao] at h
  subst h
  cases hp
 | (e, s) :: r, L', R, hL, h, p, hp => by
  cases e with
  |normal=>
   simp only [pR] at h
   split at h
   .rename_i a b h1 h2
    injection h with h
    subst h
    rcases bo.1 hp with hp|hp
    .exact (hL _ (cy ..)).trans (hf s a h1 p hp)
    .exact t2 hf (fun q hq=>hL q (dn _ hq)) h2 p hp
   .cases h
  |_=>
   simp only [pR] at h
   split at h
   .rename_i b h2
    injection h with h
    subst h
    rcases bn.1 hp with rfl|hp
    .exact hL _ (cy ..)
    .exact t2 hf (fun q hq=>hL q (dn _ hq)) h2 p hp
   .cases h
theorem JQ {f:AS->Option (List (Exit × AS))} (hf:∀ s L,f s=some L->∀ p∈L,LF s.row p.2.row):∀ (n:Nat) (s:AS) (L:List (Exit × AS)),tC f n s=some L->∀ p∈L,LF s.row p.2.row
 |0,_,_,h=>by simp [tC] at h
 |n+1,s,L,h=>by
  simp only [tC] at h
  split at h
  case h_2=>cases h
  split at h
  .rename_i L1 h1
   exact t2 (JQ hf n) (hf s L1 h1) h
  .cases h
theorem NC (id:Nat) (p:Exit × AS):(GW id p).2=p.2:=by
 obtain ⟨e,s⟩:=p
 cases e<;>simp only [GW]
 split<;>rfl
theorem jU {top:Bool} {N n:Nat} (hc:RW cx) (hy:WR yx):∀ (c:Code) (s:AS) (L:List (Exit × AS)),lL P G cx yx top N n c s=some L->∀ p∈L,LF s.row p.2.row
 | .skip,s,L,h,p,hp=>by
  simp only [lL,ao] at h
  subst h
  rw [bd.1 hp]
  exact LF.refl _
 | .region id ops false,s,L,h,p,hp=>by
  simp only [lL] at h
  split at h
  .rename_i m1 s1 h1
   simp only [ao] at h
   subst h
   rw [bd.1 hp]
   exact FF hc hy _ _ _ _ _ h1
  .cases h
 | .region id ops true,s,L,h,p,hp=>by
  simp only [lL] at h
  split at h
  .split at h
   .rename_i acc s1 h1
    split at h
    .simp only [ao] at h
     subst h
     rw [bd.1 hp]
     exact FF hc hy _ _ _ _ _ h1
    .cases h
   .cases h
  .cases h
 | .seq x y,s,L,h,p,hp=>by
  simp only [lL] at h
  split at h
  .rename_i L1 h1
   exact t2 (fun s L h=>jU hc hy y s L h) (jU hc hy x s L1 h1) h p hp
  .cases h
 | .cond c x y,s,L,h,p,hp=>by
  simp only [lL] at h
  split at h
  .exact jU hc hy x s L h p hp
  .exact jU hc hy y s L h p hp
  .split at h
   .rename_i a b h1 h2
    simp only [ao] at h
    subst h
    rcases bo.1 hp with hp|hp
    .exact jU hc hy x s a h1 p hp
    .exact jU hc hy y s b h2 p hp
   .cases h
  .cases h
 | .block id c,s,L,h,p,hp=>by
  simp only [lL] at h
  split at h
  .rename_i L1 h1
   simp only [ao] at h
   subst h
   obtain ⟨q,hq,rfl⟩:=cf.1 hp
   rw [NC]
   exact jU hc hy c s L1 h1 q hq
  .cases h
 | .loop c,s,L,h,p,hp=>by
  simp only [lL] at h
  exact JQ (fun s L h=>jU hc hy c s L h) N s L h p hp
 | .exit id,s,L,h,p,hp=>by
  simp only [lL,ao] at h
  subst h
  rw [bd.1 hp]
  exact LF.refl _
 | .ret,s,L,h,p,hp=>by
  simp only [lL,ao] at h
  subst h
  rw [bd.1 hp]
  exact LF.refl _
 | .rangeFunc g ps asg body,s,L,h,p,hp=>by
  simp only [lL] at h
  split at h
  case isFalse=>cases h
  split at h
  case h_2=>cases h
  rename_i gf first cap hg
  split at h
  case h_2=>cases h
  rename_i v wr hcx
  have h1:=hc _ _ _ _ _ hcx
  have hrows:(fun r=>(s.wr [gP n s ps asg body]).h.getD r .none)=upd s.row [gP n s ps asg body]:=AS.row_wr s [gP n s ps asg body]
  rw [hrows] at h1
  have hfin:LF s.row (((s.wr [gP n s ps asg body]).wr wr).wr [(s.h.length,.dead)]).row:=by
   rw [AS.row_wr,AS.row_wr,AS.row_wr]
   intro r st pd fr ps' a b e
   by_cases hr:r=s.h.length
   .subst hr;simp [upd] at e
   .have e2:upd (upd s.row [gP n s ps asg body]) wr r=.loop st pd fr ps' a b:=by simpa [upd,hr] using e
    obtain ⟨st',pd',fr',e3⟩:=h1 r st pd fr ps' a b e2
    exact ⟨st',pd',fr',by simpa [upd,gP,hr] using e3⟩
  split at h<;>first
   |cases h;done
   |(simp only [ao] at h;subst h;rw [bd.1 hp];exact hfin)
 | .scope c,s,L,h,p,hp=>by
  simp only [lL] at h
  split at h
  .rename_i L1 h1
   simp only [au,ao] at h
   obtain ⟨h2,rfl⟩:=h
   exact jU hc hy c s L1 h1 p hp
  .cases h
 | .label _,s,L,h,p,hp=>by
  simp only [lL,ao] at h
  subst h
  rw [bd.1 hp]
  exact LF.refl _
 | .goto ..,s,L,h,p,hp=>by simp [lL] at h
 | .refuse ..,s,L,h,p,hp=>by simp [lL] at h
end
mutual
def ZG:AV->List Nat
 | .agg cs=>gO cs
 | .tup cs=>gO cs
 | .sl _ es=>ZF es
 | .osl r _ _ _ _ _=>[r]
 | .rsl r _ _ _ _=>[r]
 | .ptr r _ _=>[r]
 | .imm cs=>gO cs
 | .mp ks vs=>gO ks++gO vs
 | .omp r=>[r]
 | .yld r=>[r]
 | .fn _ a b=>gO a++gO b
 | .iface _ v=>ZG v
 |_=>[]
def gO:List AV->List Nat
 | []=>[]
 |c::cs=>ZG c++gO cs
def ZF:List (List AV)->List Nat
 | []=>[]
 |e::es=>gO e++ZF es
end
def XZ:ARow->List Nat
 | .cells _ cs=>gO cs
 | .map ks vs=>gO ks++gO vs
 | .iter ks vs _ _=>gO ks++gO vs
 | .loop _ _ fr _ _ _=>gO fr
 |_=>[]
def kY (h:List ARow):Nat->List Nat->List Nat->List Nat
 |0,_,seen=>seen
 |_+1,[],seen=>seen
 |k+1,r::todo,seen=>if seen.contains r=true then kY h k todo seen else kY h k (XZ (h.getD r .none)++todo) (r::seen)
def pF (R:List Nat):Nat->List ARow->List ARow
 |_,[]=>[]
 |k,x::xs=>(if R.contains k=true then x else .dead)::pF R (k+1) xs
theorem fA (R:List Nat):∀ (k:Nat) (h:List ARow),(pF R k h).length=h.length
 |_,[]=>rfl
 |k,x::xs=>by simp [pF,fA R (k+1) xs]
theorem kG (R:List Nat):∀ (k:Nat) (h:List ARow) (i:Nat),(pF R k h).getD i .none=if i<h.length then (if R.contains (k+i)=true then h.getD i .none else .dead) else .none
 |k,[],i=>by simp [pF]
 |k,x::xs,0=>by simp [pF]
 |k,x::xs,i+1=>by
  have:=kG R (k+1) xs i
  rw [show k+1+i=k+(i+1) by omega] at this
  simp only [pF,iu,this,af,Nat.add_lt_add_iff_right]
theorem nG (g:Nat->ARow):∀ (fp:List Nat) (rows:Nat->ARow) (r:Nat),upd rows (fp.map fun r=>(r,g r)) r=if r∈fp then g r else rows r
 | [],rows,r=>by simp [upd]
 |q::fp,rows,r=>by
  have ih:=nG g fp (upd rows [(q,g q)]) r
  have e:upd rows ((q::fp).map fun r=>(r,g r)) r=upd (upd rows [(q,g q)]) (fp.map fun r=>(r,g r)) r:=rfl
  rw [e,ih,fC]
  by_cases h:r∈fp
  .simp [h]
  .by_cases h2:r=q
   .simp [h2]
   .simp [h,h2]
def zJ:Exit->Bool
 | .normal=>true
 | .ret=>true
 |_=>false
theorem AX {P:Program} {fn:Func} {R:AV->AS->Prop} {e:Exit} {s:AS} {v:AV} (he:zJ e=true) (hv:dF P fn s=some v) (h:R v s):eR P fn R e s:=by
 cases e<;>first|(simp [zJ] at he;done)|exact ⟨v,hv,h⟩
def lG (sz:Nat):Nat->List AV->List (List AV)
 |0,_=>[]
 |n+1,l=>l.take sz::lG sz n (l.drop sz)
theorem vZ {sz:Nat}:∀ (n:Nat) (l:List AV),l.length=n*sz->(lG sz n l).flatten=l/\(lG sz n l).length=n/\∀ e∈lG sz n l,e.length=sz
 |0,l,h=>by
  have:l=[]:=cu (by omega)
  subst this
  simp [lG]
 |n+1,l,h=>by
  rw [eh,Nat.one_mul] at h
  obtain ⟨h1,h2,h3⟩:=vZ (sz:=sz) n (l.drop sz) (by rw [ik];omega)
  refine ⟨by simp only [lG,cw,h1,List.take_append_drop],by simp only [lG,af,h2],fun e he=>?_⟩
  rcases bn.1 he with rfl|he
  .rw [cr];omega
  .exact h3 e he
def qV (rows : Nat -> ARow) : Nat -> List AV -> Option (List AV)
 |0,_=>none
 |_+1,[]=>some []
 | k + 1, v :: vs => match qV rows k vs with
  |none=>none
  |some ts=>match v with
   | .agg cs=>match qV rows k cs with
    |some cs'=>some (.agg cs'::ts)
    |none=>none
   | .tup cs=>match qV rows k cs with
    |some cs'=>some (.tup cs'::ts)
    |none=>none
   | .osl r ver off n sz b=>match aU rows r ver with
    |some cs=>match qV rows k ((cs.drop off).take (n*sz)) with
     |some l=>if l.length=n*sz then some (.sl b (lG sz n l)::ts) else none
     |none=>none
    |none=>none
   |v=>if aI aE v=true then some (v::ts) else none
def iU (E:En):En:=⟨E.w,fun b=>E.S b\/∃ r,(E.rows r).live=true/\b=E.ρ r,E.ρ,fun _=>.none⟩
theorem rH (E:En):eY aE E (iU E):=⟨rfl,fun _ h=>.inl h,fun r hr=>(by cases hr),fun r hr=>(by cases hr)⟩
theorem zN {p:Nat->Bool} {sz:Nat}:∀ (n:Nat) (l:List AV),aP p l=true->cQ p (lG sz n l)=true
 |0,l,h=>by simp [lG,cQ]
 |n+1,l,h=>by
  have ht:∀ (k:Nat) (l:List AV),aP p l=true->aP p (l.take k)=true:=fun k=>by
   induction k with
   |zero=>intro l _;simp [aP]
   |succ k ih=>intro l hl;cases l with
    |nil=>simp [aP]
    |cons x l=>simp only [aP,ae] at hl;simp only [di,aP,ae];exact ⟨hl.1,ih l hl.2⟩
  have hd:∀ (k:Nat) (l:List AV),aP p l=true->aP p (l.drop k)=true:=fun k=>by
   induction k with
   |zero=>intro l h;simpa using h
   |succ k ih=>intro l hl;cases l with
    |nil=>simp [aP]
    |cons x l=>simp only [aP,ae] at hl;simpa using ih l hl.2
  simp only [lG,cQ,ae]
  exact ⟨ht sz l h,zN n _ (hd sz l h)⟩
theorem qK {G:Nat->Option (List AV)} {E:En} (i:Inv G E):∀ (k:Nat) (vs ts:List AV) (us:List Value),qV E.rows k vs=some ts->RelL E vs us->RelL (iU E) ts us/\aP aE ts=true
 |0,_,_,_,h,_=>by cases h
 |k+1,[],ts,us,h,hr=>by
  simp only [qV,ao] at h
  subst h
  exact ⟨by simpa only [RelL] using hr,by simp [aP]⟩
 | k + 1, v :: vs, ts, us, h, hr => by
  simp only [RelL] at hr
  obtain ⟨u,rest,rfl,h1,h2⟩:=hr
  simp only [qV] at h
  split at h
  .cases h
  rename_i ts' hts
  obtain ⟨r1,r2⟩:=qK i k vs ts' rest hts h2
  have fin:∀ t,Rel (iU E) t u->aI aE t=true->some (t::ts')=some ts->RelL (iU E) ts (u::rest)/\aP aE ts=true:=by
   intro t a b c
   injection c with c
   subst c
   exact ⟨by simp only [RelL];exact ⟨u,rest,rfl,a,r1⟩,by simp only [aP,b,r2,ai]⟩
  split at h
  .rename_i cs
   split at h
   .rename_i cs' hcs
    simp only [Rel] at h1
    obtain ⟨ws,w1,w2,w3⟩:=h1
    obtain ⟨q1,q2⟩:=qK i k cs cs' ws hcs w2
    exact fin _ (by simp only [Rel];exact ⟨ws,w1,q1,w3⟩) (by simpa only [aI] using q2) h
   .cases h
  .rename_i cs
   split at h
   .rename_i cs' hcs
    simp only [Rel] at h1
    obtain ⟨ws,w1,w2⟩:=h1
    obtain ⟨q1,q2⟩:=qK i k cs cs' ws hcs w2
    exact fin _ (by simp only [Rel];exact ⟨ws,w1,q1⟩) (by simpa only [aI] using q2) h
   .cases h
  .rename_i r ver off n sz b
   split at h
   .rename_i cs hc
    split at h
    .rename_i l hl
     split at h
     .rename_i hlen
      obtain ⟨cap,cur,e,rfl,a1,a2,a3,a4,a5⟩:=kZ hc h1
      obtain ⟨cur',e',ws,k1,k2,k3,k4,k5⟩:=kV i hc
      have q0:=(k2.drop off).take (n*sz)
      have c1:=(k5.drop off).take (n*sz)
      rw [cp] at c1
      obtain ⟨q1,q2⟩:=qK i k _ l _ hl q0
      obtain ⟨f1,f2,f3⟩:=vZ n l hlen
      refine fin _ ?_ (by simp only [aI];exact zN n l q2) h
      simp only [Rel]
      refine ⟨some ⟨E.ρ r,off,none⟩,cap,by rw [f2],by rw [f2];exact a1,a2,by rw [f2];exact a3,by simp,E.ρ r,off,sz,.inr ⟨rfl,.inr ⟨r,?_,rfl⟩⟩,j2 (by rw [f1];exact q1) c1 f3⟩
      rw [dN hc];rfl
     .cases h
    .cases h
   .cases h
  .split at h
   .rename_i hn
    exact fin v (h1.agree (rH E) hn) hn h
   .cases h
theorem UW {G:Nat->Option (List AV)} {Ec:En} (hG:∀ g cs,G g=some cs->aP aE cs=true) (i:Inv G Ec) {k N:Nat} (hrows:∀ r,r<k->aG (fun r=>decide (r<k)) (Ec.rows r)=true) {v res:AV} {u:Value}
  (hf:qV (fun r=>if r<k then .dead else Ec.rows r) N [v]=some [res]) (ru:Rel Ec v u):
  ∃ E3:En,E3.w=Ec.w/\ExtK k Ec E3/\Inv G E3/\(∀ r,E3.rows r=if r<k then Ec.rows r else .none)/\Rel E3 res u/\aI aE res=true:=by
 let Em:En:=⟨Ec.w,Ec.S,Ec.ρ,fun r=>if r<k then .dead else Ec.rows r⟩
 have agm:eY (fun _=>true) Ec Em:=⟨rfl,fun _ h=>h,fun r _=>by
  by_cases h:r<k
  .exact .inr (.inl (by simp [Em,h]))
  .exact .inl (by simp [Em,h]),fun r _ _=>rfl⟩
 have hml:∀ r,(Em.rows r).live=true->¬ r<k/\(Ec.rows r).live=true:=fun r hr=>by
  by_cases h:r<k
  .simp [Em,h,ARow.live] at hr
  .simp only [Em,if_neg h] at hr;exact ⟨h,hr⟩
 have im:Inv G Em:=by
  refine ⟨fun r=>?_,fun r r' h h' hne=>i.inj r r' (hml r h).2 (hml r' h').2 hne,i.sb,fun g cs hg=>?_⟩
  .have h0:=i.row r
   unfold RowOK at h0 ⊢
   by_cases h:r<k
   .simp only [Em,if_pos h]
   .simp only [Em,if_neg h]
    cases hr:Ec.rows r with
    |none=>trivial
    |dead=>trivial
    |cells ver cs=>
     rw [hr] at h0
     obtain ⟨cur,e,vs,a1,a2,a3,a4⟩:=h0
     exact ⟨cur,e,vs,a1,a2,a3.agree agm (cT cs),a4⟩
    |map ks vs=>
     rw [hr] at h0
     obtain ⟨es,clock,a1,a2,a3,a4,a5⟩:=h0
     exact ⟨es,clock,a1,a2,a3,a4.agree agm (cT ks),a5.agree agm (cT vs)⟩
    |iter ks vs l j=>
     rw [hr] at h0
     obtain ⟨mb,es,clock,since,seen,a1,a2,a3,a4,a5,a6,a7,a8,a9⟩:=h0
     exact ⟨mb,es,clock,since,seen,a1,a2,a3,a4,a5,a6,a7.agree agm (cT ks),a8.agree agm (cT vs),a9⟩
    |loop st pend fr ps asg body=>
     rw [hr] at h0
     obtain ⟨fn,tm,D,a1,a2,a3⟩:=h0
     exact ⟨fn,tm,D,a1,a2,a3.agree agm (cT fr)⟩
  .obtain ⟨vs,a1,a2,a3⟩:=i.glob g cs hg
   exact ⟨vs,a1,a2.agree agm (cT cs),a3⟩
 have r1:=qK im N [v] [res] [u] hf (by simp only [RelL];exact ⟨u,[],rfl,ru.agree agm (lB v),rfl⟩)
 obtain ⟨r1,r2⟩:=r1
 simp only [RelL] at r1
 obtain ⟨u',rest,he,r1,_⟩:=r1
 injection he with he1 he2
 subst he1
 have hres:aI aE res=true:=by simp only [aP,ae] at r2;exact r2.1
 let E3:En:=⟨Ec.w,(iU Em).S,Ec.ρ,fun r=>if r<k then Ec.rows r else .none⟩
 have h3l:∀ r,(E3.rows r).live=true->r<k/\(Ec.rows r).live=true:=fun r hr=>by
  by_cases h:r<k
  .simp only [E3,if_pos h] at hr;exact ⟨h,hr⟩
  .simp [E3,h,ARow.live] at hr
 have h3S:∀ b,(∀ r,(Ec.rows r).live=true->Ec.ρ r≠b)->E3.S b->Ec.S b:=fun b hl h=>by
  rcases h with h|⟨r,hr,e⟩
  .exact h
  .exact absurd e.symm (hl r (hml r hr).2)
 have ag3:eY (fun r=>decide (r<k)) Ec E3:=⟨rfl,fun _ h=>.inl h,fun r hr=>.inl (by simp only [decide_eq_true_eq] at hr;simp [E3,hr]),fun r _ _=>rfl⟩
 have agG:eY aE Ec E3:=⟨rfl,fun _ h=>.inl h,fun r hr=>(by cases hr),fun r hr=>(by cases hr)⟩
 have agR:eY aE (iU Em) E3:=⟨rfl,fun _ h=>h,fun r hr=>(by cases hr),fun r hr=>(by cases hr)⟩
 have hS3:∀ r,r<k->(Ec.rows r).live=true->¬ Ec.S (Ec.ρ r)->¬ E3.S (Ec.ρ r):=fun r hk hl hn h=>by
  rcases h with h|⟨q,hq,e⟩
  .exact hn h
  .obtain ⟨h1,h2⟩:=hml q hq
   exact i.inj r q hl h2 (fun e=>h1 (e ▸ hk)) e
 refine ⟨E3,rfl,?_,?_,fun r=>rfl,r1.agree agR hres,hres⟩
 .exact ⟨rfl,rfl,rfl,ap _,fun _ h=>.inl h,fun b _ hl=>⟨rfl,h3S b hl⟩,fun r hr h=>by simp only [E3,if_pos hr];exact h,
   fun r hr ver cs h=>.inr ⟨ver,cs,by simp only [E3,if_pos hr];exact h,ap _,fun _=>⟨rfl,fun cur e fz hc=>⟨cur,e,hc,rfl⟩⟩⟩,
   fun r hr h=>.inr ⟨by simp only [E3,if_pos hr];exact h,rfl⟩,fun r hr=>.inl ⟨(h3l r hr).2,rfl⟩⟩
 .refine ⟨fun r=>?_,fun r r' h h' hne=>i.inj r r' (h3l r h).2 (h3l r' h').2 hne,fun b hb=>?_,fun g cs hg=>?_⟩
  .by_cases h:r<k
   .have h0:=i.row r
    have hin:=hrows r h
    unfold RowOK at h0 ⊢
    simp only [E3,if_pos h]
    cases hr:Ec.rows r with
    |none=>trivial
    |dead=>trivial
    |cells ver cs=>
     have hl:(Ec.rows r).live=true:=by rw [hr];rfl
     rw [hr] at h0 hin
     obtain ⟨cur,e,vs,a1,a2,a3,a4⟩:=h0
     exact ⟨cur,e,vs,a1,hS3 r h hl a2,a3.agree ag3 hin,a4⟩
    |map ks vs=>
     have hl:(Ec.rows r).live=true:=by rw [hr];rfl
     rw [hr] at h0 hin
     simp only [aG,ae] at hin
     obtain ⟨es,clock,a1,a2,a3,a4,a5⟩:=h0
     exact ⟨es,clock,a1,hS3 r h hl a2,a3,a4.agree ag3 hin.1,a5.agree ag3 hin.2⟩
    |iter ks vs l j=>
     have hl:(Ec.rows r).live=true:=by rw [hr];rfl
     rw [hr] at h0 hin
     simp only [aG,ae] at hin
     obtain ⟨mb,es,clock,since,seen,a1,a2,a3,a4,a5,a6,a7,a8,a9⟩:=h0
     exact ⟨mb,es,clock,since,seen,a1,hS3 r h hl a2,.inl a3,a4,a5,a6,a7.agree ag3 hin.1,a8.agree ag3 hin.2,a9⟩
    |loop st pend fr ps asg body=>
     have hl:(Ec.rows r).live=true:=by rw [hr];rfl
     rw [hr] at h0 hin
     obtain ⟨fn,tm,D,a1,a2,a3⟩:=h0
     exact ⟨fn,tm,D,a1,hS3 r h hl a2,a3.agree ag3 hin⟩
   .unfold RowOK
    simp only [E3,if_neg h]
  .rcases hb with h|⟨r,hr,rfl⟩
   .exact i.sb b h
   .exact (i.live (hml r hr).2).1
  .obtain ⟨vs,a1,a2,a3⟩:=i.glob g cs hg
   exact ⟨vs,.inl a1,a2.agree agG (hG g cs hg),a3⟩
theorem AR {P:Program} {G:Nat->Option (List AV)} {f:FuncId} {fn:Func} {c:Code} {args:List AV} {H:List ARow} {rows:Nat->ARow} {fp:List Nat} {eff:eL} (ok:BB G H rows fp)
  (hf:P.funcs[f]? =some fn) (hb:fn.body=some c) (hgo:fR P f=true) (hn:args.length<=fn.ntmps) (hargs:aP (fun r=>decide (r<H.length)) args=true) (hwr:∀ p∈eff.wr,p.1∈fp) (hfpH:∀ r∈fp,r<H.length)
  (hbody:∀ b:Nat,@cG ⟨none,some b⟩ P G fn.ntmps H.length c (eR P fn fun v s=>(∃ N,qV (fun r=>if r<H.length then .dead else s.row r) N [v]=some [eff.val])/\(∀ r,r<H.length->aG (fun r=>decide (r<H.length)) (s.row r)=true)/\∀ r∈fp,s.row r=upd rows eff.wr r/\aG (fun r=>fp.contains r) (s.row r)=true) ⟨eJ (aK 0 args),H⟩):
  c8 P G f args rows fp eff:=by
 refine ⟨hgo,hwr,fun E us i hE hus=>?_⟩
 obtain ⟨ic,ag,hrow,hcl⟩:=tV ok i hE
 have hlen:=hus.length
 have sim: @Sim ⟨none,some (cut E H).w.heap.size⟩ G fn.ntmps ⟨eJ (aK 0 args),H⟩ (cut E H) { tmps:=us.toArray++Array.replicate (fn.ntmps - us.toArray.size) undef,defers:=[] }:=by
  refine @Sim.mk ⟨none,some (cut E H).w.heap.size⟩ _ _ _ _ _ ic rfl (by simp;omega) (fun t=>?_) DefOK.nilB
  show Rel (cut E H) ((eJ (aK 0 args)).getD t .undef) _
  rw [jB]
  simp only [az,if_true,dm]
  rw [bc]
  cases hx:args[t]? with
  |none=>simp [Rel]
  |some x=>
   obtain ⟨v,h1,h2⟩:=hus.get hx
   have hlt:=(aq.1 h1).1
   have:(us.toArray++Array.replicate (fn.ntmps - us.toArray.size) undef).getD t undef=v:=by
    rw [dt,jp,if_pos (by simpa using hlt)]
    simp only [ii,h1,eu]
   rw [this]
   have hin:aI (fun r=>decide (r<H.length)) x=true:=by
    have:=lT hargs t
    rw [bc,hx] at this
    simpa using this
   exact h2.agree ag hin
 refine nY hf hb (wpIn_mono (hbody _ (cut E H) _ sim) ?_)
 rintro e a' w' ⟨s',Ec',rfl,xk,sim',q⟩
 obtain ⟨E2,sim2,xk2,hleave⟩:=uQ (P:=P) xk sim'
 have fin:∀ v,dF P fn s'=some v->((∃ N,qV (fun r=>if r<H.length then .dead else s'.row r) N [v]=some [eff.val])/\(∀ r,r<H.length->aG (fun r=>decide (r<H.length)) (s'.row r)=true)/\∀ r∈fp,s'.row r=upd rows eff.wr r/\aG (fun r=>fp.contains r) (s'.row r)=true)->
   ∃ u,(results fn a'.tmps).run P E2.w=.ok u E2.w/\∃ v E',Ending.returned u=.returned v/\E2.w=E'.w/\Rel E' eff.val v/\Ext E E'/\Inv G E'/\E'.rows=upd E.rows eff.wr:=by
  rintro v hv ⟨⟨N,hfz⟩,hrin,hend⟩
  obtain ⟨u,hu,ru⟩:=kX (P:=P) sim2 hv
  obtain ⟨E3,e1,x3,i3,hr3,ru3,hres⟩:=UW (k:=H.length) (N:=N) ok.glob sim2.inv (fun r hr=>by rw [sim2.rows];exact hrin r hr) (by rw [sim2.rows];exact hfz) ru
  obtain ⟨E',c1,c2,c3,c4,c5⟩:=tW ok i hE hwr (xk2.trans x3) i3 (fun r hr=>by rw [hr3,if_pos (hfpH r hr),sim2.rows];exact hend r hr) (gE (p:=aE) (fun r hr=>by cases hr) hres) ru3
  exact ⟨u,hu,u,E',rfl,e1.symm.trans c1,c2,c3,c4,c5⟩
 cases e with
 |normal=>
  obtain ⟨v,h1,h2⟩:=q
  exact hleave fn _ (fin v h1 h2)
 |ret=>
  obtain ⟨v,h1,h2⟩:=q
  exact hleave fn _ (fin v h1 h2)
 |exit id=>exact q.elim
 |goto l=>exact q.elim
 |panic ch=>exact q.elim
 |outgrown=>exact q.elim
theorem BK {P:Program} {G:Nat->Option (List AV)} {f:FuncId} {fn:Func} {c:Code} {args:List AV} {res:AV}
  (hG:∀ g cs,G g=some cs->aP aE cs=true) (hf:P.funcs[f]? =some fn) (hb:fn.body=some c) (hgo:fR P f=true) (hn:args.length<=fn.ntmps) (hargs:aP aE args=true) (hres:aI aE res=true)
  (hbody:∀ b:Nat,@cG ⟨none,some b⟩ P G fn.ntmps 0 c (eR P fn fun v s=>∃ k,qV s.row k [v]=some [res]) ⟨eJ (aK 0 args),[]⟩):Pure P G f args res:=by
 refine ⟨hres,fun rows=>⟨hgo,by simp,fun E us i hE hus=>?_⟩⟩
 let Ec:En:=⟨E.w,E.S,E.ρ,fun _=>.none⟩
 have agc:eY aE E Ec:=⟨rfl,fun _ h=>h,fun r hr=>(by cases hr),fun r hr=>(by cases hr)⟩
 have ic:Inv G Ec:=by
  refine ⟨fun r=>(by simp [RowOK,Ec]),fun r r' h=>(by cases h),i.sb,fun g cs hg=>?_⟩
  obtain ⟨vs,a1,a2,a3⟩:=i.glob g cs hg
  exact ⟨vs,a1,a2.agree agc (hG g cs hg),a3⟩
 have hlen:=hus.length
 have sim: @Sim ⟨none,some Ec.w.heap.size⟩ G fn.ntmps ⟨eJ (aK 0 args),[]⟩ Ec { tmps:=us.toArray++Array.replicate (fn.ntmps - us.toArray.size) undef,defers:=[] }:=by
  refine @Sim.mk ⟨none,some Ec.w.heap.size⟩ _ _ _ _ _ ic rfl (by simp;omega) (fun t=>?_) DefOK.nilB
  show Rel Ec ((eJ (aK 0 args)).getD t .undef) _
  rw [jB]
  simp only [az,if_true,dm]
  rw [bc]
  cases hx:args[t]? with
  |none=>simp [Rel]
  |some x=>
   obtain ⟨v,h1,h2⟩:=hus.get hx
   have hlt:=(aq.1 h1).1
   have:(us.toArray++Array.replicate (fn.ntmps - us.toArray.size) undef).getD t undef=v:=by
    rw [dt,jp,if_pos (by simpa using hlt)]
    simp only [ii,h1,eu]
   rw [this]
   have hin:aI aE x=true:=by
    have:=lT hargs t
    rw [bc,hx] at this
    simpa using this
   exact h2.agree agc hin
 refine nY hf hb (wpIn_mono (hbody _ Ec _ sim) ?_)
 rintro e a' w' ⟨s',Ec0,rfl,xk0,sim0,q⟩
 obtain ⟨Ec',sim',xk,hleave⟩:=uQ (P:=P) xk0 sim0
 have fin:∀ v,dF P fn s'=some v->(∃ k,qV s'.row k [v]=some [res])->
   ∃ u,(results fn a'.tmps).run P Ec'.w=.ok u Ec'.w/\∃ v E',Ending.returned u=.returned v/\Ec'.w=E'.w/\Rel E' res v/\Ext E E'/\Inv G E'/\E'.rows=upd E.rows []:=by
  rintro v hv ⟨kk,hk⟩
  obtain ⟨u,hu,ru⟩:=kX (P:=P) sim' hv
  rw [<- sim'.rows] at hk
  have rL:=(qK sim'.inv kk [v] [res] [u] hk (by simp only [RelL];exact ⟨u,[],rfl,ru,rfl⟩)).1
  simp only [RelL] at rL
  obtain ⟨u',rest,he,r1,r2⟩:=rL
  injection he with he1 he2
  subst he1
  have hblk:∀ b,b<E.w.heap.size->Ec'.w.heap[b]? =E.w.heap[b]?/\(Ec'.S b->E.S b):=fun b hb=>xk.out b hb fun r hr=>by cases hr
  have hfresh:∀ r,(Ec'.rows r).live=true->E.w.heap.size<=Ec'.ρ r:=fun r hr=>by
   rcases xk.fresh r hr with ⟨h1,_⟩|h1
   .cases h1
   .exact h1
  have hS:∀ b,b<E.w.heap.size->(iU Ec').S b->E.S b:=fun b hb h=>by
   rcases h with h|⟨r,hr,rfl⟩
   .exact (hblk b hb).2 h
   .exact absurd (hfresh r hr) (by omega)
  have x:Ext E ⟨Ec'.w,(iU Ec').S,E.ρ,E.rows⟩:=by
   refine ⟨xk.os,xk.tape,xk.output,xk.sz,fun b hb=>.inl (xk.sub b hb),fun b hlt hl=>⟨(hblk b hlt).1,hS b hlt⟩,fun q hq=>hq,fun q ver cs hq=>?_,fun q hq=>.inr ⟨hq,rfl⟩,fun q hq=>.inl ⟨hq,rfl⟩⟩
   refine .inr ⟨ver,cs,hq,ap _,fun _=>⟨rfl,fun cur e fz hcur=>⟨cur,e,?_,rfl⟩⟩⟩
   rw [(hblk _ (i.live (by rw [hq];rfl)).1).1]
   exact hcur
  have agf:eY aE (iU Ec') ⟨Ec'.w,(iU Ec').S,E.ρ,E.rows⟩:=⟨rfl,fun _ h=>h,fun r hr=>(by cases hr),fun r hr=>(by cases hr)⟩
  refine ⟨u,hu,u,⟨Ec'.w,(iU Ec').S,E.ρ,E.rows⟩,rfl,rfl,r1.agree agf hres,x,⟨fun q=>?_,fun q q' h h' hne=>i.inj q q' h h' hne,fun b hb=>?_,fun g cs hg=>?_⟩,rfl⟩
  .cases hl:(E.rows q).live with
   |false=>
    unfold RowOK
    show match E.rows q with|_=>_
    cases hqq:E.rows q with
    |cells=>rw [hqq] at hl;cases hl
    |map=>rw [hqq] at hl;cases hl
    |iter=>rw [hqq] at hl;cases hl
    |loop=>rw [hqq] at hl;cases hl
    |none=>trivial
    |dead=>trivial
   |true=>
    have hlt:=(i.live hl).1
    exact RowOK.ext i x rfl rfl (fun _=>(hblk _ hlt).1) (hS _ hlt) (i.row q)
  .rcases hb with h|⟨r,hr,rfl⟩
   .exact sim'.inv.sb b h
   .exact (sim'.inv.live hr).1
  .obtain ⟨vs,a1,a2,a3⟩:=sim'.inv.glob g cs hg
   exact ⟨vs,.inl a1,(a2.agree (rH Ec') (hG g cs hg)).agree agf (hG g cs hg),a3⟩
 cases e with
 |normal=>
  obtain ⟨v,h1,h2⟩:=q
  exact hleave fn _ (fin v h1 h2)
 |ret=>
  obtain ⟨v,h1,h2⟩:=q
  exact hleave fn _ (fin v h1 h2)
 |exit id=>exact q.elim
 |goto l=>exact q.elim
 |panic ch=>exact q.elim
 |outgrown=>exact q.elim
section
variable (P:Program) (G:Nat->Option (List AV)) (N:Nat) (T:List (FuncId × List AV × AV)) (K:List FuncId)
def aBV:List UInt8->Nat
 | []=>11
 |b::l=>(b.toNat+17*aBV l) % 1000003
mutual
def aCW:AV->Nat
 | .int _ (.ofNat m)=>(3*m+5) % 1000003
 | .int _ (.negSucc m)=>(7*m+6) % 1000003
 | .bool true=>1
 | .bool false=>2
 | .str s=>aBV s.data.toList
 | .agg l=>(31*QH l+1) % 1000003
 | .tup l=>(37*QH l+2) % 1000003
 | .sl true l=>(41*aAn l+3) % 1000003
 | .sl false l=>(43*aAn l+4) % 1000003
 |_=>7
def QH:List AV->Nat
 | []=>7
 |c::cs=>(aCW c+13*QH cs) % 1000003
def aAn:List (List AV)->Nat
 | []=>8
 |e::es=>(QH e+19*aAn es) % 1000003
end
def D5 : List (FuncId × List AV × AV) -> FuncId -> List AV -> Option AV
 | [],_,_=>none
 | (g, xs, v) :: T, f, args => match Nat.beq g f with
  |false=>D5 T f args
  |true=>match Nat.beq (QH xs) (QH args) with
   |false=>D5 T f args
   |true=>match HC xs args with
    |true=>some v
    |false=>D5 T f args
theorem sY {P:Program} {G:Nat->Option (List AV)}:∀ {T:List (FuncId × List AV × AV)} {f:FuncId} {args:List AV} {v:AV},(∀ e∈T,Pure P G e.1 e.2.1 e.2.2)->D5 T f args=some v->Pure P G f args v
 | (g, xs, u) :: T, f, args, v, hT, h => by
  simp only [D5] at h
  split at h
  .exact sY (fun e he=>hT e (dn _ he)) h
  .rename_i h1
   split at h
   .exact sY (fun e he=>hT e (dn _ he)) h
   split at h
   .rename_i h2
    injection h with h
    have:=hT (g,xs,u) (cy ..)
    rw [<- h,<- jo h1,<- lE _ _ h2]
    exact this
   .exact sY (fun e he=>hT e (dn _ he)) h
def Y2 (fn:Func):Exit × AS->Option AV
 |(e,s)=>match dF P fn s with
  |none=>none
  |some v=>match qV s.row 9999 [v] with
   |some [res]=>if zJ e=true then some res else none
   |_=>none
def HY (fn:Func):List (Exit × AS)->Option AV
 | []=>none
 | [p]=>Y2 P fn p
 |p::r=>match Y2 P fn p,HY fn r with
  |some a,some b=>if uY a b=true then some a else none
  |_,_=>none
def VX (f:FuncId) (h:List ARow) (R:List Nat) (e:Exit) (s':AS) (v:AV):Option (AV × List (Nat × ARow)):=
 match qV (fun r=>if r<h.length then .dead else s'.row r) 9999 [v] with
 |some [res]=>if (zJ e&& !K.contains f&&R.all (fun r=>decide (r<h.length))&&(List.range h.length).all (fun r=>aG (fun r=>decide (r<h.length)) (s'.row r))&&R.all fun r=>aG (fun r=>R.contains r) (s'.row r))=true then
   some (res,R.map fun r=>(r,s'.row r)) else none
 |_=>none
def mT (cx : gQ) (yx : fJ) : gQ := fun f args h => match D5 T f args with
  |some v=>some (v,[])
  |none=>match P.funcs[f]? with
  |none=>none
  |some fn=>match fn.body with
   |none=>none
   |some c=>
    if (fR P f&&decide (args.length<=fn.ntmps)&&aP aE args&& !K.contains f)=true then
     match lL P G cx yx true N fn.ntmps c ⟨eJ (aK 0 args),[]⟩ with
     |none=>none
     |some L=>match HY P fn L with
      |some res=>if aI aE res=true then some (res,[]) else none
      |none=>none
    else if (fR P f&&decide (args.length<=fn.ntmps)&&aP (fun r=>decide (r<h.length)) args&&(kY h N (gO args) []).all fun r=>decide (r<h.length)&&aG (fun r=>decide (r<h.length)) (h.getD r .none))=true then
     match lL P G cx yx true N fn.ntmps c ⟨eJ (aK 0 args),pF (kY h N (gO args) []) 0 h⟩ with
     |some [(e,s')]=>match dF P fn s' with
      |none=>none
      |some v=>match VX K f h (kY h N (gO args) []) e s' v with
       |some x=>some x
       |none=>if (zJ e&&aI (fun r=>(kY h N (gO args) []++(List.range s'.h.length).drop h.length).contains r) v&&(kY h N (gO args) []++(List.range s'.h.length).drop h.length).all fun r=>aG (fun r=>(kY h N (gO args) []++(List.range s'.h.length).drop h.length).contains r) (s'.row r))=true then
        some (v,(kY h N (gO args) []++(List.range s'.h.length).drop h.length).map fun r=>(r,s'.row r)) else none
     |_=>none
    else none
def T2 (h:List ARow):AV->Option (Nat × Nat × Nat × Nat × List AV)
 | .osl r ver off n sz false=>match h.getD r .none with
  | .cells v cs=>if (decide (off=0)&&(decide (v=ver)&&decide (cs.length=n*sz)))=true then some (r,ver,n,sz,cs) else none
  |_=>none
 |_=>none
def xS (h:List ARow):List AV->Option (List AV × List AV × Nat × Nat × List AV)
 | []=>none
 |a::as=>match T2 h a with
  |some (r,ver,n,sz,cs)=>some (.osl r ver 0 n sz true::as,.rsl r ver 0 n sz::as,r,ver,cs)
  |none=>match xS h as with
   |some (x,y,q)=>some (a::x,a::y,q)
   |none=>none
def A6:ARow->ARow->Bool
 | .loop .ready none fr _ _ _,.loop .ready none fr' _ _ _=>HC fr fr'
 | .loop .busy none fr _ _ _,.loop .busy none fr' _ _ _=>HC fr fr'
 | .loop .done none fr _ _ _,.loop .done none fr' _ _ _=>HC fr fr'
 | .loop .done (some .ret) fr _ _ _,.loop .done (some .ret) fr' _ _ _=>HC fr fr'
 |x,y=>oL x y
def tF (ver:Nat) (cs:List AV):ARow->Bool
 | .cells v c=>decide (v=ver)&&HC (c.take cs.length) cs
 |_=>false
def iT (r ver:Nat) (cs:List AV):List (Nat × ARow)->List (Nat × ARow)->Bool
 | [],[]=>true
 |(q,x)::a,(q',y)::b=>decide (q=q')&&((if q=r then tF ver cs x&&tF ver cs y else A6 x y)&&iT r ver cs a b)
 |_,_=>false
def wF (r ver:Nat) (cs:List AV) (wr:List (Nat × ARow)):List (Nat × ARow):=wr.map fun p=>if p.1=r then (r,.cells ver cs) else p
def jQ (cx:gQ) (yx:fJ):gQ:=fun f args h=>match mT P G N T K cx yx f args h with
 |some x=>some x
 |none=>if K.contains f=true then mT P G N T [] cx yx f args h else none
def oY (cx:gQ) (yx:fJ):gQ:=fun f args h=>if K.contains (f+1000000)=true then
  match xS h args with
  |some (a1,a2,r,ver,cs)=>match jQ P G N T K cx yx f a1 h,jQ P G N T K cx yx f a2 h with
   |some (v1,wr1),some (v2,wr2)=>if (uY v1 v2&&(iT r ver cs wr1 wr2&&((wr1.map (·.1)).contains r&&(yW (wr1.map (·.1))))))=true then some (v1,wF r ver cs wr1) else none
   |_,_=>none
  |none=>jQ P G N T K cx yx f args h
 else jQ P G N T K cx yx f args h
def GN (r:Nat) (jump:Option Code) (fr:List AV) (ps:Array Tmp) (a b:Code) (s:AS):AS:=s.wr [(r,.loop (if jump.isNone then .ready else .done) jump fr ps a b)]
def mO (cx : gQ) (yx : fJ) : fJ := fun r args h => match h.getD r .none with
 | .loop .ready none fr ps asg body=>
  if (decide (ps.size = args.length) && ps.toList.all (fun t => decide (t < fr.length)) && decide (r < h.length) && aP (fun q => decide (q < h.length)) args && h.all (aG fun q => decide (q < h.length))) = true then
   match lL P G cx yx false N fr.length asg ⟨vH fr (ps.toList.zip args),h⟩ with
   |some [(.normal,s1)]=>match s1.row r with
    | .loop .ready none fr1 ps1 a1 b1=>match lL P G cx yx false N fr.length body (s1.wr [(r,.loop .busy none fr1 ps1 a1 b1)]) with
     |some [(e,s2)]=>match zI e,s2.row r with
      |some jump,.loop .busy none fr2 ps2 a2 b2=>
       if (decide (h.length<=(GN r jump fr2 ps2 a2 b2 s2).h.length)&&(GN r jump fr2 ps2 a2 b2 s2).h.all (aG fun q=>decide (q<(GN r jump fr2 ps2 a2 b2 s2).h.length)))=true then
        some (.bool jump.isNone,(List.range (GN r jump fr2 ps2 a2 b2 s2).h.length).map fun q=>(q,(GN r jump fr2 ps2 a2 b2 s2).row q)) else none
      |_,_=>none
     |_=>none
    |_=>none
   |_=>none
  else none
 |_=>none
def tY:Nat->gQ × fJ
 |0=>(fun _ _ _=>none,fun _ _ _=>none)
 |d+1=>(oY P G N T K (tY d).1 (tY d).2,mO P G N (tY d).1 (tY d).2)
def VV (d:Nat):gQ:=(tY P G N T K d).1
end
theorem bJ {p q:Nat->Bool} (h:∀ r,p r=true->q r=true) {x:ARow} (hx:aG p x=true):aG q x=true:=by
 cases x<;>simp only [aG,ae] at hx ⊢<;>first|exact b7 h hx|exact ⟨b7 h hx.1,b7 h hx.2⟩
theorem OO {P:Program} {fn:Func} {p:Exit × AS} {res:AV} (h:Y2 P fn p=some res):zJ p.1=true/\∃ v,dF P fn p.2=some v/\qV p.2.row 9999 [v]=some [res]:=by
 obtain ⟨e,s⟩:=p
 simp only [Y2] at h
 split at h
 .cases h
 rename_i v hv
 split at h
 .rename_i r hr
  split at h
  .rename_i he
   injection h with h
   subst h
   exact ⟨he,v,hv,hr⟩
  .cases h
 .cases h
theorem HX {P:Program} {fn:Func}:∀ {L:List (Exit × AS)} {res:AV},HY P fn L=some res->∀ p∈L,zJ p.1=true/\∃ v,dF P fn p.2=some v/\qV p.2.row 9999 [v]=some [res]
 | [],_,_,p,hp=>by cases hp
 | [q],res,h,p,hp=>by
  simp only [HY] at h
  rw [bd.1 hp]
  exact OO h
 | q :: q' :: r, res, h, p, hp => by
  simp only [HY] at h
  split at h
  .rename_i a b h1 h2
   split at h
   .rename_i he
    injection h with h
    subst h
    rcases bn.1 hp with rfl|hp
    .exact OO h1
    .rw [GM _ _ he]
     exact HX h2 p hp
   .cases h
  .cases h
section
variable {P:Program} {G:Nat->Option (List AV)} {N:Nat} {T:List (FuncId × List AV × AV)} {K:List FuncId}
theorem F4 {cx:gQ} {yx:fJ} (hG:∀ g cs,G g=some cs->aP aE cs=true) (hm:P.follows .mixedOrders=true) (hc:jX P G cx) (hy:kE P G yx):kE P G (mO P G N cx yx):=fun r args h v wr hx=>by
 simp only [mO] at hx
 split at hx
 case h_2=>cases hx
 rename_i fr ps asg body hrow
 split at hx
 case isFalse=>cases hx
 rename_i hck
 simp only [ae,decide_eq_true_eq,cl] at hck
 obtain ⟨⟨⟨⟨c1,c2⟩,c3⟩,c4⟩,c5⟩:=hck
 split at hx
 case h_2=>cases hx
 rename_i s1 h1
 split at hx
 case h_2=>cases hx
 rename_i fr1 ps1 a1 b1 hs1
 split at hx
 case h_2=>cases hx
 rename_i e s2 h2
 split at hx
 case h_2=>cases hx
 rename_i jump fr2 ps2 a2 b2 hj hs2
 split at hx
 case isFalse=>cases hx
 rename_i hck2
 simp only [ae,decide_eq_true_eq,cl] at hck2
 obtain ⟨d1,d2⟩:=hck2
 injection hx with hx
 obtain ⟨rfl,rfl⟩:=ft hx
 obtain ⟨s3,hs3⟩:∃ s3,GN r jump fr2 ps2 a2 b2 s2=s3:=⟨_,rfl⟩
 rw [hs3] at d1 d2 ⊢
 have hrow3:s3.row=upd s2.row [(r,.loop (if jump.isNone then .ready else .done) jump fr2 ps2 a2 b2)]:=by rw [<- hs3,GN,AS.row_wr]
 have hmap:((List.range s3.h.length).map fun q=>(q,s3.row q)).map (·.1)=List.range s3.h.length:=by simp [gn,Function.comp_def]
 rw [hmap]
 have hnone:∀ q,h.length<=q->h.getD q .none=.none:=fun q hq=>by rw [bc,d5 hq];rfl
 refine l5 (H:=h) (n:=fr.length) ⟨hG,fun _ _=>rfl,fun q hq=>?_,fun q hq=>?_,fun q _ hq=>hnone q hq⟩ hrow (gg.2 (by omega)) c3 rfl c1 c2 c4 (fun p hp=>?_) fun l=>?_
 .have:s3.h.length<=q:=by simpa using hq
  rw [hnone q (by omega),if_neg (by omega)]
 .by_cases hlt:q<h.length
  .refine c5 _ ?_
   rw [bc,ah hlt]
   exact List.getElem_mem hlt
  .rw [hnone q (by omega)];rfl
 .have:p.1∈((List.range s3.h.length).map fun q=>(q,s3.row q)).map (·.1):=cf.2 ⟨p,hp,rfl⟩
  rwa [hmap] at this
 .refine @iX P G cx yx ⟨some l,none⟩ false N _ _ hm (fun h=>by cases h) hc hy asg _ _ _ h1 fun p hp=>?_
  rw [bd.1 hp]
  refine ⟨rfl,fr1,ps1,a1,b1,hs1,@iX P G cx yx ⟨some l,none⟩ false N _ _ hm (fun h=>by cases h) hc hy body _ _ _ h2 fun p hp=>?_⟩
  rw [bd.1 hp]
  refine ⟨jump,fr2,ps2,a2,b2,hj,hs2,rfl,fun q hq=>⟨?_,?_⟩⟩
  .rw [nG,if_pos hq,hrow3]
  .rw [<- hrow3]
   have hlt:=gg.1 hq
   refine bJ (p:=fun q=>decide (q<s3.h.length)) (fun q hq=>by simpa using hq) (d2 _ ?_)
   show s3.h.getD q .none∈s3.h
   rw [bc,ah hlt]
   exact List.getElem_mem hlt
theorem vW {cx:gQ} {yx:fJ} (hT:∀ e∈T,Pure P G e.1 e.2.1 e.2.2) (hG:∀ g cs,G g=some cs->aP aE cs=true) (hm:P.follows .mixedOrders=true) (hcx:jX P G cx) (hyx:kE P G yx):jX P G (mT P G N T K cx yx):=fun f args h v wr hc=>by
  simp only [mT] at hc
  split at hc
  .rename_i u hu
   injection hc with hc
   obtain ⟨rfl,rfl⟩:=ft hc
   exact (sY hT hu).2 _
  split at hc
  .cases hc
  rename_i fn hfn
  split at hc
  .cases hc
  rename_i c hb
  split at hc
  .rename_i hck
   simp only [ae,decide_eq_true_eq] at hck
   obtain ⟨⟨⟨h1,h2⟩,h3⟩,_⟩:=hck
   split at hc
   .cases hc
   rename_i L hx
   split at hc
   case h_2=>cases hc
   rename_i res hres
   split at hc
   case isFalse=>cases hc
   rename_i hck2
   injection hc with hc
   obtain ⟨rfl,rfl⟩:=ft hc
   refine (BK hG hfn hb h1 h2 h3 hck2 fun b=>@iX P G cx yx ⟨none,some b⟩ true N _ _ hm (fun _=>⟨rfl,b,rfl⟩) hcx hyx c _ _ _ hx fun p hp=>?_).2 _
   obtain ⟨q1,u,q2,q3⟩:=HX hres p hp
   exact AX q1 q2 ⟨9999,q3⟩
  generalize kY h N (gO args) []=R at hc
  split at hc
  case isFalse=>cases hc
  rename_i hck
  simp only [ae,decide_eq_true_eq,cl] at hck
  obtain ⟨⟨⟨h1,h2⟩,h3⟩,h4⟩:=hck
  split at hc
  case h_2=>cases hc
  rename_i e s' hx
  split at hc
  .cases hc
  rename_i u hu
  split at hc
  .rename_i x hx2
   injection hc with hc
   subst hc
   unfold VX at hx2
   split at hx2
   case h_2=>cases hx2
   rename_i res hfz
   split at hx2
   case isFalse=>cases hx2
   rename_i hck2
   simp only [ae,cl,decide_eq_true_eq,gg] at hck2
   obtain ⟨⟨⟨⟨h5,_⟩,h6⟩,h7⟩,h8⟩:=hck2
   injection hx2 with hx2
   obtain ⟨rfl,rfl⟩:=ft hx2
   have hmap:(R.map fun r=>(r,s'.row r)).map (·.1)=R:=by simp [gn,Function.comp_def]
   rw [hmap]
   refine AR (H:=pF R 0 h) ⟨hG,?_,?_,?_,?_⟩ hfn hb h1 h2 ?_ ?_ ?_ fun b=>?_
   .intro r hr
    rw [kG,cp,if_pos (h6 r hr),if_pos (by simpa using hr)]
   .intro r hr
    rw [kG,fA,cp]
    by_cases hlt:r<h.length
    .rw [if_pos hlt,if_pos hlt,if_neg (by simpa using hr)]
    .rw [if_neg hlt,if_neg hlt]
   .intro r hr
    rw [fA]
    exact (h4 r hr).2
   .intro r hr hle
    rw [fA] at hle
    have:=h6 r hr
    omega
   .rw [fA];exact h3
   .intro p hp
    have:p.1∈(R.map fun r=>(r,s'.row r)).map (·.1):=cf.2 ⟨p,hp,rfl⟩
    rw [hmap] at this
    exact this
   .intro r hr
    rw [fA]
    exact h6 r hr
   .refine @iX P G cx yx ⟨none,some b⟩ true N _ _ hm (fun _=>⟨rfl,b,rfl⟩) hcx hyx c _ _ _ hx fun p hp=>?_
    rw [bd.1 hp]
    refine AX h5 hu ⟨⟨9999,by rw [fA];exact hfz⟩,fun r hr=>by rw [fA] at hr ⊢;exact h7 r hr,fun r hr=>⟨?_,h8 r hr⟩⟩
    rw [nG,if_pos hr]
  generalize hfp:R++(List.range s'.h.length).drop h.length=fp at hc
  split at hc
  case isFalse=>cases hc
  rename_i hck2
  simp only [ae,cl] at hck2
  obtain ⟨⟨h5,h6⟩,h7⟩:=hck2
  injection hc with hc
  obtain ⟨rfl,rfl⟩:=ft hc
  have hmap:(fp.map fun r=>(r,s'.row r)).map (·.1)=fp:=by simp [gn,Function.comp_def]
  rw [hmap]
  have hnew:∀ r∈fp,r∈R\/h.length<=r:=by
   intro r hr
   rw [<- hfp] at hr
   rcases bo.1 hr with hr|hr
   .exact .inl hr
   .right
    obtain ⟨i,hi⟩:=je hr
    rw [List.getElem?_drop] at hi
    have:=aq.1 hi
    obtain ⟨hlt,he⟩:=this
    simp at he
    omega
  have hRfp:∀ r∈R,r∈fp:=fun r hr=>by rw [<- hfp];exact bo.2 (.inl hr)
  have hnone:∀ r,h.length<=r->h.getD r .none=.none:=fun r hr=>by rw [bc,d5 hr];rfl
  refine lH (H:=pF R 0 h) ⟨hG,?_,?_,?_,?_⟩ hfn hb h1 h2 ?_ ?_ fun b=>?_
  .intro r hr
   rw [kG,cp]
   rcases hnew r hr with h8|h8
   .rw [if_pos (h4 r h8).1,if_pos (by simpa using h8)]
   .rw [if_neg (by omega),hnone r h8]
  .intro r hr
   rw [kG,fA,cp]
   by_cases hlt:r<h.length
   .rw [if_pos hlt,if_pos hlt,if_neg (by simpa using fun hc=>hr (hRfp r hc))]
   .rw [if_neg hlt,if_neg hlt]
  .intro r hr
   rw [fA]
   rcases hnew r hr with h8|h8
   .exact (h4 r h8).2
   .show aG _ (h.getD r .none)=true
    rw [hnone r h8];rfl
  .intro r hr hle
   rw [fA] at hle
   exact hnone r hle
  .rw [fA];exact h3
  .intro p hp
   have:p.1∈(fp.map fun r=>(r,s'.row r)).map (·.1):=cf.2 ⟨p,hp,rfl⟩
   rw [hmap] at this
   exact this
  .refine @iX P G cx yx ⟨none,some b⟩ true N _ _ hm (fun _=>⟨rfl,b,rfl⟩) hcx hyx c _ _ _ hx fun p hp=>?_
   rw [bd.1 hp]
   refine AX h5 hu ⟨rfl,h6,fun r hr=>⟨?_,h7 r hr⟩⟩
   rw [nG,if_pos hr]
theorem ML {L:List Nat} {h:List ARow} {R:Nat->ARow} (x:LF (fun r=>h.getD r .none) R):LF (fun r=>h.getD r .none) (upd (fun r=>h.getD r .none) (L.map fun r=>(r,R r))):=fun r st pd fr ps a b e=>by
 rw [nG] at e
 split at e
 .exact x r st pd fr ps a b e
 .exact ⟨st,pd,fr,e⟩
theorem Y9 (R:List Nat) (h:List ARow) (m:Nat->List AV):LF (fun r=>h.getD r .none) (fun r=>(pF R 0 h).getD r .none):=fun r st pd fr ps a b e=>by
 simp only [kG,cp] at e
 split at e
 .split at e
  .exact ⟨st,pd,fr,e⟩
  .cases e
 .cases e
theorem vX {cx:gQ} {yx:fJ} (hc:RW cx) (hy:WR yx):RW (mT P G N T K cx yx):=fun f args h v wr hx=>by
 simp only [mT] at hx
 split at hx
 .injection hx with hx
  obtain ⟨rfl,rfl⟩:=ft hx
  exact LF.refl _
 split at hx
 .cases hx
 split at hx
 .cases hx
 rename_i c hb
 split at hx
 .split at hx
  .cases hx
  split at hx
  case h_2=>cases hx
  split at hx
  case isFalse=>cases hx
  injection hx with hx
  obtain ⟨rfl,rfl⟩:=ft hx
  exact LF.refl _
 generalize kY h N (gO args) []=R at hx
 split at hx
 case isFalse=>cases hx
 split at hx
 case h_2=>cases hx
 rename_i e s' hex
 have hl:LF (fun r=>h.getD r .none) s'.row:=(Y9 R h (fun _=>[])).trans (jU hc hy c _ _ hex _ (cy ..))
 split at hx
 .cases hx
 split at hx
 .rename_i x hx2
  injection hx with hx
  subst hx
  unfold VX at hx2
  split at hx2
  case h_2=>cases hx2
  split at hx2
  case isFalse=>cases hx2
  injection hx2 with hx2
  obtain ⟨rfl,rfl⟩:=ft hx2
  exact ML hl
 .split at hx
  case isFalse=>cases hx
  injection hx with hx
  obtain ⟨rfl,rfl⟩:=ft hx
  exact ML hl
theorem v6 {cx:gQ} {yx:fJ} (hc:RW cx) (hy:WR yx):RW (jQ P G N T K cx yx):=fun f args h v wr hx=>by
 unfold jQ at hx
 split at hx
 .rename_i x he
  injection hx with hx
  subst hx
  exact vX hc hy _ _ _ _ _ he
 .split at hx
  .exact vX hc hy _ _ _ _ _ hx
  .cases hx
theorem KX {cx:gQ} {yx:fJ} (hT:∀ e∈T,Pure P G e.1 e.2.1 e.2.2) (hG:∀ g cs,G g=some cs->aP aE cs=true) (hm:P.follows .mixedOrders=true) (hcx:jX P G cx) (hyx:kE P G yx):jX P G (jQ P G N T K cx yx):=fun f args h v wr hx=>by
 unfold jQ at hx
 split at hx
 .rename_i x he
  injection hx with hx
  subst hx
  exact vW hT hG hm hcx hyx _ _ _ _ _ he
 .split at hx
  .exact vW hT hG hm hcx hyx _ _ _ _ _ hx
  .cases hx
theorem F5 {cx:gQ} {yx:fJ} (hc:RW cx) (hy:WR yx):WR (mO P G N cx yx):=fun r args h v wr hx=>by
 simp only [mO] at hx
 split at hx
 case h_2=>cases hx
 rename_i fr ps asg body hrow
 split at hx
 case isFalse=>cases hx
 split at hx
 case h_2=>cases hx
 rename_i s1 h1
 split at hx
 case h_2=>cases hx
 rename_i fr1 ps1 a1 b1 hs1
 split at hx
 case h_2=>cases hx
 rename_i e s2 h2
 split at hx
 case h_2=>cases hx
 rename_i jump fr2 ps2 a2 b2 hj hs2
 split at hx
 case isFalse=>cases hx
 injection hx with hx
 obtain ⟨rfl,rfl⟩:=ft hx
 have x1:LF (fun r=>h.getD r .none) s1.row:=jU hc hy asg _ _ h1 _ (cy ..)
 have x2:LF s1.row (s1.wr [(r,.loop .busy none fr1 ps1 a1 b1)]).row:=by
  rw [AS.row_wr]
  intro q st pd fr' ps' a b e
  rw [fC] at e
  split at e
  .rename_i hq
   subst hq
   cases e
   exact ⟨_,_,_,hs1⟩
  .exact ⟨st,pd,fr',e⟩
 have x3:LF (s1.wr [(r,.loop .busy none fr1 ps1 a1 b1)]).row s2.row:=jU hc hy body _ _ h2 _ (cy ..)
 have x4:LF s2.row (GN r jump fr2 ps2 a2 b2 s2).row:=by
  rw [GN,AS.row_wr]
  intro q st pd fr' ps' a b e
  rw [fC] at e
  split at e
  .rename_i hq
   subst hq
   cases e
   exact ⟨_,_,_,hs2⟩
  .exact ⟨st,pd,fr',e⟩
 exact ML (((x1.trans x2).trans x3).trans x4)
theorem uJ {E:En} {h:List ARow}:∀ {args a1 a2:List AV} {r ver:Nat} {cs:List AV} {us:List Value},xS h args=some (a1,a2,r,ver,cs)->h.getD r .none=.cells ver cs/\
  (E.rows r=h.getD r .none->RelL E args us->RelL E a1 us\/RelL E a2 us)
 | [],_,_,_,_,_,_,e=>by simp [xS] at e
 | a :: as, a1, a2, r, ver, cs, us, e => by
  simp only [xS] at e
  split at e
  .rename_i r' ver' n sz cs' hs
   simp only [ao,db] at e
   obtain ⟨rfl,rfl,rfl,rfl,rfl⟩:=e
   unfold T2 at hs
   split at hs
   .rename_i r2 v2 off n2 sz2
    split at hs
    .rename_i v cs2 hrow
     split at hs
     .rename_i hck
      simp only [ae,decide_eq_true_eq] at hck
      simp only [ao,db] at hs
      obtain ⟨rfl,rfl,rfl,rfl,rfl⟩:=hs
      obtain ⟨rfl,rfl,hlen⟩:=hck
      refine ⟨hrow,fun hE hl=>?_⟩
      rw [hrow] at hE
      simp only [RelL] at hl ⊢
      obtain ⟨u,rest,rfl,h1,h2⟩:=hl
      simp only [Rel,hE,RefOK] at h1
      obtain ⟨o,_,h1⟩:=h1
      obtain ⟨cap,cur,e,q1,q2,q3,q4,q5,q6⟩:=h1 trivial
      by_cases hcap:cap=n2
      .exact .inl ⟨u,rest,rfl,by simp only [Rel,hE,RefOK];exact ⟨o,ap _,fun _=>⟨cap,cur,e,q1,q2,q3,fun _=>hcap,q5,q6⟩⟩,h2⟩
      .exact .inr ⟨u,rest,rfl,by simp only [Rel,hE,RefOK];exact ⟨o,ap _,fun _=>⟨cap,cur,e,q1,q2,q3,by omega,q5,q6⟩⟩,h2⟩
     .cases hs
    .cases hs
   .cases hs
  .split at e
   .rename_i x y q hs
    simp only [ao,db] at e
    obtain ⟨rfl,rfl,rfl⟩:=e
    refine ⟨(uJ (E:=E) (us:=[]) hs).1,fun hE hl=>?_⟩
    simp only [RelL] at hl ⊢
    obtain ⟨u,rest,rfl,h1,h2⟩:=hl
    rcases (uJ (us:=rest) hs).2 hE h2 with h3|h3
    .exact .inl ⟨u,rest,rfl,h1,h3⟩
    .exact .inr ⟨u,rest,rfl,h1,h3⟩
   .cases e
theorem R3 {h:Nat->ARow} {r:Nat} {x y:ARow} (e:A6 x y=true) (hx:∀ st pd fr ps a b,x=.loop st pd fr ps a b->∃ st' pd' fr',h r=.loop st' pd' fr' ps a b)
  (hy:∀ st pd fr ps a b,y=.loop st pd fr ps a b->∃ st' pd' fr',h r=.loop st' pd' fr' ps a b):x=y:=by
 unfold A6 at e
 split at e
 case h_5=>exact A1 e
 all_goals
  obtain ⟨_,_,_,e1⟩:=hx _ _ _ _ _ _ rfl
  obtain ⟨_,_,_,e2⟩:=hy _ _ _ _ _ _ rfl
  rw [e1] at e2
  injection e2 with _ _ _ e3 e4 e5
  rw [lE _ _ e,e3,e4,e5]
theorem vK {r ver:Nat} {cs:List AV}:∀ {a b:List (Nat × ARow)},iT r ver cs a b=true->a.map (·.1)=b.map (·.1)
 | [],[],_=>rfl
 | [],_::_,h=>by simp [iT] at h
 |_::_,[],h=>by simp [iT] at h
 |(q,x)::a,(q',y)::b,h=>by
  simp only [iT,ae,decide_eq_true_eq] at h
  simp only [ay,h.1,vK h.2.2]
theorem y4 {r ver:Nat} {cs:List AV}:∀ {a b:List (Nat × ARow)} {R R':Nat->ARow},iT r ver cs a b=true->∀ q,q≠r->(R q=R' q\/A6 (R q) (R' q)=true)->upd R a q=upd R' b q\/A6 (upd R a q) (upd R' b q)=true
 | [],[],R,R',_,q,_,hq=>hq
 | [],_::_,_,_,h,_,_,_=>by simp [iT] at h
 |_::_,[],_,_,h,_,_,_=>by simp [iT] at h
 |(k,x)::a,(k',y)::b,R,R',h,q,hr,hq=>by
  simp only [iT,ae,decide_eq_true_eq] at h
  obtain ⟨rfl,h1,h2⟩:=h
  refine y4 (R:=fun r=>if r=k then x else R r) (R':=fun r=>if r=k then y else R' r) h2 q hr ?_
  by_cases hk:q=k
  .subst hk
   rw [if_neg hr] at h1
   simp only [if_true]
   exact .inr h1
  .simp only [if_neg hk]
   exact hq
theorem rS {r ver:Nat} {cs:List AV}:∀ {a b:List (Nat × ARow)} {R R':Nat->ARow},iT r ver cs a b=true->(r∈a.map (·.1)\/(tF ver cs (R r)=true/\tF ver cs (R' r)=true))->tF ver cs (upd R a r)=true/\tF ver cs (upd R' b r)=true
 | [],[],R,R',_,h=>by
  rcases h with h|h
  .cases h
  .exact h
 | [],_::_,_,_,h,_=>by simp [iT] at h
 |_::_,[],_,_,h,_=>by simp [iT] at h
 | (k, x) :: a, (k', y) :: b, R, R', h, hq => by
  simp only [iT,ae,decide_eq_true_eq] at h
  obtain ⟨rfl,h1,h2⟩:=h
  refine rS (R:=fun r=>if r=k then x else R r) (R':=fun r=>if r=k then y else R' r) h2 ?_
  by_cases hk:k=r
  .subst hk
   rw [if_pos rfl,ae] at h1
   simp only [if_true]
   exact .inr h1
  .have hk2:r≠k:=fun e=>hk e.symm
   simp only [if_neg hk2]
   rcases hq with hq|hq
   .rcases bn.1 hq with e|hq
    .exact absurd e hk2
    .exact .inl hq
   .exact .inr hq
theorem u1 {r ver:Nat} {cs:List AV}:∀ {a:List (Nat × ARow)},(wF r ver cs a).map (·.1)=a.map (·.1)
 | []=>rfl
 |(q,x)::a=>by
  have ih:=u1 (r:=r) (ver:=ver) (cs:=cs) (a:=a)
  unfold wF at ih ⊢
  by_cases hq:q=r
  .subst hq;simp only [ay,if_true,ih]
  .simp only [ay,if_neg hq,ih]
theorem tX {r ver:Nat} {cs:List AV}:∀ {a:List (Nat × ARow)} {R R':Nat->ARow} (q:Nat),(q≠r->R q=R' q)->(r∈a.map (·.1)\/R r=.cells ver cs)->upd R (wF r ver cs a) q=if q=r then .cells ver cs else upd R' a q
 | [],R,R',q,h,hm=>by
  rcases hm with hm|hm
  .cases hm
  .show R q=if q=r then _ else R' q
   by_cases hq:q=r
   .rw [if_pos hq,hq,hm]
   .rw [if_neg hq,h hq]
 | (k, x) :: a, R, R', q, h, hm => by
  by_cases hk:k=r
  .have e:upd R (wF r ver cs ((k,x)::a)) q=upd (fun q=>if q=r then .cells ver cs else R q) (wF r ver cs a) q:=by simp only [wF,ay,if_pos hk,upd]
   rw [e]
   exact tX (R':=fun q=>if q=k then x else R' q) q (fun hq=>by simp only [if_neg hq,hk,h hq]) (.inr (by simp))
  .have e:upd R (wF r ver cs ((k,x)::a)) q=upd (fun q=>if q=k then x else R q) (wF r ver cs a) q:=by simp only [wF,ay,if_neg hk,upd]
   rw [e]
   refine tX (R':=fun q=>if q=k then x else R' q) q (fun hq=>by simp only [h hq]) ?_
   have hk2:r≠k:=fun e=>hk e.symm
   rcases hm with hm|hm
   .rcases bn.1 hm with e|hm
    .exact absurd e hk2
    .exact .inl hm
   .exact .inr (by simp only [if_neg hk2];exact hm)
theorem O9 {E:En} (i:Inv G E) {r ver:Nat} {c cs:List AV} (hr:E.rows r=.cells ver c) (hc:c.take cs.length=cs):
  Ext E ⟨E.w,E.S,E.ρ,upd E.rows [(r,.cells ver cs)]⟩/\Inv G ⟨E.w,E.S,E.ρ,upd E.rows [(r,.cells ver cs)]⟩:=by
 have hl:(E.rows r).live=true:=by rw [hr];rfl
 refine gV i E.w E.ρ _ r rfl rfl rfl (ap _) (fun q hq=>⟨by simp [upd,hq],rfl⟩) (fun b hb hne=>rfl)
  (fun h=>by rw [hr] at h;cases h) (fun v c' h=>?_) (fun h=>by rw [hr] at h;cases h) (fun _=>.inl ⟨hl,rfl⟩) fun x=>?_
 .rw [hr] at h
  injection h with h2 h3
  subst h2
  exact .inr ⟨ver,cs,by simp [upd],ap _,fun _=>⟨rfl,fun cur0 e fz hc=>⟨cur0,e,hc,rfl⟩⟩⟩
 .have h0:=i.row r
  unfold RowOK at h0 ⊢
  rw [hr] at h0
  obtain ⟨cur0,e,vs0,k1,k2,k3,k4,k5⟩:=h0
  simp only [upd,if_true]
  have k6:=(k3.take cs.length).ext i x
  rw [hc] at k6
  refine ⟨cur0,e,vs0.take cs.length,k1,k2,k6,fun u hu=>k4 u (fx hu),?_⟩
  have hlen:cs.length<=c.length:=by
   have:=congrArg List.length hc
   rw [cr] at this
   omega
  rw [<- k5,List.take_take,jn hlen]
theorem UN {ver:Nat} {cs:List AV} {x:ARow} (h:tF ver cs x=true):∃ c,x=.cells ver c/\c.take cs.length=cs:=by
 cases x<;>simp [tF] at h
 obtain ⟨rfl,h⟩:=h
 exact ⟨_,rfl,lE _ _ h⟩
theorem I4 {cx:gQ} {yx:fJ} (hT:∀ e∈T,Pure P G e.1 e.2.1 e.2.2) (hG:∀ g cs,G g=some cs->aP aE cs=true) (hm:P.follows .mixedOrders=true) (hcx:jX P G cx) (hyx:kE P G yx) (lc:RW cx) (ly:WR yx):jX P G (oY P G N T K cx yx):=fun f args h v wr hc=>by
 have core:=KX (N:=N) (K:=K) hT hG hm hcx hyx
 have lf:=v6 (P:=P) (G:=G) (N:=N) (T:=T) (K:=K) lc ly
 simp only [oY] at hc
 split at hc
 case isFalse=>exact core _ _ _ _ _ hc
 split at hc
 case h_2=>exact core _ _ _ _ _ hc
 rename_i a1 a2 r ver cs hsp
 split at hc
 case h_2=>cases hc
 rename_i v1 wr1 v2 wr2 hc1 hc2
 split at hc
 case isFalse=>cases hc
 rename_i hck
 simp only [ae] at hck
 obtain ⟨k1,k2,k3,k4⟩:=hck
 injection hc with hc
 obtain ⟨rfl,rfl⟩:=ft hc
 have hr1:r∈wr1.map (·.1):=by simpa using k3
 have hkeys:=vK k2
 obtain ⟨b1,b2,b3⟩:=core _ _ _ _ _ hc1
 obtain ⟨d1,d2,d3⟩:=core _ _ _ _ _ hc2
 rw [u1]
 refine ⟨b1,fun p hp=>?_,fun E us i hr hl=>?_⟩
 .have:p.1∈(wF r ver cs wr1).map (·.1):=cf.2 ⟨p,hp,rfl⟩
  rwa [u1] at this
 .have hEr:=hr r hr1
  -- after either way, row r is cut back
  have fin:∀ (wr':List (Nat × ARow)),wr'.map (·.1)=wr1.map (·.1)->(∀ R:Nat->ARow,tF ver cs (upd R wr' r)=true)->(∀ q,q≠r->upd E.rows wr' q=upd E.rows wr1 q)->∀ (e:Ending) (w':World),(∃ u E',e=.returned u/\w'=E'.w/\Rel E' v1 u/\Ext E E'/\Inv G E'/\E'.rows=upd E.rows wr')->
    ∃ u E',e=.returned u/\w'=E'.w/\Rel E' v1 u/\Ext E E'/\Inv G E'/\E'.rows=upd E.rows (wF r ver cs wr1):=by
   rintro wr' hk' hcut hoth e w' ⟨u,E',e1,e2,e3,e4,e5,e6⟩
   obtain ⟨c,hc1,hc2⟩:=UN (hcut E.rows)
   have hx2:=O9 e5 (r:=r) (ver:=ver) (c:=c) (cs:=cs) (by rw [e6,hc1]) hc2
   refine ⟨u,⟨E'.w,E'.S,E'.ρ,upd E'.rows [(r,.cells ver cs)]⟩,e1,e2,e3.ext e5 hx2.1,e4.trans hx2.1,hx2.2,?_⟩
   funext q
   rw [tX (R:=E.rows) (R':=E.rows) q (fun _=>rfl) (.inl hr1)]
   show upd E'.rows [(r,.cells ver cs)] q=_
   rw [fC]
   by_cases hq:q=r
   .rw [if_pos hq,if_pos hq]
   .rw [if_neg hq,if_neg hq,e6,hoth q hq]
  rcases (uJ (us:=us) hsp).2 hEr hl with hl1|hl2
  .exact (b3 E us i hr hl1).mono fun e w' hh=>fin wr1 rfl (fun R=>(rS (R:=R) (R':=R) k2 (.inl hr1)).1) (fun _ _=>rfl) e w' hh
  .rw [hkeys] at hr
   have hv:=GM _ _ k1
   subst hv
   refine (d3 E us i hr hl2).mono fun e w' hh=>fin wr2 hkeys.symm (fun R=>(rS (R:=R) (R':=R) k2 (.inl hr1)).2) (fun q hq=>?_) e w' hh
   by_cases hqk:q∈wr1.map (·.1)
   .have f1:upd E.rows wr1 q=upd (fun r=>h.getD r .none) wr1 q:=dA _ _ _ _ (hr q (hkeys ▸ hqk))
    have f2:upd E.rows wr2 q=upd (fun r=>h.getD r .none) wr2 q:=dA _ _ _ _ (hr q (hkeys ▸ hqk))
    rw [f1,f2]
    rcases y4 (R:=fun r=>h.getD r .none) (R':=fun r=>h.getD r .none) k2 q hq (.inl rfl) with hh|hh
    .exact hh.symm
    .exact (R3 (h:=fun r=>h.getD r .none) (r:=q) hh (fun st pd fr ps a b e=>lf _ _ _ _ _ hc1 q st pd fr ps a b e) (fun st pd fr ps a b e=>lf _ _ _ _ _ hc2 q st pd fr ps a b e)).symm
   .rw [gI hqk,gI (hkeys ▸ hqk)]
theorem I5 {cx:gQ} {yx:fJ} (lc:RW cx) (ly:WR yx):RW (oY P G N T K cx yx):=fun f args h v wr hc=>by
 have lf:=v6 (P:=P) (G:=G) (N:=N) (T:=T) (K:=K) lc ly
 simp only [oY] at hc
 split at hc
 case isFalse=>exact lf _ _ _ _ _ hc
 split at hc
 case h_2=>exact lf _ _ _ _ _ hc
 rename_i a1 a2 r ver cs hsp
 split at hc
 case h_2=>cases hc
 rename_i v1 wr1 v2 wr2 hc1 hc2
 split at hc
 case isFalse=>cases hc
 rename_i hck
 simp only [ae] at hck
 obtain ⟨k1,k2,k3,k4⟩:=hck
 injection hc with hc
 obtain ⟨rfl,rfl⟩:=ft hc
 have hr1:r∈wr1.map (·.1):=by simpa using k3
 intro q st pd fr ps a b e
 rw [tX (R':=fun r=>h.getD r .none) q (fun _=>rfl) (.inl hr1)] at e
 split at e
 .cases e
 .exact lf _ _ _ _ _ hc1 q st pd fr ps a b e
theorem KS (hT:∀ e∈T,Pure P G e.1 e.2.1 e.2.2) (hG:∀ g cs,G g=some cs->aP aE cs=true) (hm:P.follows .mixedOrders=true):∀ d,jX P G (tY P G N T K d).1/\kE P G (tY P G N T K d).2/\RW (tY P G N T K d).1/\WR (tY P G N T K d).2
 |0=>⟨fun f args h v wr hc=>(by cases hc),fun f args h v wr hc=>(by cases hc),fun f args h v wr hc=>(by cases hc),fun f args h v wr hc=>(by cases hc)⟩
 |d+1=>by
  obtain ⟨h1,h2,h3,h4⟩:=KS hT hG hm d
  exact ⟨I4 hT hG hm h1 h2 h3 h4,F4 hG hm h1 h2,I5 h3 h4,F5 h3 h4⟩
theorem VU (hT:∀ e∈T,Pure P G e.1 e.2.1 e.2.2) (hG:∀ g cs,G g=some cs->aP aE cs=true) (hm:P.follows .mixedOrders=true) (d:Nat):jX P G (VV P G N T K d):=(KS hT hG hm d).1
end
theorem nL {P:Program} {G:Nat->Option (List AV)} {f:FuncId} {args:List AV} {res:AV} (N d:Nat) (T:List (FuncId × List AV × AV)) (K:List FuncId) (hT:∀ e∈T,Pure P G e.1 e.2.1 e.2.2) (hG:∀ g cs,G g=some cs->aP aE cs=true) (hm:P.follows .mixedOrders=true)
  (hres:aI aE res=true) (h:VV P G N T K d f args []=some (res,[])):Pure P G f args res:=by
 obtain ⟨h1,h2,h3⟩:=VU hT hG hm d f args [] res [] h
 exact ⟨hres,fun rows=>⟨h1,h2,fun E us i _ hl=>h3 E us i (by simp) hl⟩⟩
theorem J9 {P:Program} {G:Nat->Option (List AV)}:∀ e∈([]:List (FuncId × List AV × AV)),Pure P G e.1 e.2.1 e.2.2:=fun e he=>by cases he
end Go.AM
namespace Go.AM
section
variable {P:Program} {G:Nat->Option (List AV)} {cx:gQ} {yx:fJ}
def Good [i6] (P:Program) (G:Nat->Option (List AV)) (n k:Nat) (c:Code) (Q:Exit->AS->Prop):Nat->AS->Prop
 |0,_=>False
 |m+1,s=>cG P G n k c (mY (Good P G n k c Q m) Q) s
end
section
variable {P:Program} {G:Nat->Option (List AV)} {cx:gQ} {yx:fJ}
end
end Go.AM
namespace Go.AM
def EG {ι:Type} (R: ι->Prop) (X: ι->Prop):Prop:=∃ i,R i/\X i
section
variable {ι:Type} {R: ι->Prop} {X Y: ι->Prop}
theorem EG.mono (f:∀ i,X i->Y i) (h:EG R X):EG R Y:=by
 obtain ⟨i,a,b⟩:=h
 exact ⟨i,a,f i b⟩
theorem EG.imp {R': ι->Prop} (f:∀ i,R i->R' i) (h:EG R X):EG R' X:=by
 obtain ⟨i,a,b⟩:=h
 exact ⟨i,f i a,b⟩
theorem EG.of (i: ι) (h:R i) (hx:X i):EG R X:=⟨i,h,hx⟩
theorem VB {p:Prop} (hp:p) (h:EG R X):EG R (fun i=>p/\X i):=h.mono fun _ q=>⟨hp,q⟩
theorem KI {b:Bool} (ht:b=true->EG R X) (hf:b=false->EG R Y):EG R (fun i=>(b=true->X i)/\(b=false->Y i)):=by
 cases b with
 |true=>exact (ht rfl).mono fun _ q=>⟨fun _=>q,fun h=>by cases h⟩
 |false=>exact (hf rfl).mono fun _ q=>⟨(fun h=>by cases h),fun _=>q⟩
end
section
variable [i6] {P:Program} {G:Nat->Option (List AV)} {n k:Nat} {ι:Type} {R: ι->Prop} {Q: ι->Exit->AS->Prop} {s:AS}
def ContE (P:Program) (G:Nat->Option (List AV)) (n k:Nat) (R: ι->Prop) (y:Code) (Q: ι->Exit->AS->Prop) (K: ι->AS->Prop):Prop:=∀ s,EG R (fun i=>cG P G n k y (Q i) s)->EG R (fun i=>K i s)
theorem ContE.go {y:Code} {K: ι->AS->Prop} (c:ContE P G n k R y Q K) (h:EG R (fun i=>cG P G n k y (Q i) s)):EG R (fun i=>K i s):=c s h
def ArmE (P:Program) (G:Nat->Option (List AV)) (n k:Nat) (R: ι->Prop) (y:Code) (Q: ι->Exit->AS->Prop) (s:AS) (X: ι->Prop):Prop:=EG R (fun i=>cG P G n k y (Q i) s)->EG R X
theorem ArmE.go {y:Code} {X: ι->Prop} (c:ArmE P G n k R y Q s X) (h:EG R (fun i=>cG P G n k y (Q i) s)):EG R X:=c h
theorem V8 {x y:Code} (h:∀ K: ι->AS->Prop,ContE P G n k R y Q K->EG R (fun i=>cG P G n k x (mY (K i) (Q i)) s)):EG R (fun i=>cG P G n k (.seq x y) (Q i) s):=
 (h (fun i=>cG P G n k y (Q i)) fun _ h=>h).mono fun _ q=>GX q
theorem VA {id:Nat} {c:Code} (h:EG R (fun i=>cG P G n k c (oD id (Q i)) s)):EG R (fun i=>cG P G n k (.block id c) (Q i) s):=h.mono fun _ q=>qO q
theorem aA7 {id:Nat} {ops:Array Oper} (h:EG R (fun i=>bG P G n (fun _=>Q i .normal) (fQ ops) none s)):EG R (fun i=>cG P G n k (.region id ops false) (Q i) s):=h.mono fun _ q=>t3 q
theorem aA8 {id:Nat} {ops:Array Oper} (hm:P.follows .mixedOrders=true) (hs:jG ops=true) (h:EG R (fun i=>bG P G n (fun m s'=>KQ ops m/\Q i .normal s') (fQ ops) (some []) s)):EG R (fun i=>cG P G n k (.region id ops true) (Q i) s):=h.mono fun _ q=>GZ hm hs q
theorem R4 {c:Operand} {x y:Code} (h:∀ X Y: ι->Prop,ArmE P G n k R x Q s X->ArmE P G n k R y Q s Y->EG R (fun i=>lX (X i) (Y i) (d8 G s.get c))):EG R (fun i=>cG P G n k (.cond c x y) (Q i) s):=by
 refine (h (fun i=>cG P G n k x (Q i) s) (fun i=>cG P G n k y (Q i) s) (fun h=>h) (fun h=>h)).mono fun i q=>?_
 unfold lX at q
 split at q
 .rename_i b hb
  exact t5 hb q.1 q.2
 .rename_i hb
  exact n7 hb q.1 q.2
 .exact q.elim
theorem Good.succ {c:Code} {Q:Exit->AS->Prop}:∀ {m:Nat} {s:AS},Good P G n k c Q m s->Good P G n k c Q (m+1) s
 |0,_,h=>h.elim
 |m+1,_,h=>jR h fun e s' q=>by
  cases e with
  |normal=>exact Good.succ (m:=m) q
  |_=>exact q
theorem Good.le {c:Code} {Q:Exit->AS->Prop} {m m':Nat} (hm:m<=m') {s:AS} (h:Good P G n k c Q m s):Good P G n k c Q m' s:=by
 induction hm with
 |refl=>exact h
 |step _ ih=>exact ih.succ
end
section
variable {P:Program} {G:Nat->Option (List AV)} {n:Nat} {d:Option Tmp} {rest:List nA} {m:Option eV} {s:AS} {ι:Type} {R: ι->Prop} {K: ι->Option eV->AS->Prop}
theorem V9 {op:Op} {want b:Bool} (ht:b=true->EG R (fun i=>aQ P G n (K i) d rest m s op want (.bool true))) (hf:b=false->EG R (fun i=>aQ P G n (K i) d rest m s op want (.bool false))):EG R (fun i=>aQ P G n (K i) d rest m s op want (.bool b)):=by
 cases b with
 |true=>exact ht rfl
 |false=>exact hf rfl
def EC (P:Program) (G:Nat->Option (List AV)) (f:FuncId) (args:List AV) (rows:Nat->ARow) (fp:List Nat) (R:eL->Prop):Prop:=∃ eff,R eff/\c8 P G f args rows fp eff
def EP (P:Program) (G:Nat->Option (List AV)) (f:FuncId) (args:List AV) (R:AV->Prop):Prop:=∃ res,R res/\Pure P G f args res
theorem j9 {f:FuncId} {args:List AV} {res:AV} (hG:∀ g cs,G g=some cs->aP aE cs=true) (h:Pure P G f args res) (hk:EG R (fun i=>bG P G n (K i) rest (lM m [] []) (s.put d res))):EG R (fun i=>bI P G n (K i) d rest m s f args):=hk.mono fun i q=>bO hG h q
end
section
variable {P:Program} {ι:Type} {R: ι->Prop} {fn:Func} {Rp: ι->AV->AS->Prop} {s:AS}
end
theorem N4 {P:Program} {G:Nat->Option (List AV)} {f:FuncId} {fn:Func} {c:Code} {args:List AV} {R:AV->Prop}
  (hG:∀ g cs,G g=some cs->aP aE cs=true) (hf:P.funcs[f]? =some fn) (hb:fn.body=some c) (hgo:fR P f=true) (hn:args.length<=fn.ntmps)
  (hargs:aP aE args=true) (hres:∀ res,R res->aI aE res=true)
  (hbody:EG R (fun res=>cG P G fn.ntmps 0 c (eR P fn fun v _=>wk v=res) ⟨eJ (aK 0 args),[]⟩)):EP P G f args R:=by
 obtain ⟨res,h1,h2⟩:=hbody
 exact ⟨res,h1,bH hG hf hb hgo hn hargs (hres res h1) h2⟩
theorem N5 {P:Program} {G:Nat->Option (List AV)} {f:FuncId} {fn:Func} {c:Code} {args:List AV} {rows:Nat->ARow} {fp:List Nat} {R:eL->Prop} (H:List ARow)
  (hG:∀ g cs,G g=some cs->aP aE cs=true) (hf:P.funcs[f]? =some fn) (hb:fn.body=some c) (hgo:fR P f=true) (hn:args.length<=fn.ntmps)
  (hfp:∀ r∈fp,H.getD r .none=rows r) (hdead:∀ r,r ∉ fp->H.getD r .none=if r<H.length then .dead else .none)
  (hargs:aP (fun r=>decide (r<H.length)) args=true) (hrows:∀ r∈fp,aG (fun r=>decide (r<H.length)) (rows r)=true) (hnew:∀ r∈fp,H.length<=r->rows r=.none) (hwr:∀ eff,R eff->∀ p∈eff.wr,p.1∈fp)
  (hbody:EG R (fun eff=>cG P G fn.ntmps H.length c (eR P fn fun v s=>(v=eff.val\/wk v=eff.val)/\aI (fun r=>fp.contains r) v=true/\∀ r∈fp,s.row r=upd rows eff.wr r/\aG (fun r=>fp.contains r) (s.row r)=true) ⟨eJ (aK 0 args),H⟩)):
  EC P G f args rows fp R:=by
 obtain ⟨eff,h1,h2⟩:=hbody
 exact ⟨eff,h1,bT H hG hf hb hgo hn hfp hdead hargs hrows hnew (hwr eff h1) h2⟩
end Go.AM
