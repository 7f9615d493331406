import Derived.Test.YtggflhbigolakaaGreatDoorAB
set_option linter.unusedVariables false
set_option linter.unusedSimpArgs false
namespace Go.AM
theorem RefOK.imp {row:ARow} {ver:Nat} {p p':Prop} (h:RefOK row ver p) (hp:row.live=true→p→p'):RefOK row ver p':=by
 cases row with
 |none=>exact h.elim
 |dead=>trivial
 |cells c cs=>exact ⟨h.1,fun e=>hp rfl (h.2 e)⟩
 |map ks vs=>exact ⟨h.1,hp rfl h.2⟩
 |iter ks vs l j=>exact ⟨h.1,hp rfl h.2⟩
 |loop st pend fr ps asg body=>exact ⟨h.1,hp rfl h.2⟩
def zJ (E:En) (b:Nat):Prop:=E.S b∨∃ r,(E.rows r).live=true∧E.ρ r=b
mutual
theorem Rel.heap {E:En} {w':World} (h:∀ b,zJ E b→w'.heap[b]? =E.w.heap[b]?):∀ {c:AV} {v:Value},Rel E c v→Rel ⟨w',E.S,E.ρ,E.rows⟩ c v
 | .undef,_,_=>by simp [Rel]
 | .bool b,_,g=>by simpa only [Rel] using g
 | .int k n,_,g=>by simpa only [Rel] using g
 | .str s,_,g=>by simpa only [Rel] using g
 | .agg cs,_,g=>by
  simp only [Rel] at g ⊢
  obtain ⟨vs,h1,h2,h3⟩:=g
  exact ⟨vs,h1,RelL.heap h h2,h3⟩
 | .tup cs,_,g=>by
  simp only [Rel] at g ⊢
  obtain ⟨vs,h1,h2⟩:=g
  exact ⟨vs,h1,RelL.heap h h2⟩
 | .sl full es,_,g=>by
  simp only [Rel] at g ⊢
  obtain ⟨p,cap,h1,h2,h3,h4,h5,b,off,sz,h6,h7⟩:=g
  refine ⟨p,cap,h1,h2,h3,h4,h5,b,off,sz,h6,?_⟩
  rcases h6 with h6|⟨_,s⟩
  ·subst h6;simp [RelE]
  ·exact RelE.heap h s h7
 | .osl r ver off n sz full,v,g=>by
  simp only [Rel] at g ⊢
  exact ⟨g.1,g.2.imp fun hl ⟨cap,cur,e,a1,a2,a3,a4,a5,a6⟩=>⟨cap,cur,e,a1,a2,a3,a4,by rw [h _ (.inr ⟨r,hl,rfl⟩)];exact a5,a6⟩⟩
 | .rsl r ver off n sz,v,g=>by
  simp only [Rel] at g ⊢
  exact ⟨g.1,g.2.imp fun hl ⟨cap,cur,e,a1,a2,a3,a4,a5,a6⟩=>⟨cap,cur,e,a1,a2,a3,a4,by rw [h _ (.inr ⟨r,hl,rfl⟩)];exact a5,a6⟩⟩
 | .rsv _,v,g=>by simpa only [Rel] using g
 | .ptr r ver off,v,g=>by simpa only [Rel] using g
 | .imm cs,_,g=>by
  simp only [Rel] at g ⊢
  obtain ⟨b,off,vs,h1,h2,h3,h4⟩:=g
  exact ⟨b,off,vs,h1,h2,RelL.heap h h3,h4.of_block (h b (.inl h2))⟩
 | .nilptr,_,g=>by simpa only [Rel] using g
 | .mp ks vs,_,g=>by
  simp only [Rel] at g ⊢
  rcases g with g|⟨b,es,clock,h1,h2,h3,h6,el,h7,h4,h5⟩
  ·exact .inl g
  ·exact .inr ⟨b,es,clock,h1,h2,by rw [h b (.inl h2)];exact h3,h6,el,h7,RelL.heap h h4,RelL.heap h h5⟩
 | .omp r,v,g=>by simpa only [Rel] using g
 | .yld r,v,g=>by simpa only [Rel] using g
 | .fn f first cap,_,g=>by
  simp only [Rel] at g ⊢
  obtain ⟨a,b,h1,h2,h3⟩:=g
  exact ⟨a,b,h1,RelL.heap h h2,RelL.heap h h3⟩
 | .nilfn,_,g=>by simpa only [Rel] using g
 | .iface t c,_,g=>by
  simp only [Rel] at g ⊢
  obtain ⟨u,h1,h2⟩:=g
  exact ⟨u,h1,Rel.heap h h2⟩
 | .niliface,_,g=>by simpa only [Rel] using g
 | .anyb,_,g=>by simpa only [Rel] using g
theorem RelL.heap {E:En} {w':World} (h:∀ b,zJ E b→w'.heap[b]? =E.w.heap[b]?):∀ {cs:List AV} {vs:List Value},RelL E cs vs→RelL ⟨w',E.S,E.ρ,E.rows⟩ cs vs
 | [],_,g=>by simpa only [RelL] using g
 |c::cs,_,g=>by
  simp only [RelL] at g ⊢
  obtain ⟨v,rest,h1,h2,h3⟩:=g
  exact ⟨v,rest,h1,Rel.heap h h2,RelL.heap h h3⟩
theorem RelE.heap {E:En} {w':World} (h:∀ b,zJ E b→w'.heap[b]? =E.w.heap[b]?) {b:Nat} (s:E.S b):∀ {es:List (List AV)} {off sz:Nat},RelE E es b off sz→RelE ⟨w',E.S,E.ρ,E.rows⟩ es b off sz
 | [],_,_,_=>by simp [RelE]
 |e::es,_,_,g=>by
  simp only [RelE] at g ⊢
  obtain ⟨⟨h1,vs,h2,h3⟩,h4⟩:=g
  exact ⟨⟨h1,vs,RelL.heap h h2,h3.of_block (h b (.inl s))⟩,RelE.heap h s h4⟩
end
theorem RowOK.heap {E:En} {w':World} (h:∀ b,zJ E b→w'.heap[b]? =E.w.heap[b]?) {r:Nat} (g:RowOK E r):RowOK ⟨w',E.S,E.ρ,E.rows⟩ r:=by
 unfold RowOK at g ⊢
 have hh:(E.rows r).live=true→w'.heap[E.ρ r]? =E.w.heap[E.ρ r]? :=fun hl=>h _ (.inr ⟨r,hl,rfl⟩)
 simp only
 cases hr:E.rows r with
 |none=>trivial
 |dead=>trivial
 |cells ver cs=>
  rw [hr] at g hh
  obtain ⟨cur,e,vs,h1,h2,h3,h4⟩:=g
  exact ⟨cur,e,vs,by rw [hh rfl];exact h1,h2,h3.heap h,h4⟩
 |map ks vs=>
  rw [hr] at g hh
  obtain ⟨es,clock,h1,h2,h3,h4,h5⟩:=g
  exact ⟨es,clock,by rw [hh rfl];exact h1,h2,h3,h4.heap h,h5.heap h⟩
 |iter ks vs l j=>
  rw [hr] at g hh
  obtain ⟨mb,es,clock,since,seen,h1,h2,h3,h4,h5,h6,h7,h8,h9⟩:=g
  exact ⟨mb,es,clock,since,seen,by rw [hh rfl];exact h1,h2,h3,by rw [h mb (.inl h3)];exact h4,h5,h6,h7.heap h,h8.heap h,h9⟩
 |loop st pend fr ps asg body=>
  rw [hr] at g hh
  obtain ⟨fn,tm,D,h1,h2,h3⟩:=g
  exact ⟨fn,tm,D,by rw [hh rfl];exact h1,h2,h3.heap h⟩
theorem Inv.heap {G:Nat→Option (List AV)} {E:En} {w':World} (i:Inv G E) (h:∀ b,zJ E b→w'.heap[b]? =E.w.heap[b]?) (hsz:E.w.heap.size≤w'.heap.size):Inv G ⟨w',E.S,E.ρ,E.rows⟩:=
 ⟨fun r=>(i.row r).heap h,i.inj,fun b hb=>Nat.lt_of_lt_of_le (i.sb b hb) hsz,fun g cs hg=>by
  obtain ⟨vs,h1,h2,h3⟩:=i.glob g cs hg
  exact ⟨vs,h1,h2.heap h,h3.of_block (h g (.inl h1))⟩⟩
def gT (w:World):List Nat→World
 | []=>w
 |D::Ds=>gT (w.putObj D (.deferred none)) Ds
theorem y6:∀ (Ds:List Nat) (w:World),(gT w Ds).os=w.os∧(gT w Ds).tape=w.tape∧(gT w Ds).output=w.output∧(gT w Ds).heap.size=w.heap.size
 | [],w=>⟨rfl,rfl,rfl,rfl⟩
 |D::Ds,w=>by
  obtain ⟨h1,h2,h3,h4⟩:=y6 Ds (w.putObj D (.deferred none))
  exact ⟨h1,h2,h3,by rw [gT,h4,World.putObj_size]⟩
theorem mP:∀ (Ds:List Nat) (w:World) (k:Nat),k ∉ Ds→(gT w Ds).heap[k]? =w.heap[k]?
 | [],w,k,_=>rfl
 |D::Ds,w,k,h=>by
  simp only [List.mem_cons,not_or] at h
  rw [gT,mP Ds _ k h.2,World.putObj_heap_other h.1]
theorem H4 {P:Program} {fn:Func} {tmps:Array Value} {R:Ending→World→Prop}:∀ (Ds:List Nat) (w:World),Ds.Nodup→(∀ D∈Ds,w.heap[D]? =some (.deferred (some [])))→
  LeavesIn Fence.wide 0 P fn tmps R [] .returning (gT w Ds)→LeavesInM Fence.wide 0 P fn tmps R (Ds.map fun D=>{ target:=.collected D,args:= #[] }) .returning w
 | [],w,_,_,h=>h
 |D::Ds,w,hn,hd,h=>by
  rw [List.nodup_cons] at hn
  refine ⟨by simp,.inl ⟨D,_,rfl,run_takeDeferred (hd D (by simp)),H4 Ds _ hn.2 (fun D' hm=>?_) h⟩⟩
  have hne:D'≠D:=fun e=>hn.1 (by rw [← e];exact hm)
  rw [World.putObj_heap_other hne]
  exact hd D' (by simp [hm])
theorem qL {P:Program} {G:Nat→Option (List AV)} {n k:Nat} {s':AS} {Ec Ec':En} {a':Act} (xk:ExtK k Ec Ec') (sim': @Sim ⟨none,some Ec.w.heap.size⟩ G n s' Ec' a'):
  ∃ E2:En,@Sim SO G n s' E2 { tmps:=a'.tmps,defers:=[] }∧ExtK k Ec E2∧
   ∀ fn R,(∃ v,(results fn a'.tmps).run P E2.w=.ok v E2.w∧R (.returned v) E2.w)→LeavesInM Fence.wide 0 P fn a'.tmps R a'.defers .returning Ec'.w:=by
 obtain ⟨inv',rows',sz',tm',df'⟩:=sim'
 obtain ⟨_,Ds,hds,hn,hD⟩:=df'
 obtain ⟨c1,c2,c3,c4⟩:=y6 Ds Ec'.w
 have hk:∀ b,zJ Ec' b→(gT Ec'.w Ds).heap[b]? =Ec'.w.heap[b]? :=fun b hb=>mP Ds Ec'.w b fun hm=>by
  obtain ⟨_,_,h3,h4⟩:=hD b hm
  rcases hb with h|⟨r,hr,e⟩
  ·exact h3 h
  ·exact h4 r hr e
 have hlow:∀ b,b<Ec.w.heap.size→(gT Ec'.w Ds).heap[b]? =Ec'.w.heap[b]? :=fun b hb=>mP Ds Ec'.w b fun hm=>by
  have:Ec.w.heap.size≤b:=(hD b hm).1
  omega
 refine ⟨⟨gT Ec'.w Ds,Ec'.S,Ec'.ρ,Ec'.rows⟩,⟨inv'.heap hk (by rw [c4];exact Nat.le_refl _),rows',sz',fun t=>(tm' t).heap hk,DefOK.nil⟩,?_,fun fn R h=>?_⟩
 ·refine ⟨c1.trans xk.os,c2.trans xk.tape,c3.trans xk.output,by rw [c4];exact xk.sz,xk.sub,fun b hb hl=>⟨(hlow b hb).trans (xk.out b hb hl).1,(xk.out b hb hl).2⟩,xk.dead,fun r hr ver cs h=>?_,xk.map,xk.fresh⟩
  rcases xk.cells r hr ver cs h with h1|⟨v',c',h1,h2,h3⟩
  ·exact .inl h1
  ·refine .inr ⟨v',c',h1,h2,fun e=>⟨(h3 e).1,fun cur el fz hc=>?_⟩⟩
   obtain ⟨cur',e',h4,h5⟩:=(h3 e).2 cur el fz hc
   exact ⟨cur',e',by rw [hlow _ (Array.getElem?_eq_some_iff.1 hc).1];exact h4,h5⟩
 ·rw [hds]
  exact H4 Ds _ hn (fun D hm=>(hD D hm).2.1) h
theorem kX {P:Program} {f:FuncId} {fn:Func} {c:Code} {args:Array Value} {w:World} {R:Ending→World→Prop} (hf:P.funcs[f]? =some fn) (hb:fn.body=some c)
  (h:c.wpIn Fence.wide 0 P (bodyPostM Fence.wide 0 P fn R) { tmps:=args++Array.replicate (fn.ntmps - args.size) undef,defers:=[] } w):Calls P f args w R:=
 callsIn_wide.1 (callsIn_of_wp_marks (F:=Fence.wide) (n:=0) hf hb trivial h)
end Go.AM
set_option linter.unusedVariables false
set_option linter.unusedSimpArgs false
namespace Go.AM
def cut (E:En) (H:List ARow):En:=⟨E.w,E.S,E.ρ,fun r=>H.getD r .none⟩
structure F8 (G:Nat→Option (List AV)) (H:List ARow) (rows:Nat→ARow) (fp:List Nat):Prop where
 glob:∀ g cs,G g=some cs→inL aC cs=true
 eqs:∀ r∈fp,H.getD r .none=rows r
 dead:∀ r,r ∉ fp→H.getD r .none=if r<H.length then .dead else .none
 ins:∀ r∈fp,aG (fun r=>decide (r<H.length)) (rows r)=true
 new:∀ r∈fp,H.length≤r→rows r=.none
theorem sL {G:Nat→Option (List AV)} {H:List ARow} {rows:Nat→ARow} {fp:List Nat} (ok:F8 G H rows fp) {E:En} (i:Inv G E) (hE:∀ r∈fp,E.rows r=rows r):
  Inv G (cut E H)∧dX (fun r=>decide (r<H.length)) E (cut E H)∧(∀ r∈fp,(cut E H).rows r=E.rows r)∧(∀ r,((cut E H).rows r).live=true→r∈fp∧(E.rows r).live=true):=by
 obtain ⟨hG,hfp,hdead,hrows,hnew⟩:=ok
 show Inv G ⟨E.w,E.S,E.ρ,fun r=>H.getD r .none⟩∧_
 let Ec:En:=⟨E.w,E.S,E.ρ,fun r=>H.getD r .none⟩
 have hrowfp:∀ r∈fp,Ec.rows r=E.rows r:=fun r hr=>by simp only [Ec];rw [hfp r hr,hE r hr]
 have hrowno:∀ r,r ∉ fp→Ec.rows r=if r<H.length then .dead else .none:=fun r hr=>hdead r hr
 have hcl:∀ r,(Ec.rows r).live=true→r∈fp∧(E.rows r).live=true:=fun r hr=>by
  by_cases hm:r∈fp
  ·exact ⟨hm,by rw [← hrowfp r hm];exact hr⟩
  ·rw [hrowno r hm] at hr;split at hr<;>cases hr
 have agc:dX (fun r=>decide (r<H.length)) E Ec:=⟨rfl,fun _ h=>h,fun r hr=>by
   by_cases hm:r∈fp
   ·exact .inl (hrowfp r hm)
   ·exact .inr (.inl (by rw [hrowno r hm,if_pos (by simpa using hr)])),fun r _ _=>rfl⟩
 have agG:dX aC E Ec:=⟨rfl,fun _ h=>h,fun r hr=>(by cases hr),fun r hr=>(by cases hr)⟩
 have ic:Inv G Ec:=by
  refine ⟨fun r=>?_,fun r r' h h' hne=>i.inj r r' (hcl r h).2 (hcl r' h').2 hne,i.sb,fun g cs hg=>?_⟩
  ·by_cases hm:r∈fp
   ·have h0:=i.row r
    unfold RowOK at h0 ⊢
    rw [hrowfp r hm]
    have hin:=hrows r hm
    rw [← hE r hm] at hin
    cases hrr:E.rows r with
    |none=>trivial
    |dead=>trivial
    |cells ver cs=>
     rw [hrr] at h0 hin
     obtain ⟨cur,e,vs,a1,a2,a3,a4⟩:=h0
     exact ⟨cur,e,vs,a1,a2,a3.agree agc hin,a4⟩
    |map ks vs=>
     rw [hrr] at h0 hin
     simp only [aG,Bool.and_eq_true] at hin
     obtain ⟨es,clock,a1,a2,a3,a4,a5⟩:=h0
     exact ⟨es,clock,a1,a2,a3,a4.agree agc hin.1,a5.agree agc hin.2⟩
    |iter ks vs l j=>
     rw [hrr] at h0 hin
     simp only [aG,Bool.and_eq_true] at hin
     obtain ⟨mb,es,clock,since,seen,a1,a2,a3,a4,a5,a6,a7,a8,a9⟩:=h0
     exact ⟨mb,es,clock,since,seen,a1,a2,a3,a4,a5,a6,a7.agree agc hin.1,a8.agree agc hin.2,a9⟩
    |loop st pend fr ps asg body=>
     rw [hrr] at h0 hin
     obtain ⟨fn,tm,D,a1,a2,a3⟩:=h0
     exact ⟨fn,tm,D,a1,a2,a3.agree agc hin⟩
   ·unfold RowOK
    rw [hrowno r hm]
    by_cases hlt:r<H.length
    ·rw [if_pos hlt];trivial
    ·rw [if_neg hlt];trivial
  ·obtain ⟨vs,a1,a2,a3⟩:=i.glob g cs hg
   exact ⟨vs,a1,a2.agree agG (hG g cs hg),a3⟩
 exact ⟨ic,agc,hrowfp,hcl⟩
theorem vK {G:Nat→Option (List AV)} {H:List ARow} {rows:Nat→ARow} {fp:List Nat} (ok:F8 G H rows fp) {E:En} (i:Inv G E) (hE:∀ r∈fp,E.rows r=rows r) {eff:Eff} (hwr:∀ p∈eff.wr,p.1∈fp)
  {Ec':En} (xk:ExtK H.length (cut E H) Ec') (ic':Inv G Ec') (hend0:∀ r∈fp,Ec'.rows r=upd rows eff.wr r∧aG (fun r=>fp.contains r) (Ec'.rows r)=true) (hin:inR (fun r=>fp.contains r) eff.val=true) {u:Value} (ru:Rel Ec' eff.val u):
  ∃ E',Ec'.w=E'.w∧Rel E' eff.val u∧Ext E E'∧Inv G E'∧E'.rows=upd E.rows eff.wr:=by
 obtain ⟨_,agc,hrowfp,hcl⟩:=sL ok i hE
 obtain ⟨hG,hfp,hdead,hrows,hnew⟩:=ok
 refine ⟨⟨Ec'.w,Ec'.S,fun r=>if fp.contains r then Ec'.ρ r else E.ρ r,upd E.rows eff.wr⟩,rfl,?_⟩
 have hw1:∀ r∈fp,upd E.rows eff.wr r=Ec'.rows r:=fun r hr=>by
  rw [dU eff.wr E.rows rows r (hE r hr),← (hend0 r hr).1]
 have hw2:∀ r,r ∉ fp→upd E.rows eff.wr r=E.rows r:=fun r hr=>jM _ _ _ fun p hp e=>hr (e ▸ hwr p hp)
 have hmem:∀ r,fp.contains r=true↔r∈fp:=fun r=>by simp
 have hblk:∀ r,r ∉ fp→(E.rows r).live=true→Ec'.w.heap[E.ρ r]? =E.w.heap[E.ρ r]?∧(Ec'.S (E.ρ r)→E.S (E.ρ r)):=fun r hr hl=>by
  refine xk.out (E.ρ r) (i.live hl).1 fun q hq e=>?_
  obtain ⟨hq1,hq2⟩:=hcl q hq
  exact i.inj q r hq2 hl (fun e=>hr (e ▸ hq1)) e
 have x:Ext E ⟨Ec'.w,Ec'.S,fun r=>if fp.contains r then Ec'.ρ r else E.ρ r,upd E.rows eff.wr⟩:=by
  refine ⟨xk.os,xk.tape,xk.output,xk.sz,xk.sub,fun b hlt hl=>xk.out b hlt fun r hr=>hl r (hcl r hr).2,fun r hr=>?_,fun r ver cs hr=>?_,fun r hr=>?_,fun r hr=>?_⟩
  ·by_cases hm:r∈fp
   ·simp only [hw1 r hm]
    have hlt:r<H.length:=Nat.lt_of_not_le fun h=>by have:=hnew r hm h;rw [← hE r hm,hr] at this;cases this
    exact xk.dead r hlt (by rw [hrowfp r hm];exact hr)
   ·simp only [hw2 r hm];exact hr
  ·by_cases hm:r∈fp
   ·simp only [hw1 r hm,(hmem r).2 hm,if_true]
    have hlt:r<H.length:=Nat.lt_of_not_le fun h=>by have:=hnew r hm h;rw [← hE r hm,hr] at this;cases this
    exact xk.cells r hlt ver cs (by rw [hrowfp r hm];exact hr)
   ·have hc:fp.contains r=false:=by simpa using hm
    simp only [hw2 r hm,hc,Bool.false_eq_true,if_false]
    refine .inr ⟨ver,cs,hr,Nat.le_refl _,fun _=>⟨trivial,fun cur e fz hcur=>⟨cur,e,?_,rfl⟩⟩⟩
    rw [(hblk r hm (by rw [hr];rfl)).1]
    exact hcur
  ·by_cases hm:r∈fp
   ·simp only [hw1 r hm,(hmem r).2 hm,if_true]
    have hlt:r<H.length:=Nat.lt_of_not_le fun h=>by have:=hnew r hm h;rw [← hE r hm] at this;rw [this] at hr;cases hr
    exact xk.map r hlt (by rw [hrowfp r hm];exact hr)
   ·have hc:fp.contains r=false:=by simpa using hm
    simp only [hw2 r hm,hc,Bool.false_eq_true,if_false]
    exact .inr ⟨hr,trivial⟩
  ·by_cases hm:r∈fp
   ·simp only [hw1 r hm] at hr
    simp only [(hmem r).2 hm,if_true]
    rcases xk.fresh r hr with ⟨h1,h2⟩|h1
    ·exact .inl ⟨(hcl r h1).2,h2⟩
    ·exact .inr h1
   ·have hc:fp.contains r=false:=by simpa using hm
    simp only [hw2 r hm] at hr
    simp only [hc,Bool.false_eq_true,if_false]
    exact .inl ⟨hr,trivial⟩
 have agf:dX (fun r=>fp.contains r) Ec' ⟨Ec'.w,Ec'.S,fun r=>if fp.contains r then Ec'.ρ r else E.ρ r,upd E.rows eff.wr⟩:=
  ⟨rfl,fun _ h=>h,fun r hr=>.inl (hw1 r ((hmem r).1 hr)),fun r hr _=>by simp only [hr,if_true]⟩
 refine ⟨ru.agree agf hin,x,⟨fun r=>?_,fun r r' h h' hne=>?_,ic'.sb,fun g cs hg=>?_⟩,rfl⟩
 ·by_cases hm:r∈fp
  ·have h0:=ic'.row r
   unfold RowOK at h0 ⊢
   have hri:=(hend0 r hm).2
   simp only [hw1 r hm,(hmem r).2 hm,if_true]
   cases hrr:Ec'.rows r with
   |none=>trivial
   |dead=>trivial
   |cells ver cs=>
    rw [hrr] at h0 hri
    obtain ⟨cur,e,vs,a1,a2,a3,a4⟩:=h0
    exact ⟨cur,e,vs,a1,a2,a3.agree agf hri,a4⟩
   |map ks vs=>
    rw [hrr] at h0 hri
    simp only [aG,Bool.and_eq_true] at hri
    obtain ⟨es,clock,a1,a2,a3,a4,a5⟩:=h0
    exact ⟨es,clock,a1,a2,a3,a4.agree agf hri.1,a5.agree agf hri.2⟩
   |iter ks vs l j=>
    rw [hrr] at h0 hri
    simp only [aG,Bool.and_eq_true] at hri
    obtain ⟨mb,es,clock,since,seen,a1,a2,a3,a4,a5,a6,a7,a8,a9⟩:=h0
    exact ⟨mb,es,clock,since,seen,a1,a2,a3,a4,a5,a6,a7.agree agf hri.1,a8.agree agf hri.2,a9⟩
   |loop st pend fr ps asg body=>
    rw [hrr] at h0 hri
    obtain ⟨fn,tm,D,a1,a2,a3⟩:=h0
    exact ⟨fn,tm,D,a1,a2,a3.agree agf hri⟩
  ·have hc:fp.contains r=false:=by simpa using hm
   cases hl:(E.rows r).live with
   |false=>
    unfold RowOK
    simp only [hw2 r hm]
    cases hq:E.rows r with
    |cells=>rw [hq] at hl;cases hl
    |map=>rw [hq] at hl;cases hl
    |iter=>rw [hq] at hl;cases hl
    |loop=>rw [hq] at hl;cases hl
    |none=>trivial
    |dead=>trivial
   |true=>
    have hbk:=hblk r hm hl
    exact RowOK.ext i x (by simp only [hc,Bool.false_eq_true,if_false]) (hw2 r hm) (fun _=>hbk.1) hbk.2 (i.row r)
 ·by_cases hm:r∈fp
  ·have hc:=(hmem r).2 hm
   simp only [hw1 r hm] at h
   by_cases hm':r'∈fp
   ·have hc':=(hmem r').2 hm'
    simp only [hw1 r' hm'] at h'
    simp only [hc,hc',if_true]
    exact ic'.inj r r' h h' hne
   ·have hc':fp.contains r'=false:=by simpa using hm'
    simp only [hw2 r' hm'] at h'
    simp only [hc,hc',if_true,Bool.false_eq_true,if_false]
    rcases xk.fresh r h with ⟨h1,h2⟩|h1
    ·rw [h2];exact i.inj r r' (hcl r h1).2 h' hne
    ·have:=(i.live h').1
     have h1':E.w.heap.size≤Ec'.ρ r:=h1
     omega
  ·have hc:fp.contains r=false:=by simpa using hm
   simp only [hw2 r hm] at h
   by_cases hm':r'∈fp
   ·have hc':=(hmem r').2 hm'
    simp only [hw1 r' hm'] at h'
    simp only [hc,hc',if_true,Bool.false_eq_true,if_false]
    rcases xk.fresh r' h' with ⟨h1,h2⟩|h1
    ·rw [h2];exact i.inj r r' h (hcl r' h1).2 hne
    ·have:=(i.live h).1
     have h1':E.w.heap.size≤Ec'.ρ r':=h1
     omega
   ·have hc':fp.contains r'=false:=by simpa using hm'
    simp only [hw2 r' hm'] at h'
    simp only [hc,hc',Bool.false_eq_true,if_false]
    exact i.inj r r' h h' hne
 ·obtain ⟨vs,a1,a2,a3⟩:=ic'.glob g cs hg
  exact ⟨vs,a1,a2.agree agf (cC (fun r hr=>by cases hr) (hG g cs hg)),a3⟩
end Go.AM
set_option linter.unusedVariables false
set_option linter.unusedSimpArgs false
namespace Go.AM
def tN:List AV→List (Tmp × AV)→List AV
 |fr,[]=>fr
 |fr,z::zs=>tN (kP fr z.1 z.2) zs
theorem CR {E:En} {n:Nat}:∀ (zs:List (Tmp × AV)) (vs:List Value) (fr:List AV) (tm:Array Value),tm.size=n→(∀ t,Rel E (fr.getD t .undef) (tm.getD t undef))→(∀ z∈zs,z.1<n)→RelL E (zs.map (·.2)) vs→
  (((zs.map (·.1)).zip vs).foldl (fun (t:Array Value) (p:Tmp × Value)=>t.setIfInBounds p.1 p.2) tm).size=n∧
  ∀ t,Rel E ((tN fr zs).getD t .undef) ((((zs.map (·.1)).zip vs).foldl (fun (t:Array Value) (p:Tmp × Value)=>t.setIfInBounds p.1 p.2) tm).getD t undef)
 | [],vs,fr,tm,hs,hr,_,_=>by
  simp only [tN,List.map_nil,List.zip_nil_left,List.foldl_nil]
  exact ⟨hs,hr⟩
 |z::zs,vs,fr,tm,hs,hr,hz,hv=>by
  simp only [List.map_cons,RelL] at hv
  obtain ⟨v,rest,rfl,h1,h2⟩:=hv
  simp only [List.map_cons,List.zip_cons_cons,List.foldl_cons,tN]
  refine CR zs rest _ _ (by simpa using hs) (fun t=>?_) (fun z' hz'=>hz z' (by simp [hz'])) h2
  rw [jU]
  have hlt:z.1<tm.size:=by rw [hs];exact hz z (by simp)
  by_cases e:t=z.1
  ·subst e
   simp only [if_true]
   simpa [Array.getD,hlt] using h1
  ·simp only [if_neg e]
   have:(tm.setIfInBounds z.1 v).getD t undef=tm.getD t undef:=by
    simp only [Array.getD_eq_getD_getElem?,Array.getElem?_setIfInBounds]
    simp [Ne.symm e]
   rw [this]
   exact hr t
theorem I3 {E:En} {fr:List AV} {tm:Array Value} (h:RelL E fr tm.toList) (t:Nat):Rel E (fr.getD t .undef) (tm.getD t undef):=by
 rw [List.getD_eq_getElem?_getD]
 cases hx:fr[t]? with
 |none=>simp [Rel]
 |some x=>
  obtain ⟨v,h1,h2⟩:=h.get hx
  have:tm.getD t undef=v:=by
   rw [Array.getD_eq_getD_getElem?,← Array.getElem?_toList,h1]
   rfl
  rw [this]
  exact h2
theorem xB {G:Nat→Option (List AV)} {E:En} (i:Inv G E) {r:Nat} {st:LoopState} {pend:Option Code} {fr:List AV} {ps:Array Tmp} {asg body:Code} (hr:E.rows r=.loop st pend fr ps asg body)
  (st':LoopState) (pend':Option Code):∃ rec:Loop,E.w.heap[E.ρ r]? =some (.loop rec)∧rec.state=st∧rec.pending=pend∧
   Ext E ⟨E.w.putObj (E.ρ r) (.loop { rec with state:=st',pending:=pend' }),E.S,E.ρ,upd E.rows [(r,.loop st' pend' fr ps asg body)]⟩∧
   Inv G ⟨E.w.putObj (E.ρ r) (.loop { rec with state:=st',pending:=pend' }),E.S,E.ρ,upd E.rows [(r,.loop st' pend' fr ps asg body)]⟩:=by
 have h0:=i.row r
 unfold RowOK at h0
 rw [hr] at h0
 obtain ⟨fn,tm,D,h1,h2,h3⟩:=h0
 refine ⟨_,h1,rfl,rfl,?_⟩
 have hlt:=(Array.getElem?_eq_some_iff.1 h1).1
 refine fF i _ E.ρ (upd E.rows [(r,.loop st' pend' fr ps asg body)]) r rfl rfl rfl (by rw [World.putObj_size];exact Nat.le_refl _) (fun q hq=>⟨by simp [upd,hq],rfl⟩) (fun b hb hne=>World.putObj_heap_other (hne (by rw [hr];rfl)))
  (fun h=>by rw [hr] at h;cases h) (fun ver cs h=>by rw [hr] at h;cases h) (fun _=>.inr ⟨by simp [upd,ARow.obj],rfl⟩) (fun _=>.inl ⟨by rw [hr];rfl,rfl⟩) (fun x=>?_)
 unfold RowOK
 simp only [upd,if_true]
 exact ⟨fn,tm,D,World.putObj_heap_same hlt,h2,h3.ext i x⟩
theorem zP {G:Nat→Option (List AV)} {E:En} (i:Inv G E) {r:Nat} {st:LoopState} {pend:Option Code} {fr:List AV} {ps:Array Tmp} {asg body:Code} (hr:E.rows r=.loop st pend fr ps asg body) (o:Obj):
  Ext E ⟨E.w.putObj (E.ρ r) o,E.S,E.ρ,upd E.rows [(r,.dead)]⟩∧Inv G ⟨E.w.putObj (E.ρ r) o,E.S,E.ρ,upd E.rows [(r,.dead)]⟩:=by
 refine fF i _ E.ρ (upd E.rows [(r,.dead)]) r rfl rfl rfl (by rw [World.putObj_size];exact Nat.le_refl _) (fun q hq=>⟨by simp [upd,hq],rfl⟩) (fun b hb hne=>World.putObj_heap_other (hne (by rw [hr];rfl)))
  (fun h=>by rw [hr] at h;cases h) (fun ver cs h=>by rw [hr] at h;cases h) (fun _=>.inl (by simp [upd])) (fun h=>by simp [upd,ARow.live] at h) (fun x=>?_)
 unfold RowOK
 simp only [upd,if_true]
def AR:Exit→Option (Option Code)
 | .normal=>some none
 | .ret=>some (some .ret)
 | .exit id=>some (some (.exit id))
 | .goto t=>some (some (.goto t))
 |_=>none
theorem zX {P:Program} {l:Nat} {R:Ending→World→Prop} {e:Exit} {a:Act} {w:World} {jump:Option Code} (h:AR e=some jump) (hr:∃ v w',(Instr.endRound l jump).run P w=.ok v w'∧R (.returned v) w'):roundPost P l R e a w:=by
 cases e<;>simp only [AR,Option.some.injEq,reduceCtorEq] at h<;>subst h<;>exact hr
theorem wG {P:Program} {G:Nat→Option (List AV)} {r n:Nat} {fr:List AV} {ps:Array Tmp} {asg body:Code} {args:List AV} {H:List ARow} {rows:Nat→ARow} {fp:List Nat} {eff:Eff} (ok:F8 G H rows fp)
  (hr:rows r=.loop .ready none fr ps asg body) (hrf:r∈fp) (hrH:r<H.length) (hn:fr.length=n) (hps:ps.size=args.length) (hpn:∀ t∈ps.toList,t<n) (hargs:inL (fun r=>decide (r<H.length)) args=true) (hwr:∀ p∈eff.wr,p.1∈fp)
  (hbody:∀ l:Nat,@AWp ⟨some l,none⟩ P G n H.length asg (fun e s1=>e=.normal∧∃ fr1 ps1 a1 b1,s1.row r=.loop .ready none fr1 ps1 a1 b1∧
   @AWp ⟨some l,none⟩ P G n H.length body (fun e s2=>∃ jump fr2 ps2 a2 b2,AR e=some jump∧s2.row r=.loop .busy none fr2 ps2 a2 b2∧eff.val=.bool jump.isNone∧
    ∀ q∈fp,upd s2.row [(r,.loop (if jump.isNone then .ready else .done) jump fr2 ps2 a2 b2)] q=upd rows eff.wr q∧aG (fun r=>fp.contains r) (upd s2.row [(r,.loop (if jump.isNone then .ready else .done) jump fr2 ps2 a2 b2)] q)=true)
    (s1.wr [(r,.loop .busy none fr1 ps1 a1 b1)])) ⟨tN fr (ps.toList.zip args),H⟩):GC P G r args rows fp eff:=by
 refine ⟨hrf,by rw [hr];rfl,hwr,fun E us i hE hus=>?_⟩
 obtain ⟨ic,ag,hrow,hcl⟩:=sL ok i hE
 have hlen:=hus.length
 have hrr:(cut E H).rows r=.loop .ready none fr ps asg body:=by rw [hrow r hrf,hE r hrf,hr]
 have h0:=ic.row r
 unfold RowOK at h0
 rw [hrr] at h0
 obtain ⟨fn,tm,D,h1,h2,h3⟩:=h0
 have h1':E.w.heap[E.ρ r]? =some (.loop { state:=.ready,pending:=none,fn,tmps:=tm,params:=ps,assign:=asg,body,defers:=D }):=h1
 have hy:=run_yield (P:=P) (args:=us.toArray) h1' (by simp;omega)
 refine ⟨fn,_,asg,body,hy,?_⟩
 have hzl:(ps.toList.zip args).map (·.1)=ps.toList:=List.map_fst_zip (by simp;omega)
 have hzr:(ps.toList.zip args).map (·.2)=args:=List.map_snd_zip (by simp;omega)
 have htm:tm.size=n:=by have:=h3.length;simp at this;omega
 obtain ⟨q1,q2⟩:=CR (E:=cut E H) (n:=n) (ps.toList.zip args) us fr tm htm (I3 h3) (fun z hz=>hpn z.1 (List.of_mem_zip hz).1) (by rw [hzr];exact hus.agree ag hargs)
 rw [hzl] at q1 q2
 have hfold:((ps.zip us.toArray).foldl (fun (tmps:Array Value) (x:Tmp × Value)=>match x with|(t,a)=>tmps.setIfInBounds t a) tm)=(ps.toList.zip us).foldl (fun (t:Array Value) (p:Tmp × Value)=>t.setIfInBounds p.1 p.2) tm:=by
  rw [← Array.foldl_toList,Array.toList_zip]
 have sim: @Sim ⟨some (E.ρ r),none⟩ G n ⟨tN fr (ps.toList.zip args),H⟩ (cut E H) { tmps:=(ps.zip us.toArray).foldl (fun (tmps:Array Value) (x:Tmp × Value)=>match x with|(t,a)=>tmps.setIfInBounds t a) tm,defers:=[] }:=
  @Sim.mk ⟨some (E.ρ r),none⟩ _ _ _ _ _ ic rfl (by rw [hfold];exact q1) (fun t=>by rw [hfold];exact q2 t) DefOK.nil
 refine roundIn_of_wpIn (F:=Fence.wide) trivial (wpIn_mono (hbody (E.ρ r) (cut E H) _ sim) ?_)
 rintro e a1 w1 ⟨s1,E1,rfl,x1,⟨i1,rows1,sz1,tm1,df1⟩,rfl,fr1,ps1,as1,b1,hs1,hb⟩
 have hρ1:E1.ρ r=E.ρ r:=by
  rcases x1.map r hrH (by rw [hrr];rfl) with h|⟨_,h⟩
  ·rw [rows1,hs1] at h;cases h
  ·exact h
 obtain ⟨rec,k1,k2,k3,x2,i2⟩:=xB i1 (by rw [rows1];exact hs1) .busy none
 rw [hρ1] at k1 x2 i2
 have hbeg:=run_beginRound (P:=P) k1 k2
 have e1:({ rec with state:=.busy,pending:=none }:Loop)={ rec with state:=.busy }:=by rw [← k3]
 rw [e1] at x2 i2
 refine ⟨_,hbeg,?_⟩
 have sim2: @Sim ⟨some (E.ρ r),none⟩ G n (s1.wr [(r,.loop .busy none fr1 ps1 as1 b1)]) ⟨E1.w.putObj (E.ρ r) (.loop { rec with state:=.busy }),E1.S,E1.ρ,upd E1.rows [(r,.loop .busy none fr1 ps1 as1 b1)]⟩ a1:=
  @Sim.mk ⟨some (E.ρ r),none⟩ _ _ _ _ _ i2 (by rw [AS.row_wr,rows1]) sz1 (fun t=>by rw [AS.get_wr];exact (tm1 t).ext i1 x2) df1
 refine wpIn_mono (hb _ a1 sim2) ?_
 rintro e a3 w3 ⟨s2,E3,rfl,x3,⟨i3,rows3,sz3,tm3,df3⟩,jump,fr2,ps2,as2,b2,hj,hs2,hval,hend⟩
 refine zX hj ?_
 have hρ3:E3.ρ r=E.ρ r:=by
  rcases x3.map r hrH (by simp [upd,ARow.obj]) with h|⟨_,h⟩
  ·rw [rows3,hs2] at h;cases h
  ·exact h.trans hρ1
 obtain ⟨rec3,m1,m2,m3,x4,i4⟩:=xB i3 (by rw [rows3];exact hs2) (if jump.isNone then .ready else .done) jump
 rw [hρ3] at m1 x4 i4
 have hendr:=run_endRound (P:=P) jump m1
 refine ⟨_,_,hendr,?_⟩
 have xx:=((x1.trans (x2.toK H.length)).trans x3).trans (x4.toK H.length)
 obtain ⟨E',c1,c2,c3,c4,c5⟩:=vK ok i hE hwr xx i4 (fun q hq=>by simp only [rows3];exact hend q hq) (by rw [hval];simp [inR]) (u:=.bool jump.isNone) (by rw [hval];simp [Rel])
 exact ⟨_,E',rfl,c1,c2,c3,c4,c5⟩
theorem jI [rd:Rnd] {P:Program} {G:Nat→Option (List AV)} {n k:Nat} {Q:Exit→AS→Prop} {s:AS} {g:Operand} {ps:Array Tmp} {asg body:Code} {gf:FuncId} {first cap:List AV} {fp:List Nat} {eff:Eff} {b:Nat}
  (hround:rd.round=none) (hbase:rd.base=some b) (hg:evA G s.get g=.fn (.func gf) first cap)
  (hc:dH P G gf (first++[.yld s.h.length]++cap) (upd s.row [(s.h.length,.loop .ready none ((List.range n).map s.get) ps asg body)]) fp eff)
  (hk:(∃ fr1 ps1 a1 b1,upd (upd s.row [(s.h.length,.loop .ready none ((List.range n).map s.get) ps asg body)]) eff.wr s.h.length=.loop .ready none fr1 ps1 a1 b1∧
    Q .normal (((s.wr [(s.h.length,.loop .ready none ((List.range n).map s.get) ps asg body)]).wr eff.wr).wr [(s.h.length,.dead)]))∨
   ∃ c fr1 ps1 a1 b1,upd (upd s.row [(s.h.length,.loop .ready none ((List.range n).map s.get) ps asg body)]) eff.wr s.h.length=.loop .done (some c) fr1 ps1 a1 b1∧
    AWp P G n k c Q (((s.wr [(s.h.length,.loop .ready none ((List.range n).map s.get) ps asg body)]).wr eff.wr).wr [(s.h.length,.dead)])):
  AWp P G n k (.rangeFunc g ps asg body) Q s:=fun E a i=>by
 refine wpIn_rangeFunc fun fn _=>?_
 have hro:(wL:Fence).round=none:=hround
 rw [hro]
 have hv:=i.eval g
 rw [hg] at hv
 simp only [Rel] at hv
 obtain ⟨p,q,hv,hp,hq⟩:=hv
 have hnone:E.rows s.h.length=.none:=by
  rw [i.rows]
  show s.h.getD s.h.length .none=.none
  rw [List.getD_eq_getElem?_getD,List.getElem?_eq_none (Nat.le_refl _)];rfl
 obtain ⟨w1,hw1⟩:∃ w1,(E.w.alloc (.deferred (some []))).alloc (.loop { state:=.ready,pending:=none,fn,tmps:=a.tmps,params:=ps,assign:=asg,body,defers:=E.w.heap.size })=w1:=⟨_,rfl⟩
 have hl1:w1.heap[E.w.heap.size+1]? =some (.loop { state:=.ready,pending:=none,fn,tmps:=a.tmps,params:=ps,assign:=asg,body,defers:=E.w.heap.size }):=by
  rw [← hw1];have:=World.alloc_heap_new (E.w.alloc (.deferred (some []))) (.loop { state:=.ready,pending:=none,fn,tmps:=a.tmps,params:=ps,assign:=asg,body,defers:=E.w.heap.size });rwa [World.size_alloc] at this
 have hd1:w1.heap[E.w.heap.size]? =some (.deferred (some [])):=by
  rw [← hw1];exact (Go.RowKit.Below.heap_alloc _ _ _ (by simp)).trans (World.alloc_heap_new E.w _)
 have hlow:∀ j,j<E.w.heap.size→w1.heap[j]? =E.w.heap[j]? :=fun j hj=>by
  rw [← hw1];exact (Go.RowKit.Below.heap_alloc _ _ _ (by simp;omega)).trans (Go.RowKit.Below.heap_alloc _ _ _ hj)
 have hsz1:w1.heap.size=E.w.heap.size+2:=by rw [← hw1];simp
 have hos:w1.os=E.w.os∧w1.tape=E.w.tape∧w1.output=E.w.output:=by rw [← hw1];exact ⟨rfl,rfl,rfl⟩
 obtain ⟨x1,i1⟩:=fF i.inv w1 (fun q=>if q=s.h.length then E.w.heap.size+1 else E.ρ q) (upd E.rows [(s.h.length,.loop .ready none ((List.range n).map s.get) ps asg body)]) s.h.length hos.1 hos.2.1 hos.2.2 (by omega)
  (fun q hq=>⟨by simp [upd,hq],by simp [hq]⟩) (fun j hj _=>hlow j hj) (fun h=>by rw [hnone] at h;cases h) (fun ver cs h=>by rw [hnone] at h;cases h) (fun h=>by rw [hnone] at h;cases h) (fun _=>.inr (by simp)) (fun x=>by
   unfold RowOK
   simp only [upd,if_true]
   refine ⟨fn,a.tmps,E.w.heap.size,hl1,fun hS=>by have:=i.inv.sb _ hS;omega,?_⟩
   have base:RelL E ((List.range n).map s.get) a.tmps.toList:=by
    refine RelL.mk (by simp [i.sz]) fun j c v hc hv=>?_
    rw [List.getElem?_map] at hc
    obtain ⟨j',hj,rfl⟩:=Option.map_eq_some_iff.1 hc
    have hjj:j'=j:=by
     have:=(List.getElem?_eq_some_iff.1 hj).2
     simpa using this.symm
    subst hjj
    have:=i.tm j'
    rwa [Array.getD_eq_getD_getElem?,← Array.getElem?_toList,hv] at this
   exact base.ext i.inv x)
 obtain ⟨E1,hE1⟩:∃ E1:En,(⟨w1,E.S,fun q=>if q=s.h.length then E.w.heap.size+1 else E.ρ q,upd E.rows [(s.h.length,.loop .ready none ((List.range n).map s.get) ps asg body)]⟩:En)=E1:=⟨_,rfl⟩
 rw [hE1] at x1 i1
 have e1w:E1.w=w1:=by rw [← hE1]
 have e1r:E1.rows=upd s.row [(s.h.length,.loop .ready none ((List.range n).map s.get) ps asg body)]:=by rw [← hE1,i.rows]
 have e1ρ:E1.ρ s.h.length=E.w.heap.size+1:=by rw [← hE1];simp
 have hyl:Rel E1 (.yld s.h.length) (.func (.yield (E.w.heap.size+1)) #[] #[]):=by
  simp only [Rel,e1r,upd,if_true,e1ρ]
  exact ⟨rfl,rfl,trivial⟩
 have hargs:RelL E1 (first++[.yld s.h.length]++cap) (p++[.func (.yield (E.w.heap.size+1)) #[] #[]]++q):=
  ((hp.ext i.inv x1).append (by simp only [RelL];exact ⟨_,_,rfl,hyl,rfl⟩)).append (hq.ext i.inv x1)
 obtain ⟨hgo,hwr,hcall⟩:=hc
 have hcalls:=hcall E1 _ i1 (fun r _=>by rw [e1r]) hargs
 have hcallF:∃ fu,P.funcs[gf]? =some fu∧fu.body.isSome=true∧(fu.name != "runtime.NumGoroutine")=true:=by
  unfold eP at hgo
  cases hfu:P.funcs[gf]? with
  |none=>rw [hfu] at hgo;cases hgo
  |some fu=>rw [hfu] at hgo;simp only [Bool.and_eq_true] at hgo;exact ⟨fu,rfl,hgo.1,hgo.2⟩
 obtain ⟨fu,hfu,hfb,hfn⟩:=hcallF
 have hb':¬ fu.body=none:=by intro e;rw [e] at hfb;cases hfb
 have hn':¬ fu.name= "runtime.NumGoroutine":=by simpa using hfn
 refine ⟨E.w.heap.size+1,[{ target:=.collected E.w.heap.size,args:= #[] }],w1,{ target:=Target.fn (Fn.func gf) q.toArray,args:=p.toArray++ #[Value.func (.yield (E.w.heap.size+1)) #[] #[]] },w1,gf,(p++[Value.func (.yield (E.w.heap.size+1)) #[] #[]]++q).toArray,w1,?_,?_,fun _ _=>trivial,?_,(fun h=>by cases h),?_⟩
 ·rw [← hw1];exact run_enterLoop_outer _ _ _ _ _
 ·have hcv:a.eval (.const (Value.func (.yield (E.w.heap.size+1)) #[] #[]))=Value.func (.yield (E.w.heap.size+1)) #[] #[]:=rfl
  simp [resolve,rangeCall,hv,hcv,Deferred.ofValue]
 ·simp [invoke,callFunc,hfu,hb',hn']
 ·refine (callsIn_wide (n:=0 - 1)).2 ?_
  rw [e1w] at hcalls
  refine hcalls.mono fun e w2 hr=>?_
  obtain ⟨v,E2,rfl,rfl,hrv,x2,i2,hr2⟩:=hr
  have hρ2:(E2.rows s.h.length).obj=true→E2.ρ s.h.length=E.w.heap.size+1:=fun ho=>by
   rcases x2.map s.h.length (by rw [e1r];simp [upd,ARow.obj]) with h|⟨_,h⟩
   ·rw [h] at ho;cases ho
   ·exact h.trans e1ρ
  rw [e1r] at hr2
  have hdf1 : DefOK E1 ({ target := .collected E.w.heap.size, args := #[] } :: a.defers) := by
   have h0:=i.df
   revert h0
   unfold DefOK
   rw [hbase]
   rintro ⟨hb,Ds,hds,hn,hD⟩
   refine ⟨by rw [e1w,hsz1];omega,E.w.heap.size::Ds,by rw [hds];rfl,List.nodup_cons.2 ⟨fun hm=>?_,hn⟩,fun D hm=>?_⟩
   ·have:=(Array.getElem?_eq_some_iff.1 (hD _ hm).2.1).1
    omega
   ·rcases List.mem_cons.1 hm with rfl|hm
    ·refine ⟨hb,by rw [e1w];exact hd1,fun hS=>?_,fun q hq e=>?_⟩
     ·rw [← hE1] at hS
      have:=i.inv.sb _ hS
      omega
     ·rw [← hE1] at hq e
      by_cases hqr:q=s.h.length
      ·subst hqr;simp at e
      ·simp only [upd,if_neg hqr] at hq e
       have:=(i.inv.live hq).1
       omega
    ·have h1:=hD D hm
     have hlt:=(Array.getElem?_eq_some_iff.1 h1.2.1).1
     refine ⟨h1.1,by rw [e1w,hlow D hlt];exact h1.2.1,fun hS=>?_,fun q hq e=>?_⟩
     ·rw [← hE1] at hS;exact h1.2.2.1 hS
     ·rw [← hE1] at hq e
      by_cases hqr:q=s.h.length
      ·subst hqr;simp at e;omega
      ·simp only [upd,if_neg hqr] at hq e
       exact h1.2.2.2 q hq e
  have fin:∀ (st:LoopState) (pend:Option Code) fr1 ps1 a1 b1,st≠.busy→E2.rows s.h.length=.loop st pend fr1 ps1 a1 b1→∃ E3:En,(Instr.endLoop (E.w.heap.size+1)).run P E2.w=.ok pend E3.w∧Ext E E3∧
    Sim G n (((s.wr [(s.h.length,.loop .ready none ((List.range n).map s.get) ps asg body)]).wr eff.wr).wr [(s.h.length,.dead)]) E3 { a with defers:=[{ target:=.collected E.w.heap.size,args:= #[] }]++a.defers }:=by
   intro st pend fr1 ps1 a1 b1 hst hrow
   have hl:=hρ2 (by rw [hrow];rfl)
   have h0:=i2.row s.h.length
   unfold RowOK at h0
   rw [hrow] at h0
   obtain ⟨fn2,tm2,D2,k1,_,_⟩:=h0
   have hend:=run_endLoop (P:=P) k1 hst
   rw [hl] at hend
   obtain ⟨x3,i3⟩:=zP i2 hrow (.loop { { state:=st,pending:=pend,fn:=fn2,tmps:=tm2,params:=ps1,assign:=a1,body:=b1,defers:=D2:Loop } with state:=.exhausted })
   refine ⟨_,?_,(x1.trans x2).trans x3,⟨i3,?_,i.sz,fun t=>?_,(hdf1.ext x2).ext x3⟩⟩
   ·rw [hend];simp only [hl]
   ·simp only [hr2,AS.row_wr]
   ·rw [AS.get_wr,AS.get_wr,AS.get_wr]
    exact (i.tm t).ext i.inv ((x1.trans x2).trans x3)
  rcases hk with ⟨fr1,ps1,a1,b1,h1,h2⟩|⟨c,fr1,ps1,a1,b1,h1,h2⟩
  ·obtain ⟨E3,h3,h4,h5⟩:=fin .ready none fr1 ps1 a1 b1 (by simp) (by rw [hr2];exact h1)
   exact ⟨none,_,h3,_,E3,rfl,h4.toK k,h5,h2⟩
  ·obtain ⟨E3,h3,h4,h5⟩:=fin .done (some c) fr1 ps1 a1 b1 (by simp) (by rw [hr2];exact h1)
   refine ⟨some c,_,h3,wpIn_mono (h2 E3 _ h5) ?_⟩
   rintro e' a'' w'' ⟨s'',E'',rfl,k2,k3,k4⟩
   exact ⟨s'',E'',rfl,(h4.toK k).trans k2,k3,k4⟩
theorem vR {P:Program} {G:Nat→Option (List AV)} {f:FuncId} {fn:Func} {c:Code} {args:List AV} {H:List ARow} {rows:Nat→ARow} {fp:List Nat} {eff:Eff} (ok:F8 G H rows fp)
  (hf:P.funcs[f]? =some fn) (hb:fn.body=some c) (hgo:eP P f=true) (hn:args.length≤fn.ntmps) (hargs:inL (fun r=>decide (r<H.length)) args=true) (hwr:∀ p∈eff.wr,p.1∈fp)
  (hbody:∀ b:Nat,@AWp ⟨none,some b⟩ P G fn.ntmps H.length c (dR P fn fun v s=>v=eff.val∧inR (fun r=>fp.contains r) v=true∧∀ r∈fp,s.row r=upd rows eff.wr r∧aG (fun r=>fp.contains r) (s.row r)=true) ⟨mkF (aH 0 args),H⟩):
  dH P G f args rows fp eff:=by
 refine ⟨hgo,hwr,fun E us i hE hus=>?_⟩
 obtain ⟨ic,ag,hrow,hcl⟩:=sL ok i hE
 have hlen:=hus.length
 have sim: @Sim ⟨none,some (cut E H).w.heap.size⟩ G fn.ntmps ⟨mkF (aH 0 args),H⟩ (cut E H) { tmps:=us.toArray++Array.replicate (fn.ntmps - us.toArray.size) undef,defers:=[] }:=by
  refine @Sim.mk ⟨none,some (cut E H).w.heap.size⟩ _ _ _ _ _ ic rfl (by simp;omega) (fun t=>?_) DefOK.nilB
  show Rel (cut E H) ((mkF (aH 0 args)).getD t .undef) _
  rw [gA]
  simp only [Nat.zero_le,if_true,Nat.sub_zero]
  rw [List.getD_eq_getElem?_getD]
  cases hx:args[t]? with
  |none=>simp [Rel]
  |some x=>
   obtain ⟨v,h1,h2⟩:=hus.get hx
   have hlt:=(List.getElem?_eq_some_iff.1 h1).1
   have:(us.toArray++Array.replicate (fn.ntmps - us.toArray.size) undef).getD t undef=v:=by
    rw [Array.getD_eq_getD_getElem?,Array.getElem?_append,if_pos (by simpa using hlt)]
    simp only [List.getElem?_toArray,h1,Option.getD_some]
   rw [this]
   have hin:inR (fun r=>decide (r<H.length)) x=true:=by
    have:=jA hargs t
    rw [List.getD_eq_getElem?_getD,hx] at this
    simpa using this
   exact h2.agree ag hin
 refine kX hf hb (wpIn_mono (hbody _ (cut E H) _ sim) ?_)
 rintro e a' w' ⟨s',Ec',rfl,xk,sim',q⟩
 obtain ⟨E2,sim2,xk2,hleave⟩:=qL (P:=P) xk sim'
 have fin:∀ v,cR P fn s'=some v→(v=eff.val∧inR (fun r=>fp.contains r) v=true∧∀ r∈fp,s'.row r=upd rows eff.wr r∧aG (fun r=>fp.contains r) (s'.row r)=true)→
   ∃ u,(results fn a'.tmps).run P E2.w=.ok u E2.w∧∃ v E',Ending.returned u=.returned v∧E2.w=E'.w∧Rel E' eff.val v∧Ext E E'∧Inv G E'∧E'.rows=upd E.rows eff.wr:=by
  rintro v hv ⟨rfl,hin,hend⟩
  obtain ⟨u,hu,ru⟩:=iG (P:=P) sim2 hv
  obtain ⟨E',c1,c2,c3,c4,c5⟩:=vK ok i hE hwr xk2 sim2.inv (fun r hr=>by rw [sim2.rows];exact hend r hr) hin ru
  exact ⟨u,hu,u,E',rfl,c1,c2,c3,c4,c5⟩
 cases e with
 |normal=>
  obtain ⟨v,h1,h2⟩:=q
  exact hleave fn _ (fin v h1 h2)
 |ret=>
  obtain ⟨v,h1,h2⟩:=q
  exact hleave fn _ (fin v h1 h2)
 |exit id=>exact q.elim
 |goto l=>exact q.elim
 |panic ch=>exact q.elim
 |outgrown=>exact q.elim
end Go.AM
set_option linter.unusedVariables false
set_option linter.unusedSimpArgs false
namespace Go.AM
abbrev fD:=FuncId→List AV→List ARow→Option (AV × List (Nat × ARow))
def QG (n:Nat):Option Tmp→Bool
 |some t=>decide (t<n)
 |none=>true
theorem NV {n:Nat} {d:Option Tmp} (h:QG n d=true):gM n d:=by
 cases d with
 |none=>trivial
 |some t=>simpa [QG,gM] using h
def KY:Op→Bool
 | .next _ _=>true
 |_=>false
def DM:IntKind→Nat
 | .i8=>0| .i16=>1| .i32=>2| .i64=>3| .u8=>4| .u16=>5| .u32=>6| .u64=>7
theorem KX {a b:IntKind} (h:Nat.beq (DM a) (DM b)=true):a=b:=by
 cases a<;>cases b<;>first|rfl|(simp [DM] at h;done)|(exact absurd (Nat.eq_of_beq_eq_true h) (by decide))
def Q9:Int→Int→Bool
 | .ofNat a,.ofNat b=>Nat.beq a b
 | .negSucc a,.negSucc b=>Nat.beq a b
 |_,_=>false
theorem NJ {a b:Int} (h:Q9 a b=true):a=b:=by
 cases a<;>cases b<;>simp only [Q9] at h
 ·rw [Nat.eq_of_beq_eq_true h]
 ·cases h
 ·cases h
 ·rw [Nat.eq_of_beq_eq_true h]
def qS:List UInt8→List UInt8→Bool
 | [],[]=>true
 |a::x,b::y=>match Nat.beq a.toNat b.toNat with
  |true=>qS x y
  |false=>false
 |_,_=>false
theorem y8:∀ {x y:List UInt8},qS x y=true→x=y
 | [],[],_=>rfl
 | [],_::_,h=>by simp [qS] at h
 |_::_,[],h=>by simp [qS] at h
 |a::x,b::y,h=>by
  simp only [qS] at h
  split at h
  ·rename_i e
   rw [UInt8.toNat_inj.1 (Nat.eq_of_beq_eq_true e),y8 h]
  ·cases h
mutual
def eqA:AV→AV→Bool
 | .undef,.undef=>true
 | .bool a,.bool b=>decide (a=b)
 | .int k n,.int k' n'=>match Q9 n n' with
  |true=>Nat.beq (DM k) (DM k')
  |false=>false
 | .agg a,.agg b=>eqL a b
 | .tup a,.tup b=>eqL a b
 | .sl f a,.sl f' b=>decide (f=f')&&eqE a b
 | .osl a b c d e f,.osl a' b' c' d' e' f'=>decide (a=a')&&(decide (b=b')&&(decide (c=c')&&(decide (d=d')&&(decide (e=e')&&decide (f=f')))))
 | .rsv a,.rsv b=>decide (a=b)
 | .rsl a b c d e,.rsl a' b' c' d' e'=>decide (a=a')&&(decide (b=b')&&(decide (c=c')&&(decide (d=d')&&decide (e=e'))))
 | .ptr a b c,.ptr a' b' c'=>decide (a=a')&&(decide (b=b')&&decide (c=c'))
 | .imm a,.imm b=>eqL a b
 | .str a,.str b=>qS a.data.toList b.data.toList
 | .fn (.func f) a b,.fn (.func f') a' b'=>decide (f=f')&&(eqL a a'&&eqL b b')
 | .iface t v,.iface t' v'=>decide (t=t')&&eqA v v'
 | .yld a,.yld b=>decide (a=b)
 | .omp a,.omp b=>decide (a=b)
 | .nilptr,.nilptr=>true
 | .nilfn,.nilfn=>true
 | .niliface,.niliface=>true
 |_,_=>false
def eqL:List AV→List AV→Bool
 | [],[]=>true
 |x::a,y::b=>match eqA x y with
  |true=>eqL a b
  |false=>false
 |_,_=>false
def eqE:List (List AV)→List (List AV)→Bool
 | [],[]=>true
 |x::a,y::b=>eqL x y&&eqE a b
 |_,_=>false
end
mutual
theorem B5:∀ a b:AV,eqA a b=true→a=b
 | .undef,b,h=>by cases b<;>simp [eqA] at h ⊢
 | .bool a,b,h=>by cases b<;>simp [eqA] at h ⊢<;>exact h
 | .int k n,b,h=>by
  cases b<;>simp only [eqA] at h<;>first|(cases h;done)|skip
  split at h
  ·rename_i e
   rw [NJ e,KX h]
  ·cases h
 | .agg a,b,h=>by cases b<;>simp [eqA] at h ⊢<;>exact iP _ _ h
 | .tup a,b,h=>by cases b<;>simp [eqA] at h ⊢<;>exact iP _ _ h
 | .sl f a,b,h=>by cases b<;>simp [eqA] at h ⊢<;>exact ⟨h.1,LJ _ _ h.2⟩
 | .osl _ _ _ _ _ _,b,h=>by cases b<;>simp [eqA] at h ⊢<;>exact h
 | .rsl _ _ _ _ _,b,h=>by cases b<;>simp [eqA] at h ⊢<;>exact h
 | .rsv _,b,h=>by cases b<;>simp [eqA] at h ⊢<;>exact h
 | .ptr _ _ _,b,h=>by cases b<;>simp [eqA] at h ⊢<;>exact h
 | .imm a,b,h=>by cases b<;>simp [eqA] at h ⊢<;>exact iP _ _ h
 | .nilptr,b,h=>by cases b<;>simp [eqA] at h ⊢
 | .nilfn,b,h=>by cases b<;>simp [eqA] at h ⊢
 | .niliface,b,h=>by cases b<;>simp [eqA] at h ⊢
 | .str a,b,h=>by
  cases b<;>simp only [eqA] at h<;>first|(cases h;done)|skip
  have:=y8 h
  rw [ByteArray.ext (Array.ext' this)]
 | .mp _ _,b,h=>by cases b<;>simp [eqA] at h
 | .omp _,b,h=>by cases b<;>simp [eqA] at h ⊢<;>exact h
 | .yld _,b,h=>by cases b<;>simp [eqA] at h ⊢<;>exact h
 | .fn f x y,b,h=>by
  cases b with
  |fn f' x' y'=>
   cases f<;>cases f'<;>simp [eqA] at h
   rw [h.1,iP _ _ h.2.1,iP _ _ h.2.2]
  |_=>cases f<;>simp [eqA] at h
 | .iface t v,b,h=>by
  cases b<;>simp [eqA] at h ⊢
  exact ⟨h.1,B5 _ _ h.2⟩
 | .anyb,b,h=>by cases b<;>simp [eqA] at h
theorem iP:∀ a b:List AV,eqL a b=true→a=b
 | [],b,h=>by cases b<;>simp [eqL] at h ⊢
 |x::a,b,h=>by
  cases b with
  |nil=>simp [eqL] at h
  |cons y b=>
   simp only [eqL] at h
   split at h
   ·rename_i e
    rw [B5 x y e,iP a b h]
   ·cases h
theorem LJ:∀ a b:List (List AV),eqE a b=true→a=b
 | [],b,h=>by cases b<;>simp [eqE] at h ⊢
 |x::a,b,h=>by
  cases b with
  |nil=>simp [eqE] at h
  |cons y b=>
   simp only [eqE,Bool.and_eq_true] at h
   rw [iP x y h.1,LJ a b h.2]
end
def lG:ARow→ARow→Bool
 | .none,.none=>true
 | .dead,.dead=>true
 | .cells v c,.cells v' c'=>decide (v=v')&&eqL c c'
 |_,_=>false
theorem vB {a b:ARow} (h:lG a b=true):a=b:=by
 cases a<;>cases b<;>simp [lG] at h ⊢
 exact ⟨h.1,iP _ _ h.2⟩
def uB:List Nat→Bool
 | []=>true
 |x::l=> !l.contains x&&uB l
theorem xV:∀ {l:List Nat},uB l=true→l.Nodup
 | [],_=>List.nodup_nil
 |x::l,h=>by
  simp [uB] at h
  exact List.nodup_cons.2 ⟨h.1,xV h.2⟩
theorem iC (c:Nat × ARow→Bool):∀ (wr:List (Nat × ARow)) (R:Nat→ARow),(∀ p∈wr,c p=false→R p.1=p.2)→(wr.map (·.1)).Nodup→upd R (wr.filter c)=upd R wr
 | [],_,_,_=>rfl
 | (r, x) :: l, R, h, hn => by
  rw [List.map_cons,List.nodup_cons] at hn
  have e:upd R ((r,x)::l)=upd (fun q=>if q=r then x else R q) l:=rfl
  cases hcx:c (r,x) with
  |true=>
   rw [List.filter_cons_of_pos hcx,e]
   have e2:upd R ((r,x)::l.filter c)=upd (fun q=>if q=r then x else R q) (l.filter c):=rfl
   rw [e2]
   refine iC c l _ (fun p hp hc=>?_) hn.2
   have:p.1≠r:=fun hpr=>hn.1 (hpr ▸ List.mem_map.2 ⟨p,hp,rfl⟩)
   simp only [if_neg this]
   exact h p (List.mem_cons_of_mem _ hp) hc
  |false=>
   rw [List.filter_cons_of_neg (by simp [hcx]),e]
   have hR:(fun q=>if q=r then x else R q)=R:=by
    funext q
    by_cases hq:q=r
    ·subst hq;simp only [if_true];exact (h (q,x) (List.mem_cons_self ..) hcx).symm
    ·simp only [if_neg hq]
   rw [hR]
   exact iC c l R (fun p hp hc=>h p (List.mem_cons_of_mem _ hp) hc) hn.2
theorem BD {P:Program} {G:Nat→Option (List AV)} {f:FuncId} {args:List AV} {rows:Nat→ARow} {v:AV} {wr:List (Nat × ARow)} (h:dH P G f args rows (wr.map (·.1)) ⟨v,wr⟩) (hn:(wr.map (·.1)).Nodup) (c:Nat × ARow→Bool)
  (hc:∀ p∈wr,c p=false→rows p.1=p.2):dH P G f args rows (wr.map (·.1)) ⟨v,wr.filter c⟩:=by
 obtain ⟨h1,h2,h3⟩:=h
 refine ⟨h1,fun p hp=>h2 p (List.mem_filter.1 hp).1,fun E us i hr hl=>(h3 E us i hr hl).mono fun e w' ⟨v',E',a1,a2,a3,a4,a5,a6⟩=>⟨v',E',a1,a2,a3,a4,a5,?_⟩⟩
 rw [a6]
 refine (iC c wr E.rows (fun p hp hcp=>?_) hn).symm
 rw [hr p.1 (List.mem_map.2 ⟨p,hp,rfl⟩)]
 exact hc p hp hcp
theorem BW {P:Program} {G:Nat→Option (List AV)} {r:Nat} {args:List AV} {rows:Nat→ARow} {v:AV} {wr:List (Nat × ARow)} (h:GC P G r args rows (wr.map (·.1)) ⟨v,wr⟩) (hn:(wr.map (·.1)).Nodup) (c:Nat × ARow→Bool)
  (hc:∀ p∈wr,c p=false→rows p.1=p.2):GC P G r args rows (wr.map (·.1)) ⟨v,wr.filter c⟩:=by
 obtain ⟨h0,h1,h2,h3⟩:=h
 refine ⟨h0,h1,fun p hp=>h2 p (List.mem_filter.1 hp).1,fun E us i hr hl=>?_⟩
 obtain ⟨fn,tmps,asg,body,a,b⟩:=h3 E us i hr hl
 refine ⟨fn,tmps,asg,body,a,b.mono fun e w' ⟨v',E',a1,a2,a3,a4,a5,a6⟩=>⟨v',E',a1,a2,a3,a4,a5,?_⟩⟩
 rw [a6]
 refine (iC c wr E.rows (fun p hp hcp=>?_) hn).symm
 rw [hr p.1 (List.mem_map.2 ⟨p,hp,rfl⟩)]
 exact hc p hp hcp
def FT:ARow→Bool
 | .loop .. =>true
 |_=>false
abbrev d8:=Nat→List AV→List ARow→Option (AV × List (Nat × ARow))
section
variable (P:Program) (G:Nat→Option (List AV)) (cx:fD) (yx:d8)
def JK:AV→AV
 | .rsl r ver off n sz=>.osl r ver off n sz false
 |v=>v
def K6 (m:Option Acc) (s:AS) (d:Option Tmp):Option (AV × List (Nat × ARow))→Option (Option Acc × AS)
 |some (v,wr)=>if uB (wr.map (·.1))=true then
   some (adv m (wr.map (·.1)) ((wr.filter fun q=> !lG (s.row q.1) q.2).map (·.1)),(s.wr (wr.filter fun q=> !lG (s.row q.1) q.2)).put d v) else none
 |none=>none
def opX (n : Nat) (p : POp) (m : Option Acc) (s : AS) : Option (Option Acc × AS) :=
 if QG n p.1 = true ∧ KY p.2.1 = false then
  match BX p.2.2 s with
  |some false=>some (adv m [] [],s.put p.1 (.tup []))
  |some true=>match eQ p.2.1 (evA G s.get) with
   |some (f,args)=>K6 m s p.1 (cx f (args.map JK) s.h)
   |none=>match iZ p.2.1 (evA G s.get) with
    |some (r,args)=>K6 m s p.1 (yx r args s.h)
    |none=>match aop P p.2.1 (evA G s.get) s.row s.h.length with
     |some eff=>if eff.wr.all (fun q=> !FT q.2)=true then some (adv m (fpA p.2.1 (evA G s.get)) (eff.wr.map (·.1)),(s.wr eff.wr).put p.1 eff.val) else none
     |none=>none
  |none=>none
 else none
def z5 (n:Nat):List POp→Option Acc→AS→Option (Option Acc × AS)
 | [],m,s=>some (m,s)
 |p::rest,m,s=>match opX P G cx yx n p m s with
  |some (m',s')=>z5 n rest m' s'
  |none=>none
def mS (f:AS→Option (List (Exit × AS))):List (Exit × AS)→Option (List (Exit × AS))
 | []=>some []
 |(.normal,s)::r=>match f s,mS f r with
  |some a,some b=>some (a++b)
  |_,_=>none
 |p::r=>match mS f r with
  |some b=>some (p::b)
  |none=>none
def P6:AV→Bool
 | .int _ (.ofNat m)=>Nat.beq m m
 | .int _ (.negSucc m)=>Nat.beq m m
 | .bool true=>true
 | .bool false=>true
 | .osl a b c d _ _=>match Nat.beq a b,Nat.beq c d with
  |true,true=>true
  |true,false=>true
  |false,true=>true
  |false,false=>true
 | .rsl a b c d _=>match Nat.beq a b,Nat.beq c d with
  |true,true=>true
  |true,false=>true
  |false,true=>true
  |false,false=>true
 | .ptr a b c=>match Nat.beq a b,Nat.beq c c with
  |true,true=>true
  |true,false=>true
  |false,true=>true
  |false,false=>true
 |_=>true
def zN:List AV→Bool
 | []=>true
 |x::xs=>match P6 x with
  |true=>zN xs
  |false=>false
def P5:ARow→Bool
 | .cells v cs=>match Nat.beq v v with
  |true=>zN cs
  |false=>false
 | .loop _ _ fr _ _ _=>zN fr
 |_=>true
def JA:List ARow→Bool
 | []=>true
 |x::xs=>match P5 x with
  |true=>JA xs
  |false=>false
def P4 (s:AS):Bool:=match zN s.fr with
 |true=>JA s.h
 |false=>false
def pH (f:AS→Option (List (Exit × AS))):Nat→AS→Option (List (Exit × AS))
 |0,_=>none
 |n+1,s=>match P4 s with
  |true=>match f s with
   |some L=>mS (pH f n) L
   |none=>none
  |false=>none
def BF (id:Nat):Exit × AS→Exit × AS
 |(.exit j,s)=>if j=id then (.normal,s) else (.exit j,s)
 |p=>p
def fA (n:Nat) (s:AS) (ps:Array Tmp) (asg body:Code):Nat × ARow:=(s.h.length,.loop .ready none ((List.range n).map s.get) ps asg body)
def exX (top : Bool) (N n : Nat) : Code → AS → Option (List (Exit × AS))
 | .skip,s=>some [(.normal,s)]
 | .region _ ops false,s=>match z5 P G cx yx n (dQ ops) none s with
  |some (_,s')=>some [(.normal,s')]
  |none=>none
 | .region _ ops true,s=>if fV ops=true then match z5 P G cx yx n (dQ ops) (some []) s with
   |some (some acc,s')=>if (wN acc || zW ops acc)=true then some [(.normal,s')] else none
   |_=>none
  else none
 | .seq x y,s=>match exX top N n x s with
  |some L=>mS (exX top N n y) L
  |none=>none
 | .cond c x y,s=>match evA G s.get c with
  | .bool true=>exX top N n x s
  | .bool false=>exX top N n y s
  | .anyb=>match exX top N n x s,exX top N n y s with
   |some a,some b=>some (a++b)
   |_,_=>none
  |_=>none
 | .block id c,s=>match exX top N n c s with
  |some L=>some (L.map (BF id))
  |none=>none
 | .loop c,s=>pH (exX top N n c) N s
 | .exit id,s=>some [(.exit id,s)]
 | .ret,s=>some [(.ret,s)]
 | .label _,s=>some [(.normal,s)]
 | .scope c,s=>match exX top N n c s with
  |some L=>if (L.all fun p=>PT p.1)=true then some L else none
  |none=>none
 | .rangeFunc g ps asg body,s=>if top=true then match evA G s.get g with
   | .fn (.func gf) first cap=>match cx gf (first++[.yld s.h.length]++cap) (s.wr [fA n s ps asg body]).h with
    |some (v,wr)=>match upd (upd s.row [fA n s ps asg body]) wr s.h.length with
     | .loop .ready none _ _ _ _=>some [(.normal,((s.wr [fA n s ps asg body]).wr wr).wr [(s.h.length,.dead)])]
     | .loop .done (some .ret) _ _ _ _=>some [(.ret,((s.wr [fA n s ps asg body]).wr wr).wr [(s.h.length,.dead)])]
     | .loop .done (some (.exit id)) _ _ _ _=>some [(.exit id,((s.wr [fA n s ps asg body]).wr wr).wr [(s.h.length,.dead)])]
     |_=>none
    |none=>none
   |_=>none
  else none
 |_,_=>none
end
def gU (P:Program) (G:Nat→Option (List AV)) (cx:fD):Prop:=∀ f args h v wr,cx f args h=some (v,wr)→dH P G f args (fun r=>h.getD r .none) (wr.map (·.1)) ⟨v,wr⟩
def g9 (P:Program) (G:Nat→Option (List AV)) (yx:d8):Prop:=∀ r args h v wr,yx r args h=some (v,wr)→GC P G r args (fun r=>h.getD r .none) (wr.map (·.1)) ⟨v,wr⟩
section
variable {P:Program} {G:Nat→Option (List AV)} {cx:fD} {yx:d8}
theorem MQ {E:En} {v:AV} {u:Value} (h:Rel E v u):Rel E (JK v) u:=by
 unfold JK
 split
 ·simp only [Rel] at h ⊢
  exact ⟨h.1,h.2.imp fun _ ⟨cap,cur,e,a1,a2,a3,a4,a5,a6⟩=>⟨cap,cur,e,a1,a2,a3,by simp,a5,a6⟩⟩
 ·exact h
theorem CO {E:En}:∀ {vs:List AV} {us:List Value},RelL E vs us→RelL E (vs.map JK) us
 | [],_,h=>by simpa only [RelL,List.map_nil] using h
 |v::vs,_,h=>by
  simp only [RelL] at h
  obtain ⟨u,rest,rfl,h1,h2⟩:=h
  simp only [List.map_cons,RelL]
  exact ⟨u,rest,rfl,MQ h1,CO h2⟩
theorem FZ {f:FuncId} {args:List AV} {rows:Nat→ARow} {fp:List Nat} {eff:Eff} (h:dH P G f (args.map JK) rows fp eff):dH P G f args rows fp eff:=
 ⟨h.1,h.2.1,fun E us i hr hl=>h.2.2 E us i hr (CO hl)⟩
theorem AC {m m':Option Acc} {s s':AS} {d:Option Tmp} {o:Option (AV × List (Nat × ARow))} (h:K6 m s d o=some (m',s')):∃ v wr,o=some (v,wr)∧(wr.map (·.1)).Nodup∧
  m'=adv m (wr.map (·.1)) ((wr.filter fun q=> !lG (s.row q.1) q.2).map (·.1))∧s'=(s.wr (wr.filter fun q=> !lG (s.row q.1) q.2)).put d v:=by
 unfold K6 at h
 split at h
 ·rename_i v wr
  split at h
  ·rename_i hnd
   injection h with h
   obtain ⟨rfl,rfl⟩:=Prod.mk.inj h
   exact ⟨v,wr,rfl,xV hnd,rfl,rfl⟩
  ·cases h
 ·cases h
theorem PQ {n:Nat} {K:Option Acc→AS→Prop} {p:POp} {rest:List POp} {m m':Option Acc} {s s':AS} (h:opX P G cx yx n p m s=some (m',s')) (hk:aY P G n K rest m' s') (hc:gU P G cx) (hy:g9 P G yx):aY P G n K (p::rest) m s:=by
 unfold opX at h
 split at h
 ·rename_i hd
  refine ⟨NV hd.1,?_⟩
  split at h
  ·rename_i hw
   injection h with h
   obtain ⟨rfl,rfl⟩:=Prod.mk.inj h
   simp only [hw]
   exact hk
  ·rename_i hw
   simp only [hw]
   have hop:∀ KE:Eff→Option Acc→Prop,(∃ eff fp,OpC P G p.2.1 (evA G s.get) s.row s.h.length fp eff∧KE eff (adv m fp (eff.wr.map (·.1))))→opR P G p.2.1 s m KE:=by
    intro KE hKE
    unfold opR
    split
    ·rename_i x hx
     rw [hx] at hd
     simp [KY] at hd
    ·exact hKE
   refine hop _ ?_
   have hflt:∀ (wr:List (Nat × ARow)),∀ q∈wr,(!lG (s.row q.1) q.2)=false→s.row q.1=q.2:=fun wr q _ hq=>by
    have h2:lG (s.row q.1) q.2=true:=by simpa using hq
    exact vB h2
   split at h
   ·rename_i f args hcall
    obtain ⟨v,wr,hcx,hnd,rfl,rfl⟩:=AC h
    refine ⟨⟨v,wr.filter fun q=> !lG (s.row q.1) q.2⟩,wr.map (·.1),?_,hk⟩
    unfold OpC
    rw [hcall]
    exact BD (FZ (hc _ _ _ _ _ hcx)) hnd _ (hflt wr)
   ·rename_i hcall
    split at h
    ·rename_i r args hyld
     obtain ⟨v,wr,hcx,hnd,rfl,rfl⟩:=AC h
     refine ⟨⟨v,wr.filter fun q=> !lG (s.row q.1) q.2⟩,wr.map (·.1),?_,hk⟩
     unfold OpC
     rw [hcall,hyld]
     exact BW (hy _ _ _ _ _ hcx) hnd _ (hflt wr)
    ·rename_i hyld
     split at h
     ·rename_i eff ha
      split at h
      case isFalse=>cases h
      injection h with h
      obtain ⟨rfl,rfl⟩:=Prod.mk.inj h
      refine ⟨eff,_,?_,hk⟩
      unfold OpC
      rw [hcall,hyld]
      exact ⟨ha,rfl⟩
     ·cases h
  ·cases h
 ·cases h
theorem zZ {n:Nat} {K:Option Acc→AS→Prop} (hc:gU P G cx) (hy:g9 P G yx):∀ (l:List POp) (m m':Option Acc) (s s':AS),z5 P G cx yx n l m s=some (m',s')→K m' s'→aY P G n K l m s
 | [],m,m',s,s',h,hk=>by
  simp only [z5,Option.some.injEq,Prod.mk.injEq] at h
  obtain ⟨rfl,rfl⟩:=h
  exact hk
 |p::rest,m,m',s,s',h,hk=>by
  simp only [z5] at h
  split at h
  ·rename_i m1 s1 h1
   exact PQ h1 (zZ hc hy rest m1 m' s1 s' h hk) hc hy
  ·cases h
theorem pW {f:AS→Option (List (Exit × AS))}:∀ {L L':List (Exit × AS)},mS f L=some L'→∀ p∈L,(p.1=.normal∧∃ a,f p.2=some a∧∀ q∈a,q∈L')∨(p.1≠.normal∧p∈L')
 | [],_,_,p,hp=>by cases hp
 | (e, s) :: r, L', h, p, hp => by
  cases e with
  |normal=>
   simp only [mS] at h
   split at h
   ·rename_i a b h1 h2
    injection h with h
    subst h
    rcases List.mem_cons.1 hp with rfl|hp
    ·exact .inl ⟨rfl,a,h1,fun q hq=>List.mem_append.2 (.inl hq)⟩
    ·rcases pW h2 p hp with ⟨e,a',q1,q2⟩|⟨e,q⟩
     ·exact .inl ⟨e,a',q1,fun q hq=>List.mem_append.2 (.inr (q2 q hq))⟩
     ·exact .inr ⟨e,List.mem_append.2 (.inr q)⟩
   ·cases h
  |_=>
   simp only [mS] at h
   split at h
   ·rename_i b h2
    injection h with h
    subst h
    rcases List.mem_cons.1 hp with rfl|hp
    ·exact .inr ⟨by simp,List.mem_cons_self ..⟩
    ·rcases pW h2 p hp with ⟨e,a',q1,q2⟩|⟨e,q⟩
     ·exact .inl ⟨e,a',q1,fun q hq=>List.mem_cons_of_mem _ (q2 q hq)⟩
     ·exact .inr ⟨e,List.mem_cons_of_mem _ q⟩
   ·cases h
theorem LT {K:AS→Prop} {Q:Exit→AS→Prop} {e:Exit} {s:AS} (h:(e=.normal∧K s)∨(e≠.normal∧Q e s)):lH K Q e s:=by
 rcases h with ⟨rfl,h⟩|⟨hn,h⟩
 ·exact h
 ·cases e<;>first|exact absurd rfl hn|exact h
theorem BI [Rnd] {n k:Nat} {c:Code} {f:AS→Option (List (Exit × AS))} (hf:∀ (s:AS) (L:List (Exit × AS)) (Q:Exit→AS→Prop),f s=some L→(∀ p∈L,Q p.1 p.2)→AWp P G n k c Q s) (N:Nat) (s:AS) (L:List (Exit × AS)) (Q:Exit→AS→Prop) (h:pH f N s=some L) (hq:∀ p∈L,Q p.1 p.2):AWp P G n k (.loop c) Q s:=fun E a i=>by
 refine wpIn_mono (Q:=fun e' a' w'=>∃ s2 E',w'=E'.w∧ExtK k E E'∧Sim G n s2 E' a'∧Q e' s2) ?_ ?_
 ·refine wpIn_loop_ghost (fun m a' w'=>∃ s2 E' L,pH f m s2=some L∧(∀ p∈L,Q p.1 p.2)∧w'=E'.w∧ExtK k E E'∧Sim G n s2 E' a') N ⟨s,E,L,h,hq,rfl,(Ext.refl _).toK k,i⟩ ?_
  rintro m a' w' ⟨s2,E',L,hm,hL,rfl,hx,hs⟩
  cases m with
  |zero=>simp [pH] at hm
  |succ m=>
   simp only [pH] at hm
   split at hm
   case h_2=>cases hm
   cases hr:f s2 with
   |none=>rw [hr] at hm;cases hm
   |some L1=>
    rw [hr] at hm
    refine wpIn_mono (hf s2 L1 (fun e' s4=>(e',s4)∈L1) hr (fun p hp=>hp) E' a' hs) ?_
    rintro e2 a'' w'' ⟨s4,E'',rfl,h2,h3,h4⟩
    rcases pW hm _ h4 with ⟨e,a,q1,q2⟩|⟨e,q⟩
    ·simp only at e
     subst e
     exact ⟨m,Nat.lt_succ_self m,s4,E'',a,q1,fun p hp=>hL p (q2 p hp),rfl,hx.trans h2,h3⟩
    ·have hq4:=hL _ q
     cases e2 with
     |normal=>exact absurd rfl e
     |exit id=>exact ⟨s4,E'',rfl,hx.trans h2,h3,hq4⟩
     |goto l=>exact ⟨s4,E'',rfl,hx.trans h2,h3,hq4⟩
     |ret=>exact ⟨s4,E'',rfl,hx.trans h2,h3,hq4⟩
     |panic ch=>exact ⟨s4,E'',rfl,hx.trans h2,h3,hq4⟩
     |outgrown=>exact ⟨s4,E'',rfl,hx.trans h2,h3,hq4⟩
 ·rintro e' a' w' h'
  exact h'
theorem f4 [rd:Rnd] {top:Bool} {N n k:Nat} (hm:P.follows .mixedOrders=true) (htop:top=true→rd.round=none∧∃ b,rd.base=some b) (hc:gU P G cx) (hy:g9 P G yx):∀ (c:Code) (s:AS) (L:List (Exit × AS)) (Q:Exit→AS→Prop),exX P G cx yx top N n c s=some L→(∀ p∈L,Q p.1 p.2)→AWp P G n k c Q s
 | .skip,s,L,Q,h,hq=>by
  simp only [exX,Option.some.injEq] at h
  subst h
  exact vY (hq _ (List.mem_cons_self ..))
 | .region id ops false,s,L,Q,h,hq=>by
  simp only [exX] at h
  split at h
  ·rename_i m1 s1 h1
   simp only [Option.some.injEq] at h
   subst h
   exact BH (zZ hc hy _ _ _ _ _ h1 (hq _ (List.mem_cons_self ..)))
  ·cases h
 | .region id ops true,s,L,Q,h,hq=>by
  simp only [exX] at h
  split at h
  ·rename_i hs
   split at h
   ·rename_i acc s1 h1
    split at h
    ·rename_i hw
     simp only [Option.some.injEq] at h
     subst h
     refine BK hm hs (zZ hc hy _ _ _ _ _ h1 ⟨?_,hq _ (List.mem_cons_self ..)⟩)
     simpa [EH] using hw
    ·cases h
   ·cases h
  ·cases h
 | .seq x y,s,L,Q,h,hq=>by
  simp only [exX] at h
  refine BG ?_
  cases hx:exX P G cx yx top N n x s with
  |none=>rw [hx] at h;cases h
  |some L1=>
   rw [hx] at h
   refine f4 hm htop hc hy x s L1 _ hx fun p hp=>LT ?_
   rcases pW h p hp with ⟨e,a,q1,q2⟩|⟨e,q⟩
   ·exact .inl ⟨e,f4 hm htop hc hy y p.2 a Q q1 fun p' hp'=>hq p' (q2 p' hp')⟩
   ·exact .inr ⟨e,hq p q⟩
 | .cond c x y,s,L,Q,h,hq=>by
  simp only [exX] at h
  split at h
  ·rename_i hb
   exact pZ hb (fun _=>f4 hm htop hc hy x s L Q h hq) (fun h0=>by cases h0)
  ·rename_i hb
   exact pZ hb (fun h0=>by cases h0) (fun _=>f4 hm htop hc hy y s L Q h hq)
  ·rename_i hb
   split at h
   ·rename_i a b h1 h2
    simp only [Option.some.injEq] at h
    subst h
    exact k8 hb (f4 hm htop hc hy x s a Q h1 fun p hp=>hq p (List.mem_append.2 (.inl hp))) (f4 hm htop hc hy y s b Q h2 fun p hp=>hq p (List.mem_append.2 (.inr hp)))
   ·cases h
  ·cases h
 | .block id c,s,L,Q,h,hq=>by
  simp only [exX] at h
  refine qT ?_
  cases hx:exX P G cx yx top N n c s with
  |none=>rw [hx] at h;cases h
  |some L1=>
   rw [hx] at h
   simp only [Option.some.injEq] at h
   subst h
   refine f4 hm htop hc hy c s L1 _ hx fun p hp=>?_
   have h2:=hq _ (List.mem_map.2 ⟨p,hp,rfl⟩)
   obtain ⟨e,s1⟩:=p
   cases e with
   |exit j=>
    simp only [BF] at h2
    simp only [lA]
    split
    ·rename_i e;rw [if_pos e] at h2;exact h2
    ·rename_i e;rw [if_neg e] at h2;exact h2
   |_=>exact h2
 | .loop c,s,L,Q,h,hq=>by
  simp only [exX] at h
  exact BI (fun s L Q h hq=>f4 hm htop hc hy c s L Q h hq) N s L Q h hq
 | .exit id,s,L,Q,h,hq=>by
  simp only [exX,Option.some.injEq] at h
  subst h
  exact pY (hq _ (List.mem_cons_self ..))
 | .ret,s,L,Q,h,hq=>by
  simp only [exX,Option.some.injEq] at h
  subst h
  exact sM (hq _ (List.mem_cons_self ..))
 | .rangeFunc g ps asg body,s,L,Q,h,hq=>by
  simp only [exX] at h
  split at h
  case isFalse=>cases h
  rename_i ht
  obtain ⟨hr,b,hb⟩:=htop ht
  split at h
  case h_2=>cases h
  rename_i gf first cap hg
  split at h
  case h_2=>cases h
  rename_i v wr hcx
  have hcall:=hc _ _ _ _ _ hcx
  have hrows:(fun r=>(s.wr [fA n s ps asg body]).h.getD r .none)=upd s.row [fA n s ps asg body]:=AS.row_wr s [fA n s ps asg body]
  rw [hrows] at hcall
  split at h
  ·rename_i fr1 ps1 a1 b1 hrow
   simp only [Option.some.injEq] at h
   subst h
   exact jI hr hb hg hcall (.inl ⟨_,_,_,_,hrow,hq _ (List.mem_cons_self ..)⟩)
  ·rename_i fr1 ps1 a1 b1 hrow
   simp only [Option.some.injEq] at h
   subst h
   exact jI hr hb hg hcall (.inr ⟨_,_,_,_,_,hrow,sM (hq _ (List.mem_cons_self ..))⟩)
  ·rename_i id fr1 ps1 a1 b1 hrow
   simp only [Option.some.injEq] at h
   subst h
   exact jI hr hb hg hcall (.inr ⟨_,_,_,_,_,hrow,pY (hq _ (List.mem_cons_self ..))⟩)
  ·cases h
 | .scope c,s,L,Q,h,hq=>by
  simp only [exX] at h
  split at h
  ·rename_i L1 h1
   simp only [Option.ite_none_right_eq_some,Option.some.injEq] at h
   obtain ⟨h2,rfl⟩:=h
   exact IR (f4 hm htop hc hy c s L1 _ h1 fun p hp=>⟨List.all_eq_true.1 h2 p hp,hq p hp⟩)
  ·cases h
 | .label _,s,L,Q,h,hq=>by
  simp only [exX,Option.some.injEq] at h
  subst h
  exact IT (hq _ (List.mem_cons_self ..))
 | .goto ..,s,L,Q,h,hq=>by simp [exX] at h
 | .refuse ..,s,L,Q,h,hq=>by simp [exX] at h
end
def LF (h rows:Nat→ARow):Prop:=∀ r st pd fr ps a b,rows r=.loop st pd fr ps a b→∃ st' pd' fr',h r=.loop st' pd' fr' ps a b
theorem LF.refl (h:Nat→ARow):LF h h:=fun r st pd fr ps a b e=>⟨st,pd,fr,e⟩
theorem LF.trans {h1 h2 h3:Nat→ARow} (x:LF h1 h2) (y:LF h2 h3):LF h1 h3:=fun r st pd fr ps a b e=>by
 obtain ⟨st',pd',fr',e'⟩:=y r st pd fr ps a b e
 exact x r st' pd' fr' ps a b e'
theorem LF.eq {h1 h2:Nat→ARow} (e:h2=h1):LF h1 h2:=e ▸ LF.refl _
def LFC (cx:fD):Prop:=∀ f args (h:List ARow) v wr,cx f args h=some (v,wr)→LF (fun r=>h.getD r .none) (upd (fun r=>h.getD r .none) wr)
def LFY (yx:d8):Prop:=∀ r args (h:List ARow) v wr,yx r args h=some (v,wr)→LF (fun r=>h.getD r .none) (upd (fun r=>h.getD r .none) wr)
theorem sR:∀ (wr:List (Nat × ARow)) (R:Nat→ARow),(wr.all fun q=> !FT q.2)=true→LF R (upd R wr)
 | [],R,_=>LF.refl R
 |(q,x)::l,R,h=>by
  simp only [List.all_cons,Bool.and_eq_true] at h
  have e:upd R ((q,x)::l)=upd (fun r=>if r=q then x else R r) l:=rfl
  rw [e]
  refine LF.trans (fun r st pd fr ps a b he=>?_) (sR l _ h.2)
  by_cases hr:r=q
  ·simp only [if_pos hr] at he
   rw [he] at h
   simp [FT] at h
  ·simp only [if_neg hr] at he
   exact ⟨st,pd,fr,he⟩
section
variable {P:Program} {G:Nat→Option (List AV)} {cx:fD} {yx:d8}
theorem PR {n:Nat} {p:POp} {m m':Option Acc} {s s':AS} (hc:LFC cx) (hy:LFY yx) (h:opX P G cx yx n p m s=some (m',s')):LF s.row s'.row:=by
 unfold opX at h
 split at h
 case isFalse=>cases h
 split at h
 ·injection h with h
  obtain ⟨rfl,rfl⟩:=Prod.mk.inj h
  exact LF.eq (AS.row_put _ _ _)
 ·have hput:∀ (o:Option (AV × List (Nat × ARow))),(∀ v wr,o=some (v,wr)→LF s.row (upd s.row wr))→K6 m s p.1 o=some (m',s')→LF s.row s'.row:=by
   intro o ho hp
   obtain ⟨v,wr,e,hnd,rfl,rfl⟩:=AC hp
   rw [AS.row_put,AS.row_wr,iC _ wr s.row (fun q _ hq=>by
    have h2:lG (s.row q.1) q.2=true:=by simpa using hq
    exact vB h2) hnd]
   exact ho v wr e
  split at h
  ·exact hput _ (fun v wr e=>hc _ _ _ _ _ e) h
  ·split at h
   ·exact hput _ (fun v wr e=>hy _ _ _ _ _ e) h
   ·split at h
    ·rename_i eff ha
     split at h
     case isFalse=>cases h
     rename_i hnl
     injection h with h
     obtain ⟨rfl,rfl⟩:=Prod.mk.inj h
     rw [AS.row_put,AS.row_wr]
     exact sR _ _ hnl
    ·cases h
 ·cases h
theorem z4 {n:Nat} (hc:LFC cx) (hy:LFY yx):∀ (l:List POp) (m m':Option Acc) (s s':AS),z5 P G cx yx n l m s=some (m',s')→LF s.row s'.row
 | [],m,m',s,s',h=>by
  simp only [z5,Option.some.injEq,Prod.mk.injEq] at h
  obtain ⟨rfl,rfl⟩:=h
  exact LF.refl _
 |p::rest,m,m',s,s',h=>by
  simp only [z5] at h
  split at h
  ·rename_i m1 s1 h1
   exact (PR hc hy h1).trans (z4 hc hy rest m1 m' s1 s' h)
  ·cases h
theorem pX {f:AS→Option (List (Exit × AS))} (hf:∀ s L,f s=some L→∀ p∈L,LF s.row p.2.row):∀ {L L':List (Exit × AS)} {R:Nat→ARow},(∀ p∈L,LF R p.2.row)→mS f L=some L'→∀ p∈L',LF R p.2.row
 | [],_,_,_,h,p,hp=>by
  simp only [mS,Option.some.injEq] at h
  subst h
  cases hp
 | (e, s) :: r, L', R, hL, h, p, hp => by
  cases e with
  |normal=>
   simp only [mS] at h
   split at h
   ·rename_i a b h1 h2
    injection h with h
    subst h
    rcases List.mem_append.1 hp with hp|hp
    ·exact (hL _ (List.mem_cons_self ..)).trans (hf s a h1 p hp)
    ·exact pX hf (fun q hq=>hL q (List.mem_cons_of_mem _ hq)) h2 p hp
   ·cases h
  |_=>
   simp only [mS] at h
   split at h
   ·rename_i b h2
    injection h with h
    subst h
    rcases List.mem_cons.1 hp with rfl|hp
    ·exact hL _ (List.mem_cons_self ..)
    ·exact pX hf (fun q hq=>hL q (List.mem_cons_of_mem _ hq)) h2 p hp
   ·cases h
theorem DN {f:AS→Option (List (Exit × AS))} (hf:∀ s L,f s=some L→∀ p∈L,LF s.row p.2.row):∀ (n:Nat) (s:AS) (L:List (Exit × AS)),pH f n s=some L→∀ p∈L,LF s.row p.2.row
 |0,_,_,h=>by simp [pH] at h
 |n+1,s,L,h=>by
  simp only [pH] at h
  split at h
  case h_2=>cases h
  split at h
  ·rename_i L1 h1
   exact pX (DN hf n) (hf s L1 h1) h
  ·cases h
theorem G3 (id:Nat) (p:Exit × AS):(BF id p).2=p.2:=by
 obtain ⟨e,s⟩:=p
 cases e<;>simp only [BF]
 split<;>rfl
theorem gR {top:Bool} {N n:Nat} (hc:LFC cx) (hy:LFY yx):∀ (c:Code) (s:AS) (L:List (Exit × AS)),exX P G cx yx top N n c s=some L→∀ p∈L,LF s.row p.2.row
 | .skip,s,L,h,p,hp=>by
  simp only [exX,Option.some.injEq] at h
  subst h
  rw [List.mem_singleton.1 hp]
  exact LF.refl _
 | .region id ops false,s,L,h,p,hp=>by
  simp only [exX] at h
  split at h
  ·rename_i m1 s1 h1
   simp only [Option.some.injEq] at h
   subst h
   rw [List.mem_singleton.1 hp]
   exact z4 hc hy _ _ _ _ _ h1
  ·cases h
 | .region id ops true,s,L,h,p,hp=>by
  simp only [exX] at h
  split at h
  ·split at h
   ·rename_i acc s1 h1
    split at h
    ·simp only [Option.some.injEq] at h
     subst h
     rw [List.mem_singleton.1 hp]
     exact z4 hc hy _ _ _ _ _ h1
    ·cases h
   ·cases h
  ·cases h
 | .seq x y,s,L,h,p,hp=>by
  simp only [exX] at h
  split at h
  ·rename_i L1 h1
   exact pX (fun s L h=>gR hc hy y s L h) (gR hc hy x s L1 h1) h p hp
  ·cases h
 | .cond c x y,s,L,h,p,hp=>by
  simp only [exX] at h
  split at h
  ·exact gR hc hy x s L h p hp
  ·exact gR hc hy y s L h p hp
  ·split at h
   ·rename_i a b h1 h2
    simp only [Option.some.injEq] at h
    subst h
    rcases List.mem_append.1 hp with hp|hp
    ·exact gR hc hy x s a h1 p hp
    ·exact gR hc hy y s b h2 p hp
   ·cases h
  ·cases h
 | .block id c,s,L,h,p,hp=>by
  simp only [exX] at h
  split at h
  ·rename_i L1 h1
   simp only [Option.some.injEq] at h
   subst h
   obtain ⟨q,hq,rfl⟩:=List.mem_map.1 hp
   rw [G3]
   exact gR hc hy c s L1 h1 q hq
  ·cases h
 | .loop c,s,L,h,p,hp=>by
  simp only [exX] at h
  exact DN (fun s L h=>gR hc hy c s L h) N s L h p hp
 | .exit id,s,L,h,p,hp=>by
  simp only [exX,Option.some.injEq] at h
  subst h
  rw [List.mem_singleton.1 hp]
  exact LF.refl _
 | .ret,s,L,h,p,hp=>by
  simp only [exX,Option.some.injEq] at h
  subst h
  rw [List.mem_singleton.1 hp]
  exact LF.refl _
 | .rangeFunc g ps asg body,s,L,h,p,hp=>by
  simp only [exX] at h
  split at h
  case isFalse=>cases h
  split at h
  case h_2=>cases h
  rename_i gf first cap hg
  split at h
  case h_2=>cases h
  rename_i v wr hcx
  have h1:=hc _ _ _ _ _ hcx
  have hrows:(fun r=>(s.wr [fA n s ps asg body]).h.getD r .none)=upd s.row [fA n s ps asg body]:=AS.row_wr s [fA n s ps asg body]
  rw [hrows] at h1
  have hfin:LF s.row (((s.wr [fA n s ps asg body]).wr wr).wr [(s.h.length,.dead)]).row:=by
   rw [AS.row_wr,AS.row_wr,AS.row_wr]
   intro r st pd fr ps' a b e
   by_cases hr:r=s.h.length
   ·subst hr;simp [upd] at e
   ·have e2:upd (upd s.row [fA n s ps asg body]) wr r=.loop st pd fr ps' a b:=by simpa [upd,hr] using e
    obtain ⟨st',pd',fr',e3⟩:=h1 r st pd fr ps' a b e2
    exact ⟨st',pd',fr',by simpa [upd,fA,hr] using e3⟩
  split at h<;>first
   |cases h;done
   |(simp only [Option.some.injEq] at h;subst h;rw [List.mem_singleton.1 hp];exact hfin)
 | .scope c,s,L,h,p,hp=>by
  simp only [exX] at h
  split at h
  ·rename_i L1 h1
   simp only [Option.ite_none_right_eq_some,Option.some.injEq] at h
   obtain ⟨h2,rfl⟩:=h
   exact gR hc hy c s L1 h1 p hp
  ·cases h
 | .label _,s,L,h,p,hp=>by
  simp only [exX,Option.some.injEq] at h
  subst h
  rw [List.mem_singleton.1 hp]
  exact LF.refl _
 | .goto ..,s,L,h,p,hp=>by simp [exX] at h
 | .refuse ..,s,L,h,p,hp=>by simp [exX] at h
end
mutual
def OJ:AV→List Nat
 | .agg cs=>e9 cs
 | .tup cs=>e9 cs
 | .sl _ es=>OI es
 | .osl r _ _ _ _ _=>[r]
 | .rsl r _ _ _ _=>[r]
 | .ptr r _ _=>[r]
 | .imm cs=>e9 cs
 | .mp ks vs=>e9 ks++e9 vs
 | .omp r=>[r]
 | .yld r=>[r]
 | .fn _ a b=>e9 a++e9 b
 | .iface _ v=>OJ v
 |_=>[]
def e9:List AV→List Nat
 | []=>[]
 |c::cs=>OJ c++e9 cs
def OI:List (List AV)→List Nat
 | []=>[]
 |e::es=>e9 e++OI es
end
def N2:ARow→List Nat
 | .cells _ cs=>e9 cs
 | .map ks vs=>e9 ks++e9 vs
 | .iter ks vs _ _=>e9 ks++e9 vs
 | .loop _ _ fr _ _ _=>e9 fr
 |_=>[]
def iH (h:List ARow):Nat→List Nat→List Nat→List Nat
 |0,_,seen=>seen
 |_+1,[],seen=>seen
 |k+1,r::todo,seen=>if seen.contains r=true then iH h k todo seen else iH h k (N2 (h.getD r .none)++todo) (r::seen)
def mF (R:List Nat):Nat→List ARow→List ARow
 |_,[]=>[]
 |k,x::xs=>(if R.contains k=true then x else .dead)::mF R (k+1) xs
theorem dV (R:List Nat):∀ (k:Nat) (h:List ARow),(mF R k h).length=h.length
 |_,[]=>rfl
 |k,x::xs=>by simp [mF,dV R (k+1) xs]
theorem hI (R:List Nat):∀ (k:Nat) (h:List ARow) (i:Nat),(mF R k h).getD i .none=if i<h.length then (if R.contains (k+i)=true then h.getD i .none else .dead) else .none
 |k,[],i=>by simp [mF]
 |k,x::xs,0=>by simp [mF]
 |k,x::xs,i+1=>by
  have:=hI R (k+1) xs i
  rw [show k+1+i=k+(i+1) by omega] at this
  simp only [mF,List.getD_cons_succ,this,List.length_cons,Nat.add_lt_add_iff_right]
theorem m6 (g:Nat→ARow):∀ (fp:List Nat) (rows:Nat→ARow) (r:Nat),upd rows (fp.map fun r=>(r,g r)) r=if r∈fp then g r else rows r
 | [],rows,r=>by simp [upd]
 |q::fp,rows,r=>by
  have ih:=m6 g fp (upd rows [(q,g q)]) r
  have e:upd rows ((q::fp).map fun r=>(r,g r)) r=upd (upd rows [(q,g q)]) (fp.map fun r=>(r,g r)) r:=rfl
  rw [e,ih,eE]
  by_cases h:r∈fp
  ·simp [h]
  ·by_cases h2:r=q
   ·simp [h2]
   ·simp [h,h2]
def uM:Exit→Bool
 | .normal=>true
 | .ret=>true
 |_=>false
theorem vW {P:Program} {fn:Func} {R:AV→AS→Prop} {e:Exit} {s:AS} {v:AV} (he:uM e=true) (hv:cR P fn s=some v) (h:R v s):dR P fn R e s:=by
 cases e<;>first|(simp [uM] at he;done)|exact ⟨v,hv,h⟩
def iQ (sz:Nat):Nat→List AV→List (List AV)
 |0,_=>[]
 |n+1,l=>l.take sz::iQ sz n (l.drop sz)
theorem rN {sz:Nat}:∀ (n:Nat) (l:List AV),l.length=n*sz→(iQ sz n l).flatten=l∧(iQ sz n l).length=n∧∀ e∈iQ sz n l,e.length=sz
 |0,l,h=>by
  have:l=[]:=List.eq_nil_of_length_eq_zero (by omega)
  subst this
  simp [iQ]
 |n+1,l,h=>by
  rw [Nat.add_mul,Nat.one_mul] at h
  obtain ⟨h1,h2,h3⟩:=rN (sz:=sz) n (l.drop sz) (by rw [List.length_drop];omega)
  refine ⟨by simp only [iQ,List.flatten_cons,h1,List.take_append_drop],by simp only [iQ,List.length_cons,h2],fun e he=>?_⟩
  rcases List.mem_cons.1 he with rfl|he
  ·rw [List.length_take];omega
  ·exact h3 e he
def nP (rows : Nat → ARow) : Nat → List AV → Option (List AV)
 |0,_=>none
 |_+1,[]=>some []
 | k + 1, v :: vs => match nP rows k vs with
  |none=>none
  |some ts=>match v with
   | .agg cs=>match nP rows k cs with
    |some cs'=>some (.agg cs'::ts)
    |none=>none
   | .tup cs=>match nP rows k cs with
    |some cs'=>some (.tup cs'::ts)
    |none=>none
   | .osl r ver off n sz b=>match aT rows r ver with
    |some cs=>match nP rows k ((cs.drop off).take (n*sz)) with
     |some l=>if l.length=n*sz then some (.sl b (iQ sz n l)::ts) else none
     |none=>none
    |none=>none
   |v=>if inR aC v=true then some (v::ts) else none
def fY (E:En):En:=⟨E.w,fun b=>E.S b∨∃ r,(E.rows r).live=true∧b=E.ρ r,E.ρ,fun _=>.none⟩
theorem nX (E:En):dX aC E (fY E):=⟨rfl,fun _ h=>.inl h,fun r hr=>(by cases hr),fun r hr=>(by cases hr)⟩
theorem uS {p:Nat→Bool} {sz:Nat}:∀ (n:Nat) (l:List AV),inL p l=true→inE p (iQ sz n l)=true
 |0,l,h=>by simp [iQ,inE]
 |n+1,l,h=>by
  have ht:∀ (k:Nat) (l:List AV),inL p l=true→inL p (l.take k)=true:=fun k=>by
   induction k with
   |zero=>intro l _;simp [inL]
   |succ k ih=>intro l hl;cases l with
    |nil=>simp [inL]
    |cons x l=>simp only [inL,Bool.and_eq_true] at hl;simp only [List.take_succ_cons,inL,Bool.and_eq_true];exact ⟨hl.1,ih l hl.2⟩
  have hd:∀ (k:Nat) (l:List AV),inL p l=true→inL p (l.drop k)=true:=fun k=>by
   induction k with
   |zero=>intro l h;simpa using h
   |succ k ih=>intro l hl;cases l with
    |nil=>simp [inL]
    |cons x l=>simp only [inL,Bool.and_eq_true] at hl;simpa using ih l hl.2
  simp only [iQ,inE,Bool.and_eq_true]
  exact ⟨ht sz l h,uS n _ (hd sz l h)⟩
theorem nH {G:Nat→Option (List AV)} {E:En} (i:Inv G E):∀ (k:Nat) (vs ts:List AV) (us:List Value),nP E.rows k vs=some ts→RelL E vs us→RelL (fY E) ts us∧inL aC ts=true
 |0,_,_,_,h,_=>by cases h
 |k+1,[],ts,us,h,hr=>by
  simp only [nP,Option.some.injEq] at h
  subst h
  exact ⟨by simpa only [RelL] using hr,by simp [inL]⟩
 | k + 1, v :: vs, ts, us, h, hr => by
  simp only [RelL] at hr
  obtain ⟨u,rest,rfl,h1,h2⟩:=hr
  simp only [nP] at h
  split at h
  ·cases h
  rename_i ts' hts
  obtain ⟨r1,r2⟩:=nH i k vs ts' rest hts h2
  have fin:∀ t,Rel (fY E) t u→inR aC t=true→some (t::ts')=some ts→RelL (fY E) ts (u::rest)∧inL aC ts=true:=by
   intro t a b c
   injection c with c
   subst c
   exact ⟨by simp only [RelL];exact ⟨u,rest,rfl,a,r1⟩,by simp only [inL,b,r2,Bool.and_self]⟩
  split at h
  ·rename_i cs
   split at h
   ·rename_i cs' hcs
    simp only [Rel] at h1
    obtain ⟨ws,w1,w2,w3⟩:=h1
    obtain ⟨q1,q2⟩:=nH i k cs cs' ws hcs w2
    exact fin _ (by simp only [Rel];exact ⟨ws,w1,q1,w3⟩) (by simpa only [inR] using q2) h
   ·cases h
  ·rename_i cs
   split at h
   ·rename_i cs' hcs
    simp only [Rel] at h1
    obtain ⟨ws,w1,w2⟩:=h1
    obtain ⟨q1,q2⟩:=nH i k cs cs' ws hcs w2
    exact fin _ (by simp only [Rel];exact ⟨ws,w1,q1⟩) (by simpa only [inR] using q2) h
   ·cases h
  ·rename_i r ver off n sz b
   split at h
   ·rename_i cs hc
    split at h
    ·rename_i l hl
     split at h
     ·rename_i hlen
      obtain ⟨cap,cur,e,rfl,a1,a2,a3,a4,a5⟩:=iI hc h1
      obtain ⟨cur',e',ws,k1,k2,k3,k4,k5⟩:=iE i hc
      have q0:=(k2.drop off).take (n*sz)
      have c1:=(k5.drop off).take (n*sz)
      rw [Nat.zero_add] at c1
      obtain ⟨q1,q2⟩:=nH i k _ l _ hl q0
      obtain ⟨f1,f2,f3⟩:=rN n l hlen
      refine fin _ ?_ (by simp only [inR];exact uS n l q2) h
      simp only [Rel]
      refine ⟨some ⟨E.ρ r,off,none⟩,cap,by rw [f2],by rw [f2];exact a1,a2,by rw [f2];exact a3,by simp,E.ρ r,off,sz,.inr ⟨rfl,.inr ⟨r,?_,rfl⟩⟩,gX (by rw [f1];exact q1) c1 f3⟩
      rw [cT hc];rfl
     ·cases h
    ·cases h
   ·cases h
  ·split at h
   ·rename_i hn
    exact fin v (h1.agree (nX E) hn) hn h
   ·cases h
theorem LA {G:Nat→Option (List AV)} {Ec:En} (hG:∀ g cs,G g=some cs→inL aC cs=true) (i:Inv G Ec) {k N:Nat} (hrows:∀ r,r<k→aG (fun r=>decide (r<k)) (Ec.rows r)=true) {v res:AV} {u:Value}
  (hf:nP (fun r=>if r<k then .dead else Ec.rows r) N [v]=some [res]) (ru:Rel Ec v u):
  ∃ E3:En,E3.w=Ec.w∧ExtK k Ec E3∧Inv G E3∧(∀ r,E3.rows r=if r<k then Ec.rows r else .none)∧Rel E3 res u∧inR aC res=true:=by
 let Em:En:=⟨Ec.w,Ec.S,Ec.ρ,fun r=>if r<k then .dead else Ec.rows r⟩
 have agm:dX (fun _=>true) Ec Em:=⟨rfl,fun _ h=>h,fun r _=>by
  by_cases h:r<k
  ·exact .inr (.inl (by simp [Em,h]))
  ·exact .inl (by simp [Em,h]),fun r _ _=>rfl⟩
 have hml:∀ r,(Em.rows r).live=true→¬ r<k∧(Ec.rows r).live=true:=fun r hr=>by
  by_cases h:r<k
  ·simp [Em,h,ARow.live] at hr
  ·simp only [Em,if_neg h] at hr;exact ⟨h,hr⟩
 have im:Inv G Em:=by
  refine ⟨fun r=>?_,fun r r' h h' hne=>i.inj r r' (hml r h).2 (hml r' h').2 hne,i.sb,fun g cs hg=>?_⟩
  ·have h0:=i.row r
   unfold RowOK at h0 ⊢
   by_cases h:r<k
   ·simp only [Em,if_pos h]
   ·simp only [Em,if_neg h]
    cases hr:Ec.rows r with
    |none=>trivial
    |dead=>trivial
    |cells ver cs=>
     rw [hr] at h0
     obtain ⟨cur,e,vs,a1,a2,a3,a4⟩:=h0
     exact ⟨cur,e,vs,a1,a2,a3.agree agm (b5 cs),a4⟩
    |map ks vs=>
     rw [hr] at h0
     obtain ⟨es,clock,a1,a2,a3,a4,a5⟩:=h0
     exact ⟨es,clock,a1,a2,a3,a4.agree agm (b5 ks),a5.agree agm (b5 vs)⟩
    |iter ks vs l j=>
     rw [hr] at h0
     obtain ⟨mb,es,clock,since,seen,a1,a2,a3,a4,a5,a6,a7,a8,a9⟩:=h0
     exact ⟨mb,es,clock,since,seen,a1,a2,a3,a4,a5,a6,a7.agree agm (b5 ks),a8.agree agm (b5 vs),a9⟩
    |loop st pend fr ps asg body=>
     rw [hr] at h0
     obtain ⟨fn,tm,D,a1,a2,a3⟩:=h0
     exact ⟨fn,tm,D,a1,a2,a3.agree agm (b5 fr)⟩
  ·obtain ⟨vs,a1,a2,a3⟩:=i.glob g cs hg
   exact ⟨vs,a1,a2.agree agm (b5 cs),a3⟩
 have r1:=nH im N [v] [res] [u] hf (by simp only [RelL];exact ⟨u,[],rfl,ru.agree agm (iN v),rfl⟩)
 obtain ⟨r1,r2⟩:=r1
 simp only [RelL] at r1
 obtain ⟨u',rest,he,r1,_⟩:=r1
 injection he with he1 he2
 subst he1
 have hres:inR aC res=true:=by simp only [inL,Bool.and_eq_true] at r2;exact r2.1
 let E3:En:=⟨Ec.w,(fY Em).S,Ec.ρ,fun r=>if r<k then Ec.rows r else .none⟩
 have h3l:∀ r,(E3.rows r).live=true→r<k∧(Ec.rows r).live=true:=fun r hr=>by
  by_cases h:r<k
  ·simp only [E3,if_pos h] at hr;exact ⟨h,hr⟩
  ·simp [E3,h,ARow.live] at hr
 have h3S:∀ b,(∀ r,(Ec.rows r).live=true→Ec.ρ r≠b)→E3.S b→Ec.S b:=fun b hl h=>by
  rcases h with h|⟨r,hr,e⟩
  ·exact h
  ·exact absurd e.symm (hl r (hml r hr).2)
 have ag3:dX (fun r=>decide (r<k)) Ec E3:=⟨rfl,fun _ h=>.inl h,fun r hr=>.inl (by simp only [decide_eq_true_eq] at hr;simp [E3,hr]),fun r _ _=>rfl⟩
 have agG:dX aC Ec E3:=⟨rfl,fun _ h=>.inl h,fun r hr=>(by cases hr),fun r hr=>(by cases hr)⟩
 have agR:dX aC (fY Em) E3:=⟨rfl,fun _ h=>h,fun r hr=>(by cases hr),fun r hr=>(by cases hr)⟩
 have hS3:∀ r,r<k→(Ec.rows r).live=true→¬ Ec.S (Ec.ρ r)→¬ E3.S (Ec.ρ r):=fun r hk hl hn h=>by
  rcases h with h|⟨q,hq,e⟩
  ·exact hn h
  ·obtain ⟨h1,h2⟩:=hml q hq
   exact i.inj r q hl h2 (fun e=>h1 (e ▸ hk)) e
 refine ⟨E3,rfl,?_,?_,fun r=>rfl,r1.agree agR hres,hres⟩
 ·exact ⟨rfl,rfl,rfl,Nat.le_refl _,fun _ h=>.inl h,fun b _ hl=>⟨rfl,h3S b hl⟩,fun r hr h=>by simp only [E3,if_pos hr];exact h,
   fun r hr ver cs h=>.inr ⟨ver,cs,by simp only [E3,if_pos hr];exact h,Nat.le_refl _,fun _=>⟨rfl,fun cur e fz hc=>⟨cur,e,hc,rfl⟩⟩⟩,
   fun r hr h=>.inr ⟨by simp only [E3,if_pos hr];exact h,rfl⟩,fun r hr=>.inl ⟨(h3l r hr).2,rfl⟩⟩
 ·refine ⟨fun r=>?_,fun r r' h h' hne=>i.inj r r' (h3l r h).2 (h3l r' h').2 hne,fun b hb=>?_,fun g cs hg=>?_⟩
  ·by_cases h:r<k
   ·have h0:=i.row r
    have hin:=hrows r h
    unfold RowOK at h0 ⊢
    simp only [E3,if_pos h]
    cases hr:Ec.rows r with
    |none=>trivial
    |dead=>trivial
    |cells ver cs=>
     have hl:(Ec.rows r).live=true:=by rw [hr];rfl
     rw [hr] at h0 hin
     obtain ⟨cur,e,vs,a1,a2,a3,a4⟩:=h0
     exact ⟨cur,e,vs,a1,hS3 r h hl a2,a3.agree ag3 hin,a4⟩
    |map ks vs=>
     have hl:(Ec.rows r).live=true:=by rw [hr];rfl
     rw [hr] at h0 hin
     simp only [aG,Bool.and_eq_true] at hin
     obtain ⟨es,clock,a1,a2,a3,a4,a5⟩:=h0
     exact ⟨es,clock,a1,hS3 r h hl a2,a3,a4.agree ag3 hin.1,a5.agree ag3 hin.2⟩
    |iter ks vs l j=>
     have hl:(Ec.rows r).live=true:=by rw [hr];rfl
     rw [hr] at h0 hin
     simp only [aG,Bool.and_eq_true] at hin
     obtain ⟨mb,es,clock,since,seen,a1,a2,a3,a4,a5,a6,a7,a8,a9⟩:=h0
     exact ⟨mb,es,clock,since,seen,a1,hS3 r h hl a2,.inl a3,a4,a5,a6,a7.agree ag3 hin.1,a8.agree ag3 hin.2,a9⟩
    |loop st pend fr ps asg body=>
     have hl:(Ec.rows r).live=true:=by rw [hr];rfl
     rw [hr] at h0 hin
     obtain ⟨fn,tm,D,a1,a2,a3⟩:=h0
     exact ⟨fn,tm,D,a1,hS3 r h hl a2,a3.agree ag3 hin⟩
   ·unfold RowOK
    simp only [E3,if_neg h]
  ·rcases hb with h|⟨r,hr,rfl⟩
   ·exact i.sb b h
   ·exact (i.live (hml r hr).2).1
  ·obtain ⟨vs,a1,a2,a3⟩:=i.glob g cs hg
   exact ⟨vs,.inl a1,a2.agree agG (hG g cs hg),a3⟩
theorem vS {P:Program} {G:Nat→Option (List AV)} {f:FuncId} {fn:Func} {c:Code} {args:List AV} {H:List ARow} {rows:Nat→ARow} {fp:List Nat} {eff:Eff} (ok:F8 G H rows fp)
  (hf:P.funcs[f]? =some fn) (hb:fn.body=some c) (hgo:eP P f=true) (hn:args.length≤fn.ntmps) (hargs:inL (fun r=>decide (r<H.length)) args=true) (hwr:∀ p∈eff.wr,p.1∈fp) (hfpH:∀ r∈fp,r<H.length)
  (hbody:∀ b:Nat,@AWp ⟨none,some b⟩ P G fn.ntmps H.length c (dR P fn fun v s=>(∃ N,nP (fun r=>if r<H.length then .dead else s.row r) N [v]=some [eff.val])∧(∀ r,r<H.length→aG (fun r=>decide (r<H.length)) (s.row r)=true)∧∀ r∈fp,s.row r=upd rows eff.wr r∧aG (fun r=>fp.contains r) (s.row r)=true) ⟨mkF (aH 0 args),H⟩):
  dH P G f args rows fp eff:=by
 refine ⟨hgo,hwr,fun E us i hE hus=>?_⟩
 obtain ⟨ic,ag,hrow,hcl⟩:=sL ok i hE
 have hlen:=hus.length
 have sim: @Sim ⟨none,some (cut E H).w.heap.size⟩ G fn.ntmps ⟨mkF (aH 0 args),H⟩ (cut E H) { tmps:=us.toArray++Array.replicate (fn.ntmps - us.toArray.size) undef,defers:=[] }:=by
  refine @Sim.mk ⟨none,some (cut E H).w.heap.size⟩ _ _ _ _ _ ic rfl (by simp;omega) (fun t=>?_) DefOK.nilB
  show Rel (cut E H) ((mkF (aH 0 args)).getD t .undef) _
  rw [gA]
  simp only [Nat.zero_le,if_true,Nat.sub_zero]
  rw [List.getD_eq_getElem?_getD]
  cases hx:args[t]? with
  |none=>simp [Rel]
  |some x=>
   obtain ⟨v,h1,h2⟩:=hus.get hx
   have hlt:=(List.getElem?_eq_some_iff.1 h1).1
   have:(us.toArray++Array.replicate (fn.ntmps - us.toArray.size) undef).getD t undef=v:=by
    rw [Array.getD_eq_getD_getElem?,Array.getElem?_append,if_pos (by simpa using hlt)]
    simp only [List.getElem?_toArray,h1,Option.getD_some]
   rw [this]
   have hin:inR (fun r=>decide (r<H.length)) x=true:=by
    have:=jA hargs t
    rw [List.getD_eq_getElem?_getD,hx] at this
    simpa using this
   exact h2.agree ag hin
 refine kX hf hb (wpIn_mono (hbody _ (cut E H) _ sim) ?_)
 rintro e a' w' ⟨s',Ec',rfl,xk,sim',q⟩
 obtain ⟨E2,sim2,xk2,hleave⟩:=qL (P:=P) xk sim'
 have fin:∀ v,cR P fn s'=some v→((∃ N,nP (fun r=>if r<H.length then .dead else s'.row r) N [v]=some [eff.val])∧(∀ r,r<H.length→aG (fun r=>decide (r<H.length)) (s'.row r)=true)∧∀ r∈fp,s'.row r=upd rows eff.wr r∧aG (fun r=>fp.contains r) (s'.row r)=true)→
   ∃ u,(results fn a'.tmps).run P E2.w=.ok u E2.w∧∃ v E',Ending.returned u=.returned v∧E2.w=E'.w∧Rel E' eff.val v∧Ext E E'∧Inv G E'∧E'.rows=upd E.rows eff.wr:=by
  rintro v hv ⟨⟨N,hfz⟩,hrin,hend⟩
  obtain ⟨u,hu,ru⟩:=iG (P:=P) sim2 hv
  obtain ⟨E3,e1,x3,i3,hr3,ru3,hres⟩:=LA (k:=H.length) (N:=N) ok.glob sim2.inv (fun r hr=>by rw [sim2.rows];exact hrin r hr) (by rw [sim2.rows];exact hfz) ru
  obtain ⟨E',c1,c2,c3,c4,c5⟩:=vK ok i hE hwr (xk2.trans x3) i3 (fun r hr=>by rw [hr3,if_pos (hfpH r hr),sim2.rows];exact hend r hr) (jT (p:=aC) (fun r hr=>by cases hr) hres) ru3
  exact ⟨u,hu,u,E',rfl,e1.symm.trans c1,c2,c3,c4,c5⟩
 cases e with
 |normal=>
  obtain ⟨v,h1,h2⟩:=q
  exact hleave fn _ (fin v h1 h2)
 |ret=>
  obtain ⟨v,h1,h2⟩:=q
  exact hleave fn _ (fin v h1 h2)
 |exit id=>exact q.elim
 |goto l=>exact q.elim
 |panic ch=>exact q.elim
 |outgrown=>exact q.elim
theorem wM {P:Program} {G:Nat→Option (List AV)} {f:FuncId} {fn:Func} {c:Code} {args:List AV} {res:AV}
  (hG:∀ g cs,G g=some cs→inL aC cs=true) (hf:P.funcs[f]? =some fn) (hb:fn.body=some c) (hgo:eP P f=true) (hn:args.length≤fn.ntmps) (hargs:inL aC args=true) (hres:inR aC res=true)
  (hbody:∀ b:Nat,@AWp ⟨none,some b⟩ P G fn.ntmps 0 c (dR P fn fun v s=>∃ k,nP s.row k [v]=some [res]) ⟨mkF (aH 0 args),[]⟩):Pure P G f args res:=by
 refine ⟨hres,fun rows=>⟨hgo,by simp,fun E us i hE hus=>?_⟩⟩
 let Ec:En:=⟨E.w,E.S,E.ρ,fun _=>.none⟩
 have agc:dX aC E Ec:=⟨rfl,fun _ h=>h,fun r hr=>(by cases hr),fun r hr=>(by cases hr)⟩
 have ic:Inv G Ec:=by
  refine ⟨fun r=>(by simp [RowOK,Ec]),fun r r' h=>(by cases h),i.sb,fun g cs hg=>?_⟩
  obtain ⟨vs,a1,a2,a3⟩:=i.glob g cs hg
  exact ⟨vs,a1,a2.agree agc (hG g cs hg),a3⟩
 have hlen:=hus.length
 have sim: @Sim ⟨none,some Ec.w.heap.size⟩ G fn.ntmps ⟨mkF (aH 0 args),[]⟩ Ec { tmps:=us.toArray++Array.replicate (fn.ntmps - us.toArray.size) undef,defers:=[] }:=by
  refine @Sim.mk ⟨none,some Ec.w.heap.size⟩ _ _ _ _ _ ic rfl (by simp;omega) (fun t=>?_) DefOK.nilB
  show Rel Ec ((mkF (aH 0 args)).getD t .undef) _
  rw [gA]
  simp only [Nat.zero_le,if_true,Nat.sub_zero]
  rw [List.getD_eq_getElem?_getD]
  cases hx:args[t]? with
  |none=>simp [Rel]
  |some x=>
   obtain ⟨v,h1,h2⟩:=hus.get hx
   have hlt:=(List.getElem?_eq_some_iff.1 h1).1
   have:(us.toArray++Array.replicate (fn.ntmps - us.toArray.size) undef).getD t undef=v:=by
    rw [Array.getD_eq_getD_getElem?,Array.getElem?_append,if_pos (by simpa using hlt)]
    simp only [List.getElem?_toArray,h1,Option.getD_some]
   rw [this]
   have hin:inR aC x=true:=by
    have:=jA hargs t
    rw [List.getD_eq_getElem?_getD,hx] at this
    simpa using this
   exact h2.agree agc hin
 refine kX hf hb (wpIn_mono (hbody _ Ec _ sim) ?_)
 rintro e a' w' ⟨s',Ec0,rfl,xk0,sim0,q⟩
 obtain ⟨Ec',sim',xk,hleave⟩:=qL (P:=P) xk0 sim0
 have fin:∀ v,cR P fn s'=some v→(∃ k,nP s'.row k [v]=some [res])→
   ∃ u,(results fn a'.tmps).run P Ec'.w=.ok u Ec'.w∧∃ v E',Ending.returned u=.returned v∧Ec'.w=E'.w∧Rel E' res v∧Ext E E'∧Inv G E'∧E'.rows=upd E.rows []:=by
  rintro v hv ⟨kk,hk⟩
  obtain ⟨u,hu,ru⟩:=iG (P:=P) sim' hv
  rw [← sim'.rows] at hk
  have rL:=(nH sim'.inv kk [v] [res] [u] hk (by simp only [RelL];exact ⟨u,[],rfl,ru,rfl⟩)).1
  simp only [RelL] at rL
  obtain ⟨u',rest,he,r1,r2⟩:=rL
  injection he with he1 he2
  subst he1
  have hblk:∀ b,b<E.w.heap.size→Ec'.w.heap[b]? =E.w.heap[b]?∧(Ec'.S b→E.S b):=fun b hb=>xk.out b hb fun r hr=>by cases hr
  have hfresh:∀ r,(Ec'.rows r).live=true→E.w.heap.size≤Ec'.ρ r:=fun r hr=>by
   rcases xk.fresh r hr with ⟨h1,_⟩|h1
   ·cases h1
   ·exact h1
  have hS:∀ b,b<E.w.heap.size→(fY Ec').S b→E.S b:=fun b hb h=>by
   rcases h with h|⟨r,hr,rfl⟩
   ·exact (hblk b hb).2 h
   ·exact absurd (hfresh r hr) (by omega)
  have x:Ext E ⟨Ec'.w,(fY Ec').S,E.ρ,E.rows⟩:=by
   refine ⟨xk.os,xk.tape,xk.output,xk.sz,fun b hb=>.inl (xk.sub b hb),fun b hlt hl=>⟨(hblk b hlt).1,hS b hlt⟩,fun q hq=>hq,fun q ver cs hq=>?_,fun q hq=>.inr ⟨hq,rfl⟩,fun q hq=>.inl ⟨hq,rfl⟩⟩
   refine .inr ⟨ver,cs,hq,Nat.le_refl _,fun _=>⟨rfl,fun cur e fz hcur=>⟨cur,e,?_,rfl⟩⟩⟩
   rw [(hblk _ (i.live (by rw [hq];rfl)).1).1]
   exact hcur
  have agf:dX aC (fY Ec') ⟨Ec'.w,(fY Ec').S,E.ρ,E.rows⟩:=⟨rfl,fun _ h=>h,fun r hr=>(by cases hr),fun r hr=>(by cases hr)⟩
  refine ⟨u,hu,u,⟨Ec'.w,(fY Ec').S,E.ρ,E.rows⟩,rfl,rfl,r1.agree agf hres,x,⟨fun q=>?_,fun q q' h h' hne=>i.inj q q' h h' hne,fun b hb=>?_,fun g cs hg=>?_⟩,rfl⟩
  ·cases hl:(E.rows q).live with
   |false=>
    unfold RowOK
    show match E.rows q with|_=>_
    cases hqq:E.rows q with
    |cells=>rw [hqq] at hl;cases hl
    |map=>rw [hqq] at hl;cases hl
    |iter=>rw [hqq] at hl;cases hl
    |loop=>rw [hqq] at hl;cases hl
    |none=>trivial
    |dead=>trivial
   |true=>
    have hlt:=(i.live hl).1
    exact RowOK.ext i x rfl rfl (fun _=>(hblk _ hlt).1) (hS _ hlt) (i.row q)
  ·rcases hb with h|⟨r,hr,rfl⟩
   ·exact sim'.inv.sb b h
   ·exact (sim'.inv.live hr).1
  ·obtain ⟨vs,a1,a2,a3⟩:=sim'.inv.glob g cs hg
   exact ⟨vs,.inl a1,(a2.agree (nX Ec') (hG g cs hg)).agree agf (hG g cs hg),a3⟩
 cases e with
 |normal=>
  obtain ⟨v,h1,h2⟩:=q
  exact hleave fn _ (fin v h1 h2)
 |ret=>
  obtain ⟨v,h1,h2⟩:=q
  exact hleave fn _ (fin v h1 h2)
 |exit id=>exact q.elim
 |goto l=>exact q.elim
 |panic ch=>exact q.elim
 |outgrown=>exact q.elim
section
variable (P:Program) (G:Nat→Option (List AV)) (N:Nat) (T:List (FuncId × List AV × AV)) (K:List FuncId)
def RA:List UInt8→Nat
 | []=>11
 |b::l=>(b.toNat+17*RA l) % 1000003
mutual
def SN:AV→Nat
 | .int _ (.ofNat m)=>(3*m+5) % 1000003
 | .int _ (.negSucc m)=>(7*m+6) % 1000003
 | .bool true=>1
 | .bool false=>2
 | .str s=>RA s.data.toList
 | .agg l=>(31*I0 l+1) % 1000003
 | .tup l=>(37*I0 l+2) % 1000003
 | .sl true l=>(41*PA l+3) % 1000003
 | .sl false l=>(43*PA l+4) % 1000003
 |_=>7
def I0:List AV→Nat
 | []=>7
 |c::cs=>(SN c+13*I0 cs) % 1000003
def PA:List (List AV)→Nat
 | []=>8
 |e::es=>(I0 e+19*PA es) % 1000003
end
def x8 : List (FuncId × List AV × AV) → FuncId → List AV → Option AV
 | [],_,_=>none
 | (g, xs, v) :: T, f, args => match Nat.beq g f with
  |false=>x8 T f args
  |true=>match Nat.beq (I0 xs) (I0 args) with
   |false=>x8 T f args
   |true=>match eqL xs args with
    |true=>some v
    |false=>x8 T f args
theorem pF {P:Program} {G:Nat→Option (List AV)}:∀ {T:List (FuncId × List AV × AV)} {f:FuncId} {args:List AV} {v:AV},(∀ e∈T,Pure P G e.1 e.2.1 e.2.2)→x8 T f args=some v→Pure P G f args v
 | (g, xs, u) :: T, f, args, v, hT, h => by
  simp only [x8] at h
  split at h
  ·exact pF (fun e he=>hT e (List.mem_cons_of_mem _ he)) h
  ·rename_i h1
   split at h
   ·exact pF (fun e he=>hT e (List.mem_cons_of_mem _ he)) h
   split at h
   ·rename_i h2
    injection h with h
    have:=hT (g,xs,u) (List.mem_cons_self ..)
    rw [← h,← Nat.eq_of_beq_eq_true h1,← iP _ _ h2]
    exact this
   ·exact pF (fun e he=>hT e (List.mem_cons_of_mem _ he)) h
def N6 (fn:Func):Exit × AS→Option AV
 |(e,s)=>match cR P fn s with
  |none=>none
  |some v=>match nP s.row 9999 [v] with
   |some [res]=>if uM e=true then some res else none
   |_=>none
def C6 (fn:Func):List (Exit × AS)→Option AV
 | []=>none
 | [p]=>N6 P fn p
 |p::r=>match N6 P fn p,C6 fn r with
  |some a,some b=>if eqA a b=true then some a else none
  |_,_=>none
def LR (f:FuncId) (h:List ARow) (R:List Nat) (e:Exit) (s':AS) (v:AV):Option (AV × List (Nat × ARow)):=
 match nP (fun r=>if r<h.length then .dead else s'.row r) 9999 [v] with
 |some [res]=>if (uM e&& !K.contains f&&R.all (fun r=>decide (r<h.length))&&(List.range h.length).all (fun r=>aG (fun r=>decide (r<h.length)) (s'.row r))&&R.all fun r=>aG (fun r=>R.contains r) (s'.row r))=true then
   some (res,R.map fun r=>(r,s'.row r)) else none
 |_=>none
def jY (cx : fD) (yx : d8) : fD := fun f args h => match x8 T f args with
  |some v=>some (v,[])
  |none=>match P.funcs[f]? with
  |none=>none
  |some fn=>match fn.body with
   |none=>none
   |some c=>
    if (eP P f&&decide (args.length≤fn.ntmps)&&inL aC args&& !K.contains f)=true then
     match exX P G cx yx true N fn.ntmps c ⟨mkF (aH 0 args),[]⟩ with
     |none=>none
     |some L=>match C6 P fn L with
      |some res=>if inR aC res=true then some (res,[]) else none
      |none=>none
    else if (eP P f&&decide (args.length≤fn.ntmps)&&inL (fun r=>decide (r<h.length)) args&&(iH h N (e9 args) []).all fun r=>decide (r<h.length)&&aG (fun r=>decide (r<h.length)) (h.getD r .none))=true then
     match exX P G cx yx true N fn.ntmps c ⟨mkF (aH 0 args),mF (iH h N (e9 args) []) 0 h⟩ with
     |some [(e,s')]=>match cR P fn s' with
      |none=>none
      |some v=>match LR K f h (iH h N (e9 args) []) e s' v with
       |some x=>some x
       |none=>if (uM e&&inR (fun r=>(iH h N (e9 args) []++(List.range s'.h.length).drop h.length).contains r) v&&(iH h N (e9 args) []++(List.range s'.h.length).drop h.length).all fun r=>aG (fun r=>(iH h N (e9 args) []++(List.range s'.h.length).drop h.length).contains r) (s'.row r))=true then
        some (v,(iH h N (e9 args) []++(List.range s'.h.length).drop h.length).map fun r=>(r,s'.row r)) else none
     |_=>none
    else none
def JJ (h:List ARow):AV→Option (Nat × Nat × Nat × Nat × List AV)
 | .osl r ver off n sz false=>match h.getD r .none with
  | .cells v cs=>if (decide (off=0)&&(decide (v=ver)&&decide (cs.length=n*sz)))=true then some (r,ver,n,sz,cs) else none
  |_=>none
 |_=>none
def tC (h:List ARow):List AV→Option (List AV × List AV × Nat × Nat × List AV)
 | []=>none
 |a::as=>match JJ h a with
  |some (r,ver,n,sz,cs)=>some (.osl r ver 0 n sz true::as,.rsl r ver 0 n sz::as,r,ver,cs)
  |none=>match tC h as with
   |some (x,y,q)=>some (a::x,a::y,q)
   |none=>none
def vC:ARow→ARow→Bool
 | .loop .ready none fr _ _ _,.loop .ready none fr' _ _ _=>eqL fr fr'
 | .loop .busy none fr _ _ _,.loop .busy none fr' _ _ _=>eqL fr fr'
 | .loop .done none fr _ _ _,.loop .done none fr' _ _ _=>eqL fr fr'
 | .loop .done (some .ret) fr _ _ _,.loop .done (some .ret) fr' _ _ _=>eqL fr fr'
 |x,y=>lG x y
def pK (ver:Nat) (cs:List AV):ARow→Bool
 | .cells v c=>decide (v=ver)&&eqL (c.take cs.length) cs
 |_=>false
def fW (r ver:Nat) (cs:List AV):List (Nat × ARow)→List (Nat × ARow)→Bool
 | [],[]=>true
 |(q,x)::a,(q',y)::b=>decide (q=q')&&((if q=r then pK ver cs x&&pK ver cs y else vC x y)&&fW r ver cs a b)
 |_,_=>false
def rX (r ver:Nat) (cs:List AV) (wr:List (Nat × ARow)):List (Nat × ARow):=wr.map fun p=>if p.1=r then (r,.cells ver cs) else p
def gN (cx:fD) (yx:d8):fD:=fun f args h=>match jY P G N T K cx yx f args h with
 |some x=>some x
 |none=>if K.contains f=true then jY P G N T [] cx yx f args h else none
def lQ (cx:fD) (yx:d8):fD:=fun f args h=>if K.contains (f+1000000)=true then
  match tC h args with
  |some (a1,a2,r,ver,cs)=>match gN P G N T K cx yx f a1 h,gN P G N T K cx yx f a2 h with
   |some (v1,wr1),some (v2,wr2)=>if (eqA v1 v2&&(fW r ver cs wr1 wr2&&((wr1.map (·.1)).contains r&&(uB (wr1.map (·.1))))))=true then some (v1,rX r ver cs wr1) else none
   |_,_=>none
  |none=>gN P G N T K cx yx f args h
 else gN P G N T K cx yx f args h
def B6 (r:Nat) (jump:Option Code) (fr:List AV) (ps:Array Tmp) (a b:Code) (s:AS):AS:=s.wr [(r,.loop (if jump.isNone then .ready else .done) jump fr ps a b)]
def jO (cx : fD) (yx : d8) : d8 := fun r args h => match h.getD r .none with
 | .loop .ready none fr ps asg body=>
  if (decide (ps.size = args.length) && ps.toList.all (fun t => decide (t < fr.length)) && decide (r < h.length) && inL (fun q => decide (q < h.length)) args && h.all (aG fun q => decide (q < h.length))) = true then
   match exX P G cx yx false N fr.length asg ⟨tN fr (ps.toList.zip args),h⟩ with
   |some [(.normal,s1)]=>match s1.row r with
    | .loop .ready none fr1 ps1 a1 b1=>match exX P G cx yx false N fr.length body (s1.wr [(r,.loop .busy none fr1 ps1 a1 b1)]) with
     |some [(e,s2)]=>match AR e,s2.row r with
      |some jump,.loop .busy none fr2 ps2 a2 b2=>
       if (decide (h.length≤(B6 r jump fr2 ps2 a2 b2 s2).h.length)&&(B6 r jump fr2 ps2 a2 b2 s2).h.all (aG fun q=>decide (q<(B6 r jump fr2 ps2 a2 b2 s2).h.length)))=true then
        some (.bool jump.isNone,(List.range (B6 r jump fr2 ps2 a2 b2 s2).h.length).map fun q=>(q,(B6 r jump fr2 ps2 a2 b2 s2).row q)) else none
      |_,_=>none
     |_=>none
    |_=>none
   |_=>none
  else none
 |_=>none
def pV:Nat→fD × d8
 |0=>(fun _ _ _=>none,fun _ _ _=>none)
 |d+1=>(lQ P G N T K (pV d).1 (pV d).2,jO P G N (pV d).1 (pV d).2)
def LO (d:Nat):fD:=(pV P G N T K d).1
end
theorem cY {p q:Nat→Bool} (h:∀ r,p r=true→q r=true) {x:ARow} (hx:aG p x=true):aG q x=true:=by
 cases x<;>simp only [aG,Bool.and_eq_true] at hx ⊢<;>first|exact cC h hx|exact ⟨cC h hx.1,cC h hx.2⟩
theorem GU {P:Program} {fn:Func} {p:Exit × AS} {res:AV} (h:N6 P fn p=some res):uM p.1=true∧∃ v,cR P fn p.2=some v∧nP p.2.row 9999 [v]=some [res]:=by
 obtain ⟨e,s⟩:=p
 simp only [N6] at h
 split at h
 ·cases h
 rename_i v hv
 split at h
 ·rename_i r hr
  split at h
  ·rename_i he
   injection h with h
   subst h
   exact ⟨he,v,hv,hr⟩
  ·cases h
 ·cases h
theorem C5 {P:Program} {fn:Func}:∀ {L:List (Exit × AS)} {res:AV},C6 P fn L=some res→∀ p∈L,uM p.1=true∧∃ v,cR P fn p.2=some v∧nP p.2.row 9999 [v]=some [res]
 | [],_,_,p,hp=>by cases hp
 | [q],res,h,p,hp=>by
  simp only [C6] at h
  rw [List.mem_singleton.1 hp]
  exact GU h
 | q :: q' :: r, res, h, p, hp => by
  simp only [C6] at h
  split at h
  ·rename_i a b h1 h2
   split at h
   ·rename_i he
    injection h with h
    subst h
    rcases List.mem_cons.1 hp with rfl|hp
    ·exact GU h1
    ·rw [B5 _ _ he]
     exact C5 h2 p hp
   ·cases h
  ·cases h
section
variable {P:Program} {G:Nat→Option (List AV)} {N:Nat} {T:List (FuncId × List AV × AV)} {K:List FuncId}
theorem zQ {cx:fD} {yx:d8} (hG:∀ g cs,G g=some cs→inL aC cs=true) (hm:P.follows .mixedOrders=true) (hc:gU P G cx) (hy:g9 P G yx):g9 P G (jO P G N cx yx):=fun r args h v wr hx=>by
 simp only [jO] at hx
 split at hx
 case h_2=>cases hx
 rename_i fr ps asg body hrow
 split at hx
 case isFalse=>cases hx
 rename_i hck
 simp only [Bool.and_eq_true,decide_eq_true_eq,List.all_eq_true] at hck
 obtain ⟨⟨⟨⟨c1,c2⟩,c3⟩,c4⟩,c5⟩:=hck
 split at hx
 case h_2=>cases hx
 rename_i s1 h1
 split at hx
 case h_2=>cases hx
 rename_i fr1 ps1 a1 b1 hs1
 split at hx
 case h_2=>cases hx
 rename_i e s2 h2
 split at hx
 case h_2=>cases hx
 rename_i jump fr2 ps2 a2 b2 hj hs2
 split at hx
 case isFalse=>cases hx
 rename_i hck2
 simp only [Bool.and_eq_true,decide_eq_true_eq,List.all_eq_true] at hck2
 obtain ⟨d1,d2⟩:=hck2
 injection hx with hx
 obtain ⟨rfl,rfl⟩:=Prod.mk.inj hx
 obtain ⟨s3,hs3⟩:∃ s3,B6 r jump fr2 ps2 a2 b2 s2=s3:=⟨_,rfl⟩
 rw [hs3] at d1 d2 ⊢
 have hrow3:s3.row=upd s2.row [(r,.loop (if jump.isNone then .ready else .done) jump fr2 ps2 a2 b2)]:=by rw [← hs3,B6,AS.row_wr]
 have hmap:((List.range s3.h.length).map fun q=>(q,s3.row q)).map (·.1)=List.range s3.h.length:=by simp [List.map_map,Function.comp_def]
 rw [hmap]
 have hnone:∀ q,h.length≤q→h.getD q .none=.none:=fun q hq=>by rw [List.getD_eq_getElem?_getD,List.getElem?_eq_none hq];rfl
 refine wG (H:=h) (n:=fr.length) ⟨hG,fun _ _=>rfl,fun q hq=>?_,fun q hq=>?_,fun q _ hq=>hnone q hq⟩ hrow (List.mem_range.2 (by omega)) c3 rfl c1 c2 c4 (fun p hp=>?_) fun l=>?_
 ·have:s3.h.length≤q:=by simpa using hq
  rw [hnone q (by omega),if_neg (by omega)]
 ·by_cases hlt:q<h.length
  ·refine c5 _ ?_
   rw [List.getD_eq_getElem?_getD,List.getElem?_eq_getElem hlt]
   exact List.getElem_mem hlt
  ·rw [hnone q (by omega)];rfl
 ·have:p.1∈((List.range s3.h.length).map fun q=>(q,s3.row q)).map (·.1):=List.mem_map.2 ⟨p,hp,rfl⟩
  rwa [hmap] at this
 ·refine @f4 P G cx yx ⟨some l,none⟩ false N _ _ hm (fun h=>by cases h) hc hy asg _ _ _ h1 fun p hp=>?_
  rw [List.mem_singleton.1 hp]
  refine ⟨rfl,fr1,ps1,a1,b1,hs1,@f4 P G cx yx ⟨some l,none⟩ false N _ _ hm (fun h=>by cases h) hc hy body _ _ _ h2 fun p hp=>?_⟩
  rw [List.mem_singleton.1 hp]
  refine ⟨jump,fr2,ps2,a2,b2,hj,hs2,rfl,fun q hq=>⟨?_,?_⟩⟩
  ·rw [m6,if_pos hq,hrow3]
  ·rw [← hrow3]
   have hlt:=List.mem_range.1 hq
   refine cY (p:=fun q=>decide (q<s3.h.length)) (fun q hq=>by simpa using hq) (d2 _ ?_)
   show s3.h.getD q .none∈s3.h
   rw [List.getD_eq_getElem?_getD,List.getElem?_eq_getElem hlt]
   exact List.getElem_mem hlt
theorem rJ {cx:fD} {yx:d8} (hT:∀ e∈T,Pure P G e.1 e.2.1 e.2.2) (hG:∀ g cs,G g=some cs→inL aC cs=true) (hm:P.follows .mixedOrders=true) (hcx:gU P G cx) (hyx:g9 P G yx):gU P G (jY P G N T K cx yx):=fun f args h v wr hc=>by
  simp only [jY] at hc
  split at hc
  ·rename_i u hu
   injection hc with hc
   obtain ⟨rfl,rfl⟩:=Prod.mk.inj hc
   exact (pF hT hu).2 _
  split at hc
  ·cases hc
  rename_i fn hfn
  split at hc
  ·cases hc
  rename_i c hb
  split at hc
  ·rename_i hck
   simp only [Bool.and_eq_true,decide_eq_true_eq] at hck
   obtain ⟨⟨⟨h1,h2⟩,h3⟩,_⟩:=hck
   split at hc
   ·cases hc
   rename_i L hx
   split at hc
   case h_2=>cases hc
   rename_i res hres
   split at hc
   case isFalse=>cases hc
   rename_i hck2
   injection hc with hc
   obtain ⟨rfl,rfl⟩:=Prod.mk.inj hc
   refine (wM hG hfn hb h1 h2 h3 hck2 fun b=>@f4 P G cx yx ⟨none,some b⟩ true N _ _ hm (fun _=>⟨rfl,b,rfl⟩) hcx hyx c _ _ _ hx fun p hp=>?_).2 _
   obtain ⟨q1,u,q2,q3⟩:=C5 hres p hp
   exact vW q1 q2 ⟨9999,q3⟩
  generalize iH h N (e9 args) []=R at hc
  split at hc
  case isFalse=>cases hc
  rename_i hck
  simp only [Bool.and_eq_true,decide_eq_true_eq,List.all_eq_true] at hck
  obtain ⟨⟨⟨h1,h2⟩,h3⟩,h4⟩:=hck
  split at hc
  case h_2=>cases hc
  rename_i e s' hx
  split at hc
  ·cases hc
  rename_i u hu
  split at hc
  ·rename_i x hx2
   injection hc with hc
   subst hc
   unfold LR at hx2
   split at hx2
   case h_2=>cases hx2
   rename_i res hfz
   split at hx2
   case isFalse=>cases hx2
   rename_i hck2
   simp only [Bool.and_eq_true,List.all_eq_true,decide_eq_true_eq,List.mem_range] at hck2
   obtain ⟨⟨⟨⟨h5,_⟩,h6⟩,h7⟩,h8⟩:=hck2
   injection hx2 with hx2
   obtain ⟨rfl,rfl⟩:=Prod.mk.inj hx2
   have hmap:(R.map fun r=>(r,s'.row r)).map (·.1)=R:=by simp [List.map_map,Function.comp_def]
   rw [hmap]
   refine vS (H:=mF R 0 h) ⟨hG,?_,?_,?_,?_⟩ hfn hb h1 h2 ?_ ?_ ?_ fun b=>?_
   ·intro r hr
    rw [hI,Nat.zero_add,if_pos (h6 r hr),if_pos (by simpa using hr)]
   ·intro r hr
    rw [hI,dV,Nat.zero_add]
    by_cases hlt:r<h.length
    ·rw [if_pos hlt,if_pos hlt,if_neg (by simpa using hr)]
    ·rw [if_neg hlt,if_neg hlt]
   ·intro r hr
    rw [dV]
    exact (h4 r hr).2
   ·intro r hr hle
    rw [dV] at hle
    have:=h6 r hr
    omega
   ·rw [dV];exact h3
   ·intro p hp
    have:p.1∈(R.map fun r=>(r,s'.row r)).map (·.1):=List.mem_map.2 ⟨p,hp,rfl⟩
    rw [hmap] at this
    exact this
   ·intro r hr
    rw [dV]
    exact h6 r hr
   ·refine @f4 P G cx yx ⟨none,some b⟩ true N _ _ hm (fun _=>⟨rfl,b,rfl⟩) hcx hyx c _ _ _ hx fun p hp=>?_
    rw [List.mem_singleton.1 hp]
    refine vW h5 hu ⟨⟨9999,by rw [dV];exact hfz⟩,fun r hr=>by rw [dV] at hr ⊢;exact h7 r hr,fun r hr=>⟨?_,h8 r hr⟩⟩
    rw [m6,if_pos hr]
  generalize hfp:R++(List.range s'.h.length).drop h.length=fp at hc
  split at hc
  case isFalse=>cases hc
  rename_i hck2
  simp only [Bool.and_eq_true,List.all_eq_true] at hck2
  obtain ⟨⟨h5,h6⟩,h7⟩:=hck2
  injection hc with hc
  obtain ⟨rfl,rfl⟩:=Prod.mk.inj hc
  have hmap:(fp.map fun r=>(r,s'.row r)).map (·.1)=fp:=by simp [List.map_map,Function.comp_def]
  rw [hmap]
  have hnew:∀ r∈fp,r∈R∨h.length≤r:=by
   intro r hr
   rw [← hfp] at hr
   rcases List.mem_append.1 hr with hr|hr
   ·exact .inl hr
   ·right
    obtain ⟨i,hi⟩:=List.getElem?_of_mem hr
    rw [List.getElem?_drop] at hi
    have:=List.getElem?_eq_some_iff.1 hi
    obtain ⟨hlt,he⟩:=this
    simp at he
    omega
  have hRfp:∀ r∈R,r∈fp:=fun r hr=>by rw [← hfp];exact List.mem_append.2 (.inl hr)
  have hnone:∀ r,h.length≤r→h.getD r .none=.none:=fun r hr=>by rw [List.getD_eq_getElem?_getD,List.getElem?_eq_none hr];rfl
  refine vR (H:=mF R 0 h) ⟨hG,?_,?_,?_,?_⟩ hfn hb h1 h2 ?_ ?_ fun b=>?_
  ·intro r hr
   rw [hI,Nat.zero_add]
   rcases hnew r hr with h8|h8
   ·rw [if_pos (h4 r h8).1,if_pos (by simpa using h8)]
   ·rw [if_neg (by omega),hnone r h8]
  ·intro r hr
   rw [hI,dV,Nat.zero_add]
   by_cases hlt:r<h.length
   ·rw [if_pos hlt,if_pos hlt,if_neg (by simpa using fun hc=>hr (hRfp r hc))]
   ·rw [if_neg hlt,if_neg hlt]
  ·intro r hr
   rw [dV]
   rcases hnew r hr with h8|h8
   ·exact (h4 r h8).2
   ·show aG _ (h.getD r .none)=true
    rw [hnone r h8];rfl
  ·intro r hr hle
   rw [dV] at hle
   exact hnone r hle
  ·rw [dV];exact h3
  ·intro p hp
   have:p.1∈(fp.map fun r=>(r,s'.row r)).map (·.1):=List.mem_map.2 ⟨p,hp,rfl⟩
   rw [hmap] at this
   exact this
  ·refine @f4 P G cx yx ⟨none,some b⟩ true N _ _ hm (fun _=>⟨rfl,b,rfl⟩) hcx hyx c _ _ _ hx fun p hp=>?_
   rw [List.mem_singleton.1 hp]
   refine vW h5 hu ⟨rfl,h6,fun r hr=>⟨?_,h7 r hr⟩⟩
   rw [m6,if_pos hr]
theorem FO {L:List Nat} {h:List ARow} {R:Nat→ARow} (x:LF (fun r=>h.getD r .none) R):LF (fun r=>h.getD r .none) (upd (fun r=>h.getD r .none) (L.map fun r=>(r,R r))):=fun r st pd fr ps a b e=>by
 rw [m6] at e
 split at e
 ·exact x r st pd fr ps a b e
 ·exact ⟨st,pd,fr,e⟩
theorem NC (R:List Nat) (h:List ARow) (m:Nat→List AV):LF (fun r=>h.getD r .none) (fun r=>(mF R 0 h).getD r .none):=fun r st pd fr ps a b e=>by
 simp only [hI,Nat.zero_add] at e
 split at e
 ·split at e
  ·exact ⟨st,pd,fr,e⟩
  ·cases e
 ·cases e
theorem rK {cx:fD} {yx:d8} (hc:LFC cx) (hy:LFY yx):LFC (jY P G N T K cx yx):=fun f args h v wr hx=>by
 simp only [jY] at hx
 split at hx
 ·injection hx with hx
  obtain ⟨rfl,rfl⟩:=Prod.mk.inj hx
  exact LF.refl _
 split at hx
 ·cases hx
 split at hx
 ·cases hx
 rename_i c hb
 split at hx
 ·split at hx
  ·cases hx
  split at hx
  case h_2=>cases hx
  split at hx
  case isFalse=>cases hx
  injection hx with hx
  obtain ⟨rfl,rfl⟩:=Prod.mk.inj hx
  exact LF.refl _
 generalize iH h N (e9 args) []=R at hx
 split at hx
 case isFalse=>cases hx
 split at hx
 case h_2=>cases hx
 rename_i e s' hex
 have hl:LF (fun r=>h.getD r .none) s'.row:=(NC R h (fun _=>[])).trans (gR hc hy c _ _ hex _ (List.mem_cons_self ..))
 split at hx
 ·cases hx
 split at hx
 ·rename_i x hx2
  injection hx with hx
  subst hx
  unfold LR at hx2
  split at hx2
  case h_2=>cases hx2
  split at hx2
  case isFalse=>cases hx2
  injection hx2 with hx2
  obtain ⟨rfl,rfl⟩:=Prod.mk.inj hx2
  exact FO hl
 ·split at hx
  case isFalse=>cases hx
  injection hx with hx
  obtain ⟨rfl,rfl⟩:=Prod.mk.inj hx
  exact FO hl
theorem rO {cx:fD} {yx:d8} (hc:LFC cx) (hy:LFY yx):LFC (gN P G N T K cx yx):=fun f args h v wr hx=>by
 unfold gN at hx
 split at hx
 ·rename_i x he
  injection hx with hx
  subst hx
  exact rK hc hy _ _ _ _ _ he
 ·split at hx
  ·exact rK hc hy _ _ _ _ _ hx
  ·cases hx
theorem EO {cx:fD} {yx:d8} (hT:∀ e∈T,Pure P G e.1 e.2.1 e.2.2) (hG:∀ g cs,G g=some cs→inL aC cs=true) (hm:P.follows .mixedOrders=true) (hcx:gU P G cx) (hyx:g9 P G yx):gU P G (gN P G N T K cx yx):=fun f args h v wr hx=>by
 unfold gN at hx
 split at hx
 ·rename_i x he
  injection hx with hx
  subst hx
  exact rJ hT hG hm hcx hyx _ _ _ _ _ he
 ·split at hx
  ·exact rJ hT hG hm hcx hyx _ _ _ _ _ hx
  ·cases hx
theorem zR {cx:fD} {yx:d8} (hc:LFC cx) (hy:LFY yx):LFY (jO P G N cx yx):=fun r args h v wr hx=>by
 simp only [jO] at hx
 split at hx
 case h_2=>cases hx
 rename_i fr ps asg body hrow
 split at hx
 case isFalse=>cases hx
 split at hx
 case h_2=>cases hx
 rename_i s1 h1
 split at hx
 case h_2=>cases hx
 rename_i fr1 ps1 a1 b1 hs1
 split at hx
 case h_2=>cases hx
 rename_i e s2 h2
 split at hx
 case h_2=>cases hx
 rename_i jump fr2 ps2 a2 b2 hj hs2
 split at hx
 case isFalse=>cases hx
 injection hx with hx
 obtain ⟨rfl,rfl⟩:=Prod.mk.inj hx
 have x1:LF (fun r=>h.getD r .none) s1.row:=gR hc hy asg _ _ h1 _ (List.mem_cons_self ..)
 have x2:LF s1.row (s1.wr [(r,.loop .busy none fr1 ps1 a1 b1)]).row:=by
  rw [AS.row_wr]
  intro q st pd fr' ps' a b e
  rw [eE] at e
  split at e
  ·rename_i hq
   subst hq
   cases e
   exact ⟨_,_,_,hs1⟩
  ·exact ⟨st,pd,fr',e⟩
 have x3:LF (s1.wr [(r,.loop .busy none fr1 ps1 a1 b1)]).row s2.row:=gR hc hy body _ _ h2 _ (List.mem_cons_self ..)
 have x4:LF s2.row (B6 r jump fr2 ps2 a2 b2 s2).row:=by
  rw [B6,AS.row_wr]
  intro q st pd fr' ps' a b e
  rw [eE] at e
  split at e
  ·rename_i hq
   subst hq
   cases e
   exact ⟨_,_,_,hs2⟩
  ·exact ⟨st,pd,fr',e⟩
 exact FO (((x1.trans x2).trans x3).trans x4)
theorem qD {E:En} {h:List ARow}:∀ {args a1 a2:List AV} {r ver:Nat} {cs:List AV} {us:List Value},tC h args=some (a1,a2,r,ver,cs)→h.getD r .none=.cells ver cs∧
  (E.rows r=h.getD r .none→RelL E args us→RelL E a1 us∨RelL E a2 us)
 | [],_,_,_,_,_,_,e=>by simp [tC] at e
 | a :: as, a1, a2, r, ver, cs, us, e => by
  simp only [tC] at e
  split at e
  ·rename_i r' ver' n sz cs' hs
   simp only [Option.some.injEq,Prod.mk.injEq] at e
   obtain ⟨rfl,rfl,rfl,rfl,rfl⟩:=e
   unfold JJ at hs
   split at hs
   ·rename_i r2 v2 off n2 sz2
    split at hs
    ·rename_i v cs2 hrow
     split at hs
     ·rename_i hck
      simp only [Bool.and_eq_true,decide_eq_true_eq] at hck
      simp only [Option.some.injEq,Prod.mk.injEq] at hs
      obtain ⟨rfl,rfl,rfl,rfl,rfl⟩:=hs
      obtain ⟨rfl,rfl,hlen⟩:=hck
      refine ⟨hrow,fun hE hl=>?_⟩
      rw [hrow] at hE
      simp only [RelL] at hl ⊢
      obtain ⟨u,rest,rfl,h1,h2⟩:=hl
      simp only [Rel,hE,RefOK] at h1
      obtain ⟨o,_,h1⟩:=h1
      obtain ⟨cap,cur,e,q1,q2,q3,q4,q5,q6⟩:=h1 trivial
      by_cases hcap:cap=n2
      ·exact .inl ⟨u,rest,rfl,by simp only [Rel,hE,RefOK];exact ⟨o,Nat.le_refl _,fun _=>⟨cap,cur,e,q1,q2,q3,fun _=>hcap,q5,q6⟩⟩,h2⟩
      ·exact .inr ⟨u,rest,rfl,by simp only [Rel,hE,RefOK];exact ⟨o,Nat.le_refl _,fun _=>⟨cap,cur,e,q1,q2,q3,by omega,q5,q6⟩⟩,h2⟩
     ·cases hs
    ·cases hs
   ·cases hs
  ·split at e
   ·rename_i x y q hs
    simp only [Option.some.injEq,Prod.mk.injEq] at e
    obtain ⟨rfl,rfl,rfl⟩:=e
    refine ⟨(qD (E:=E) (us:=[]) hs).1,fun hE hl=>?_⟩
    simp only [RelL] at hl ⊢
    obtain ⟨u,rest,rfl,h1,h2⟩:=hl
    rcases (qD (us:=rest) hs).2 hE h2 with h3|h3
    ·exact .inl ⟨u,rest,rfl,h1,h3⟩
    ·exact .inr ⟨u,rest,rfl,h1,h3⟩
   ·cases e
theorem IH {h:Nat→ARow} {r:Nat} {x y:ARow} (e:vC x y=true) (hx:∀ st pd fr ps a b,x=.loop st pd fr ps a b→∃ st' pd' fr',h r=.loop st' pd' fr' ps a b)
  (hy:∀ st pd fr ps a b,y=.loop st pd fr ps a b→∃ st' pd' fr',h r=.loop st' pd' fr' ps a b):x=y:=by
 unfold vC at e
 split at e
 case h_5=>exact vB e
 all_goals
  obtain ⟨_,_,_,e1⟩:=hx _ _ _ _ _ _ rfl
  obtain ⟨_,_,_,e2⟩:=hy _ _ _ _ _ _ rfl
  rw [e1] at e2
  injection e2 with _ _ _ e3 e4 e5
  rw [iP _ _ e,e3,e4,e5]
theorem rC {r ver:Nat} {cs:List AV}:∀ {a b:List (Nat × ARow)},fW r ver cs a b=true→a.map (·.1)=b.map (·.1)
 | [],[],_=>rfl
 | [],_::_,h=>by simp [fW] at h
 |_::_,[],h=>by simp [fW] at h
 |(q,x)::a,(q',y)::b,h=>by
  simp only [fW,Bool.and_eq_true,decide_eq_true_eq] at h
  simp only [List.map_cons,h.1,rC h.2.2]
theorem uE {r ver:Nat} {cs:List AV}:∀ {a b:List (Nat × ARow)} {R R':Nat→ARow},fW r ver cs a b=true→∀ q,q≠r→(R q=R' q∨vC (R q) (R' q)=true)→upd R a q=upd R' b q∨vC (upd R a q) (upd R' b q)=true
 | [],[],R,R',_,q,_,hq=>hq
 | [],_::_,_,_,h,_,_,_=>by simp [fW] at h
 |_::_,[],_,_,h,_,_,_=>by simp [fW] at h
 |(k,x)::a,(k',y)::b,R,R',h,q,hr,hq=>by
  simp only [fW,Bool.and_eq_true,decide_eq_true_eq] at h
  obtain ⟨rfl,h1,h2⟩:=h
  refine uE (R:=fun r=>if r=k then x else R r) (R':=fun r=>if r=k then y else R' r) h2 q hr ?_
  by_cases hk:q=k
  ·subst hk
   rw [if_neg hr] at h1
   simp only [if_true]
   exact .inr h1
  ·simp only [if_neg hk]
   exact hq
theorem oF {r ver:Nat} {cs:List AV}:∀ {a b:List (Nat × ARow)} {R R':Nat→ARow},fW r ver cs a b=true→(r∈a.map (·.1)∨(pK ver cs (R r)=true∧pK ver cs (R' r)=true))→pK ver cs (upd R a r)=true∧pK ver cs (upd R' b r)=true
 | [],[],R,R',_,h=>by
  rcases h with h|h
  ·cases h
  ·exact h
 | [],_::_,_,_,h,_=>by simp [fW] at h
 |_::_,[],_,_,h,_=>by simp [fW] at h
 | (k, x) :: a, (k', y) :: b, R, R', h, hq => by
  simp only [fW,Bool.and_eq_true,decide_eq_true_eq] at h
  obtain ⟨rfl,h1,h2⟩:=h
  refine oF (R:=fun r=>if r=k then x else R r) (R':=fun r=>if r=k then y else R' r) h2 ?_
  by_cases hk:k=r
  ·subst hk
   rw [if_pos rfl,Bool.and_eq_true] at h1
   simp only [if_true]
   exact .inr h1
  ·have hk2:r≠k:=fun e=>hk e.symm
   simp only [if_neg hk2]
   rcases hq with hq|hq
   ·rcases List.mem_cons.1 hq with e|hq
    ·exact absurd e hk2
    ·exact .inl hq
   ·exact .inr hq
theorem qQ {r ver:Nat} {cs:List AV}:∀ {a:List (Nat × ARow)},(rX r ver cs a).map (·.1)=a.map (·.1)
 | []=>rfl
 |(q,x)::a=>by
  have ih:=qQ (r:=r) (ver:=ver) (cs:=cs) (a:=a)
  unfold rX at ih ⊢
  by_cases hq:q=r
  ·subst hq;simp only [List.map_cons,if_true,ih]
  ·simp only [List.map_cons,if_neg hq,ih]
theorem pU {r ver:Nat} {cs:List AV}:∀ {a:List (Nat × ARow)} {R R':Nat→ARow} (q:Nat),(q≠r→R q=R' q)→(r∈a.map (·.1)∨R r=.cells ver cs)→upd R (rX r ver cs a) q=if q=r then .cells ver cs else upd R' a q
 | [],R,R',q,h,hm=>by
  rcases hm with hm|hm
  ·cases hm
  ·show R q=if q=r then _ else R' q
   by_cases hq:q=r
   ·rw [if_pos hq,hq,hm]
   ·rw [if_neg hq,h hq]
 | (k, x) :: a, R, R', q, h, hm => by
  by_cases hk:k=r
  ·have e:upd R (rX r ver cs ((k,x)::a)) q=upd (fun q=>if q=r then .cells ver cs else R q) (rX r ver cs a) q:=by simp only [rX,List.map_cons,if_pos hk,upd]
   rw [e]
   exact pU (R':=fun q=>if q=k then x else R' q) q (fun hq=>by simp only [if_neg hq,hk,h hq]) (.inr (by simp))
  ·have e:upd R (rX r ver cs ((k,x)::a)) q=upd (fun q=>if q=k then x else R q) (rX r ver cs a) q:=by simp only [rX,List.map_cons,if_neg hk,upd]
   rw [e]
   refine pU (R':=fun q=>if q=k then x else R' q) q (fun hq=>by simp only [h hq]) ?_
   have hk2:r≠k:=fun e=>hk e.symm
   rcases hm with hm|hm
   ·rcases List.mem_cons.1 hm with e|hm
    ·exact absurd e hk2
    ·exact .inl hm
   ·exact .inr (by simp only [if_neg hk2];exact hm)
theorem MV {E:En} (i:Inv G E) {r ver:Nat} {c cs:List AV} (hr:E.rows r=.cells ver c) (hc:c.take cs.length=cs):
  Ext E ⟨E.w,E.S,E.ρ,upd E.rows [(r,.cells ver cs)]⟩∧Inv G ⟨E.w,E.S,E.ρ,upd E.rows [(r,.cells ver cs)]⟩:=by
 have hl:(E.rows r).live=true:=by rw [hr];rfl
 refine fF i E.w E.ρ _ r rfl rfl rfl (Nat.le_refl _) (fun q hq=>⟨by simp [upd,hq],rfl⟩) (fun b hb hne=>rfl)
  (fun h=>by rw [hr] at h;cases h) (fun v c' h=>?_) (fun h=>by rw [hr] at h;cases h) (fun _=>.inl ⟨hl,rfl⟩) fun x=>?_
 ·rw [hr] at h
  injection h with h2 h3
  subst h2
  exact .inr ⟨ver,cs,by simp [upd],Nat.le_refl _,fun _=>⟨rfl,fun cur0 e fz hc=>⟨cur0,e,hc,rfl⟩⟩⟩
 ·have h0:=i.row r
  unfold RowOK at h0 ⊢
  rw [hr] at h0
  obtain ⟨cur0,e,vs0,k1,k2,k3,k4,k5⟩:=h0
  simp only [upd,if_true]
  have k6:=(k3.take cs.length).ext i x
  rw [hc] at k6
  refine ⟨cur0,e,vs0.take cs.length,k1,k2,k6,fun u hu=>k4 u (List.mem_of_mem_take hu),?_⟩
  have hlen:cs.length≤c.length:=by
   have:=congrArg List.length hc
   rw [List.length_take] at this
   omega
  rw [← k5,List.take_take,Nat.min_eq_left hlen]
theorem KZ {ver:Nat} {cs:List AV} {x:ARow} (h:pK ver cs x=true):∃ c,x=.cells ver c∧c.take cs.length=cs:=by
 cases x<;>simp [pK] at h
 obtain ⟨rfl,h⟩:=h
 exact ⟨_,rfl,iP _ _ h⟩
theorem CA {cx:fD} {yx:d8} (hT:∀ e∈T,Pure P G e.1 e.2.1 e.2.2) (hG:∀ g cs,G g=some cs→inL aC cs=true) (hm:P.follows .mixedOrders=true) (hcx:gU P G cx) (hyx:g9 P G yx) (lc:LFC cx) (ly:LFY yx):gU P G (lQ P G N T K cx yx):=fun f args h v wr hc=>by
 have core:=EO (N:=N) (K:=K) hT hG hm hcx hyx
 have lf:=rO (P:=P) (G:=G) (N:=N) (T:=T) (K:=K) lc ly
 simp only [lQ] at hc
 split at hc
 case isFalse=>exact core _ _ _ _ _ hc
 split at hc
 case h_2=>exact core _ _ _ _ _ hc
 rename_i a1 a2 r ver cs hsp
 split at hc
 case h_2=>cases hc
 rename_i v1 wr1 v2 wr2 hc1 hc2
 split at hc
 case isFalse=>cases hc
 rename_i hck
 simp only [Bool.and_eq_true] at hck
 obtain ⟨k1,k2,k3,k4⟩:=hck
 injection hc with hc
 obtain ⟨rfl,rfl⟩:=Prod.mk.inj hc
 have hr1:r∈wr1.map (·.1):=by simpa using k3
 have hkeys:=rC k2
 obtain ⟨b1,b2,b3⟩:=core _ _ _ _ _ hc1
 obtain ⟨d1,d2,d3⟩:=core _ _ _ _ _ hc2
 rw [qQ]
 refine ⟨b1,fun p hp=>?_,fun E us i hr hl=>?_⟩
 ·have:p.1∈(rX r ver cs wr1).map (·.1):=List.mem_map.2 ⟨p,hp,rfl⟩
  rwa [qQ] at this
 ·have hEr:=hr r hr1
  -- after either way, row r is cut back
  have fin:∀ (wr':List (Nat × ARow)),wr'.map (·.1)=wr1.map (·.1)→(∀ R:Nat→ARow,pK ver cs (upd R wr' r)=true)→(∀ q,q≠r→upd E.rows wr' q=upd E.rows wr1 q)→∀ (e:Ending) (w':World),(∃ u E',e=.returned u∧w'=E'.w∧Rel E' v1 u∧Ext E E'∧Inv G E'∧E'.rows=upd E.rows wr')→
    ∃ u E',e=.returned u∧w'=E'.w∧Rel E' v1 u∧Ext E E'∧Inv G E'∧E'.rows=upd E.rows (rX r ver cs wr1):=by
   rintro wr' hk' hcut hoth e w' ⟨u,E',e1,e2,e3,e4,e5,e6⟩
   obtain ⟨c,hc1,hc2⟩:=KZ (hcut E.rows)
   have hx2:=MV e5 (r:=r) (ver:=ver) (c:=c) (cs:=cs) (by rw [e6,hc1]) hc2
   refine ⟨u,⟨E'.w,E'.S,E'.ρ,upd E'.rows [(r,.cells ver cs)]⟩,e1,e2,e3.ext e5 hx2.1,e4.trans hx2.1,hx2.2,?_⟩
   funext q
   rw [pU (R:=E.rows) (R':=E.rows) q (fun _=>rfl) (.inl hr1)]
   show upd E'.rows [(r,.cells ver cs)] q=_
   rw [eE]
   by_cases hq:q=r
   ·rw [if_pos hq,if_pos hq]
   ·rw [if_neg hq,if_neg hq,e6,hoth q hq]
  rcases (qD (us:=us) hsp).2 hEr hl with hl1|hl2
  ·exact (b3 E us i hr hl1).mono fun e w' hh=>fin wr1 rfl (fun R=>(oF (R:=R) (R':=R) k2 (.inl hr1)).1) (fun _ _=>rfl) e w' hh
  ·rw [hkeys] at hr
   have hv:=B5 _ _ k1
   subst hv
   refine (d3 E us i hr hl2).mono fun e w' hh=>fin wr2 hkeys.symm (fun R=>(oF (R:=R) (R':=R) k2 (.inl hr1)).2) (fun q hq=>?_) e w' hh
   by_cases hqk:q∈wr1.map (·.1)
   ·have f1:upd E.rows wr1 q=upd (fun r=>h.getD r .none) wr1 q:=dU _ _ _ _ (hr q (hkeys ▸ hqk))
    have f2:upd E.rows wr2 q=upd (fun r=>h.getD r .none) wr2 q:=dU _ _ _ _ (hr q (hkeys ▸ hqk))
    rw [f1,f2]
    rcases uE (R:=fun r=>h.getD r .none) (R':=fun r=>h.getD r .none) k2 q hq (.inl rfl) with hh|hh
    ·exact hh.symm
    ·exact (IH (h:=fun r=>h.getD r .none) (r:=q) hh (fun st pd fr ps a b e=>lf _ _ _ _ _ hc1 q st pd fr ps a b e) (fun st pd fr ps a b e=>lf _ _ _ _ _ hc2 q st pd fr ps a b e)).symm
   ·rw [eV hqk,eV (hkeys ▸ hqk)]
theorem CB {cx:fD} {yx:d8} (lc:LFC cx) (ly:LFY yx):LFC (lQ P G N T K cx yx):=fun f args h v wr hc=>by
 have lf:=rO (P:=P) (G:=G) (N:=N) (T:=T) (K:=K) lc ly
 simp only [lQ] at hc
 split at hc
 case isFalse=>exact lf _ _ _ _ _ hc
 split at hc
 case h_2=>exact lf _ _ _ _ _ hc
 rename_i a1 a2 r ver cs hsp
 split at hc
 case h_2=>cases hc
 rename_i v1 wr1 v2 wr2 hc1 hc2
 split at hc
 case isFalse=>cases hc
 rename_i hck
 simp only [Bool.and_eq_true] at hck
 obtain ⟨k1,k2,k3,k4⟩:=hck
 injection hc with hc
 obtain ⟨rfl,rfl⟩:=Prod.mk.inj hc
 have hr1:r∈wr1.map (·.1):=by simpa using k3
 intro q st pd fr ps a b e
 rw [pU (R':=fun r=>h.getD r .none) q (fun _=>rfl) (.inl hr1)] at e
 split at e
 ·cases e
 ·exact lf _ _ _ _ _ hc1 q st pd fr ps a b e
theorem EJ (hT:∀ e∈T,Pure P G e.1 e.2.1 e.2.2) (hG:∀ g cs,G g=some cs→inL aC cs=true) (hm:P.follows .mixedOrders=true):∀ d,gU P G (pV P G N T K d).1∧g9 P G (pV P G N T K d).2∧LFC (pV P G N T K d).1∧LFY (pV P G N T K d).2
 |0=>⟨fun f args h v wr hc=>(by cases hc),fun f args h v wr hc=>(by cases hc),fun f args h v wr hc=>(by cases hc),fun f args h v wr hc=>(by cases hc)⟩
 |d+1=>by
  obtain ⟨h1,h2,h3,h4⟩:=EJ hT hG hm d
  exact ⟨CA hT hG hm h1 h2 h3 h4,zQ hG hm h1 h2,CB h3 h4,zR h3 h4⟩
theorem LN (hT:∀ e∈T,Pure P G e.1 e.2.1 e.2.2) (hG:∀ g cs,G g=some cs→inL aC cs=true) (hm:P.follows .mixedOrders=true) (d:Nat):gU P G (LO P G N T K d):=(EJ hT hG hm d).1
end
theorem kF {P:Program} {G:Nat→Option (List AV)} {f:FuncId} {args:List AV} {res:AV} (N d:Nat) (T:List (FuncId × List AV × AV)) (K:List FuncId) (hT:∀ e∈T,Pure P G e.1 e.2.1 e.2.2) (hG:∀ g cs,G g=some cs→inL aC cs=true) (hm:P.follows .mixedOrders=true)
  (hres:inR aC res=true) (h:LO P G N T K d f args []=some (res,[])):Pure P G f args res:=by
 obtain ⟨h1,h2,h3⟩:=LN hT hG hm d f args [] res [] h
 exact ⟨hres,fun rows=>⟨h1,h2,fun E us i _ hl=>h3 E us i (by simp) hl⟩⟩
theorem D9 {P:Program} {G:Nat→Option (List AV)}:∀ e∈([]:List (FuncId × List AV × AV)),Pure P G e.1 e.2.1 e.2.2:=fun e he=>by cases he
end Go.AM
set_option linter.unusedVariables false
set_option linter.unusedSimpArgs false
namespace Go.AM
section
variable {P:Program} {G:Nat→Option (List AV)} {cx:fD} {yx:d8}
def Good [Rnd] (P:Program) (G:Nat→Option (List AV)) (n k:Nat) (c:Code) (Q:Exit→AS→Prop):Nat→AS→Prop
 |0,_=>False
 |m+1,s=>AWp P G n k c (lH (Good P G n k c Q m) Q) s
theorem wU [Rnd] {n k:Nat} {c:Code} {Q:Exit→AS→Prop} {m:Nat} {s:AS} (h:Good P G n k c Q m s):AWp P G n k (.loop c) Q s:=fun E a i=>by
 refine wpIn_mono (Q:=fun e' a' w'=>∃ s2 E',w'=E'.w∧ExtK k E E'∧Sim G n s2 E' a'∧Q e' s2) ?_ ?_
 ·refine wpIn_loop_ghost (fun m a' w'=>∃ s2 E',Good P G n k c Q m s2∧w'=E'.w∧ExtK k E E'∧Sim G n s2 E' a') m ⟨s,E,h,rfl,(Ext.refl _).toK k,i⟩ ?_
  rintro m a' w' ⟨s2,E',hm,rfl,hx,hs⟩
  cases m with
  |zero=>exact hm.elim
  |succ m=>
   refine wpIn_mono (hm E' a' hs) ?_
   rintro e2 a'' w'' ⟨s4,E'',rfl,h2,h3,h4⟩
   cases e2 with
   |normal=>exact ⟨m,Nat.lt_succ_self m,s4,E'',h4,rfl,hx.trans h2,h3⟩
   |exit id=>exact ⟨s4,E'',rfl,hx.trans h2,h3,h4⟩
   |goto l=>exact ⟨s4,E'',rfl,hx.trans h2,h3,h4⟩
   |ret=>exact ⟨s4,E'',rfl,hx.trans h2,h3,h4⟩
   |panic ch=>exact ⟨s4,E'',rfl,hx.trans h2,h3,h4⟩
   |outgrown=>exact ⟨s4,E'',rfl,hx.trans h2,h3,h4⟩
 ·rintro e' a' w' h'
  exact h'
theorem L7 [Rnd] {n k:Nat} {c:Code} {Q:Exit→AS→Prop} {m:Nat} {s s':AS} (r:Ref G n k s s') (h:Good P G n k c Q m s'):Good P G n k c Q m s:=by
 cases m with
 |zero=>exact h.elim
 |succ m=>exact eH r h
end
section
variable {P:Program} {G:Nat→Option (List AV)} {cx:fD} {yx:d8}
end
end Go.AM
set_option linter.unusedVariables false
set_option linter.unusedSimpArgs false
namespace Go.AM
def EG {ι:Type} (R: ι→Prop) (X: ι→Prop):Prop:=∃ i,R i∧X i
section
variable {ι:Type} {R: ι→Prop} {X Y: ι→Prop}
theorem EG.mono (f:∀ i,X i→Y i) (h:EG R X):EG R Y:=by
 obtain ⟨i,a,b⟩:=h
 exact ⟨i,a,f i b⟩
theorem EG.imp {R': ι→Prop} (f:∀ i,R i→R' i) (h:EG R X):EG R' X:=by
 obtain ⟨i,a,b⟩:=h
 exact ⟨i,f i a,b⟩
theorem EG.of (i: ι) (h:R i) (hx:X i):EG R X:=⟨i,h,hx⟩
theorem cV {p:Prop} (hp:p) (h:EG R X):EG R (fun i=>p∧X i):=h.mono fun _ q=>⟨hp,q⟩
theorem bD {b:Bool} (ht:b=true→EG R X) (hf:b=false→EG R Y):EG R (fun i=>(b=true→X i)∧(b=false→Y i)):=by
 cases b with
 |true=>exact (ht rfl).mono fun _ q=>⟨fun _=>q,fun h=>by cases h⟩
 |false=>exact (hf rfl).mono fun _ q=>⟨(fun h=>by cases h),fun _=>q⟩
end
section
variable [Rnd] {P:Program} {G:Nat→Option (List AV)} {n k:Nat} {ι:Type} {R: ι→Prop} {Q: ι→Exit→AS→Prop} {s:AS}
def ContE (P:Program) (G:Nat→Option (List AV)) (n k:Nat) (R: ι→Prop) (y:Code) (Q: ι→Exit→AS→Prop) (K: ι→AS→Prop):Prop:=∀ s,EG R (fun i=>AWp P G n k y (Q i) s)→EG R (fun i=>K i s)
theorem ContE.go {y:Code} {K: ι→AS→Prop} (c:ContE P G n k R y Q K) (h:EG R (fun i=>AWp P G n k y (Q i) s)):EG R (fun i=>K i s):=c s h
def ArmE (P:Program) (G:Nat→Option (List AV)) (n k:Nat) (R: ι→Prop) (y:Code) (Q: ι→Exit→AS→Prop) (s:AS) (X: ι→Prop):Prop:=EG R (fun i=>AWp P G n k y (Q i) s)→EG R X
theorem ArmE.go {y:Code} {X: ι→Prop} (c:ArmE P G n k R y Q s X) (h:EG R (fun i=>AWp P G n k y (Q i) s)):EG R X:=c h
theorem c9 {x y:Code} (h:∀ K: ι→AS→Prop,ContE P G n k R y Q K→EG R (fun i=>AWp P G n k x (lH (K i) (Q i)) s)):EG R (fun i=>AWp P G n k (.seq x y) (Q i) s):=
 (h (fun i=>AWp P G n k y (Q i)) fun _ h=>h).mono fun _ q=>BG q
theorem LL {id:Nat} {c:Code} (h:EG R (fun i=>AWp P G n k c (lA id (Q i)) s)):EG R (fun i=>AWp P G n k (.block id c) (Q i) s):=h.mono fun _ q=>qT q
theorem QE {id:Nat} {ops:Array Oper} (h:EG R (fun i=>aY P G n (fun _=>Q i .normal) (dQ ops) none s)):EG R (fun i=>AWp P G n k (.region id ops false) (Q i) s):=h.mono fun _ q=>BH q
theorem QF {id:Nat} {ops:Array Oper} (hm:P.follows .mixedOrders=true) (hs:fV ops=true) (h:EG R (fun i=>aY P G n (fun m s'=>EH ops m∧Q i .normal s') (dQ ops) (some []) s)):EG R (fun i=>AWp P G n k (.region id ops true) (Q i) s):=h.mono fun _ q=>BK hm hs q
theorem II {c:Operand} {x y:Code} (h:∀ X Y: ι→Prop,ArmE P G n k R x Q s X→ArmE P G n k R y Q s Y→EG R (fun i=>jC (X i) (Y i) (evA G s.get c))):EG R (fun i=>AWp P G n k (.cond c x y) (Q i) s):=by
 refine (h (fun i=>AWp P G n k x (Q i) s) (fun i=>AWp P G n k y (Q i) s) (fun h=>h) (fun h=>h)).mono fun i q=>?_
 unfold jC at q
 split at q
 ·rename_i b hb
  exact pZ hb q.1 q.2
 ·rename_i hb
  exact k8 hb q.1 q.2
 ·exact q.elim
theorem gS {c:Code} {s':AS} (r:Ref G n k s s') (h:EG R (fun i=>AWp P G n k c (Q i) s')):EG R (fun i=>AWp P G n k c (Q i) s):=h.mono fun _ q=>eH r q
theorem Good.succ {c:Code} {Q:Exit→AS→Prop}:∀ {m:Nat} {s:AS},Good P G n k c Q m s→Good P G n k c Q (m+1) s
 |0,_,h=>h.elim
 |m+1,_,h=>iR h fun e s' q=>by
  cases e with
  |normal=>exact Good.succ (m:=m) q
  |_=>exact q
theorem Good.le {c:Code} {Q:Exit→AS→Prop} {m m':Nat} (hm:m≤m') {s:AS} (h:Good P G n k c Q m s):Good P G n k c Q m' s:=by
 induction hm with
 |refl=>exact h
 |step _ ih=>exact ih.succ
theorem fR {α:Type} {c:Code} (fr: α→List (Nat × AV)) (h: α→List ARow) (μ: α→Nat) (x₀: α) (w₀:Ref G n k s ⟨mkF (fr x₀),h x₀⟩)
  (round:∀ x,∀ K: ι→AS→Prop,(∀ s' y,Ref G n k s' ⟨mkF (fr y),h y⟩→μ y< μ x→EG R (fun i=>K i s'))→EG R (fun i=>AWp P G n k c (lH (K i) (Q i)) ⟨mkF (fr x),h x⟩)):EG R (fun i=>AWp P G n k (.loop c) (Q i) s):=by
 have key:∀ m x,μ x=m→∀ s',Ref G n k s' ⟨mkF (fr x),h x⟩→EG R (fun i=>Good P G n k c (Q i) (m+1) s'):=by
  intro m
  induction m using Nat.strongRecOn with
  |_ m ih=>
   intro x hx s' hs'
   refine (round x (fun i s'=>Good P G n k c (Q i) m s') fun s2 y hr hlt=>?_).mono fun i q=>L7 hs' q
   rw [hx] at hlt
   exact (ih (μ y) hlt y rfl s2 hr).mono fun i q=>Good.le (by omega) q
 exact (key (μ x₀) x₀ rfl s w₀).mono fun i q=>wU q
end
section
variable {P:Program} {G:Nat→Option (List AV)} {n:Nat} {d:Option Tmp} {rest:List POp} {m:Option Acc} {s:AS} {ι:Type} {R: ι→Prop} {K: ι→Option Acc→AS→Prop}
theorem LK {op:Op} {want b:Bool} (ht:b=true→EG R (fun i=>aN P G n (K i) d rest m s op want (.bool true))) (hf:b=false→EG R (fun i=>aN P G n (K i) d rest m s op want (.bool false))):EG R (fun i=>aN P G n (K i) d rest m s op want (.bool b)):=by
 cases b with
 |true=>exact ht rfl
 |false=>exact hf rfl
def EC (P:Program) (G:Nat→Option (List AV)) (f:FuncId) (args:List AV) (rows:Nat→ARow) (fp:List Nat) (R:Eff→Prop):Prop:=∃ eff,R eff∧dH P G f args rows fp eff
def EP (P:Program) (G:Nat→Option (List AV)) (f:FuncId) (args:List AV) (R:AV→Prop):Prop:=∃ res,R res∧Pure P G f args res
theorem kW {f:FuncId} {args:List AV} {fp:List Nat} {R':Eff→Prop} (h:EC P G f args s.row fp R') (hk:∀ eff,R' eff→EG R (fun i=>aY P G n (K i) rest (adv m fp (eff.wr.map (·.1))) ((s.wr eff.wr).put d eff.val))):EG R (fun i=>bC P G n (K i) d rest m s f args):=by
 obtain ⟨eff,h1,h2⟩:=h
 exact (hk eff h1).mono fun i q=>⟨eff,fp,h2,q⟩
theorem S7 {f:FuncId} {args:List AV} {R':AV→Prop} (hG:∀ g cs,G g=some cs→inL aC cs=true) (h:EP P G f args R') (hk:∀ v,R' v→EG R (fun i=>aY P G n (K i) rest (adv m [] []) (s.put d v))):EG R (fun i=>bC P G n (K i) d rest m s f args):=by
 obtain ⟨v,h1,h2⟩:=h
 exact (hk v h1).mono fun i q=>bH hG h2 q
theorem f5 {f:FuncId} {args:List AV} {res:AV} (hG:∀ g cs,G g=some cs→inL aC cs=true) (h:Pure P G f args res) (hk:EG R (fun i=>aY P G n (K i) rest (adv m [] []) (s.put d res))):EG R (fun i=>bC P G n (K i) d rest m s f args):=hk.mono fun i q=>bH hG h q
end
section
variable {P:Program} {ι:Type} {R: ι→Prop} {fn:Func} {Rp: ι→AV→AS→Prop} {s:AS}
theorem HG {t:Tmp} (h:fn.results= #[.tmp t]) (hR:EG R (fun i=>Rp i (s.get t) s)):EG R (fun i=>dR P fn (Rp i) .ret s):=hR.mono fun _ q=>aB h q
theorem NQ {t u:Tmp} (h:fn.results= #[.tmp t,.tmp u]) (hR:EG R (fun i=>Rp i (.tup [s.get t,s.get u]) s)):EG R (fun i=>dR P fn (Rp i) .ret s):=hR.mono fun _ q=>eZ h q
end
theorem oK {P:Program} {G:Nat→Option (List AV)} {f:FuncId} {fn:Func} {c:Code} {args:List AV} {R:AV→Prop}
  (hG:∀ g cs,G g=some cs→inL aC cs=true) (hf:P.funcs[f]? =some fn) (hb:fn.body=some c) (hgo:eP P f=true) (hn:args.length≤fn.ntmps)
  (hargs:inL aC args=true) (hres:∀ res,R res→inR aC res=true)
  (hbody:EG R (fun res=>AWp P G fn.ntmps 0 c (dR P fn fun v _=>wk v=res) ⟨mkF (aH 0 args),[]⟩)):EP P G f args R:=by
 obtain ⟨res,h1,h2⟩:=hbody
 exact ⟨res,h1,aU hG hf hb hgo hn hargs (hres res h1) h2⟩
theorem vF {P:Program} {G:Nat→Option (List AV)} {f:FuncId} {fn:Func} {c:Code} {args:List AV} {rows:Nat→ARow} {fp:List Nat} {R:Eff→Prop} (H:List ARow)
  (hG:∀ g cs,G g=some cs→inL aC cs=true) (hf:P.funcs[f]? =some fn) (hb:fn.body=some c) (hgo:eP P f=true) (hn:args.length≤fn.ntmps)
  (hfp:∀ r∈fp,H.getD r .none=rows r) (hdead:∀ r,r ∉ fp→H.getD r .none=if r<H.length then .dead else .none)
  (hargs:inL (fun r=>decide (r<H.length)) args=true) (hrows:∀ r∈fp,aG (fun r=>decide (r<H.length)) (rows r)=true) (hnew:∀ r∈fp,H.length≤r→rows r=.none) (hwr:∀ eff,R eff→∀ p∈eff.wr,p.1∈fp)
  (hbody:EG R (fun eff=>AWp P G fn.ntmps H.length c (dR P fn fun v s=>(v=eff.val∨wk v=eff.val)∧inR (fun r=>fp.contains r) v=true∧∀ r∈fp,s.row r=upd rows eff.wr r∧aG (fun r=>fp.contains r) (s.row r)=true) ⟨mkF (aH 0 args),H⟩)):
  EC P G f args rows fp R:=by
 obtain ⟨eff,h1,h2⟩:=hbody
 exact ⟨eff,h1,cD H hG hf hb hgo hn hfp hdead hargs hrows hnew (hwr eff h1) h2⟩
end Go.AM
