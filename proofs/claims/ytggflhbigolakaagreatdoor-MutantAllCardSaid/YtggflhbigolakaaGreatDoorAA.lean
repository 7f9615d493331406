import Derived.WalkKit
import GoSem.ClaimData
import Derived.ChangeKeysEq
import Derived.Laws.BytesString
import Derived.Great.BuildSlice
import Derived.Deep.LoopGhost
import Derived.Sort.LoopGhostIn
import Derived.TacticsIn
import Derived.RangeFuncLeaves
import Derived.RangeFuncRecord
import Derived.RangeFuncSeq
set_option linter.unusedVariables false
set_option linter.unusedSimpArgs false
theorem aa:type_of% @And.intro:=@And.intro
theorem ja:type_of% @Array.ext':=@Array.ext'
theorem dt:type_of% @Array.getD_eq_getD_getElem?:=@Array.getD_eq_getD_getElem?
theorem jp:type_of% @Array.getElem?_append:=@Array.getElem?_append
theorem d6:type_of% @Array.getElem?_eq_getElem:=@Array.getElem?_eq_getElem
theorem cq:type_of% @Array.getElem?_eq_some_iff:=@Array.getElem?_eq_some_iff
theorem io:type_of% @Array.getElem?_replicate:=@Array.getElem?_replicate
theorem jj:type_of% @Array.getElem?_setIfInBounds:=@Array.getElem?_setIfInBounds
theorem ae:type_of% @Bool.and_eq_true:=@Bool.and_eq_true
theorem da:type_of% @Bool.and_false:=@Bool.and_false
theorem ai:type_of% @Bool.and_self:=@Bool.and_self
theorem ab:type_of% @Bool.and_true:=@Bool.and_true
theorem dl:type_of% @Bool.false_and:=@Bool.false_and
theorem aw:type_of% @Bool.false_eq_true:=@Bool.false_eq_true
theorem ej:type_of% @Bool.false_or:=@Bool.false_or
theorem be:type_of% @Bool.not_false:=@Bool.not_false
theorem bf:type_of% @Bool.not_true:=@Bool.not_true
theorem eg:type_of% @Bool.or_eq_true:=@Bool.or_eq_true
theorem ia:type_of% @Bool.or_false:=@Bool.or_false
theorem jf:type_of% @Bool.or_true:=@Bool.or_true
theorem ac:type_of% @Bool.true_and:=@Bool.true_and
theorem gz:type_of% @Bool.true_or:=@Bool.true_or
theorem iz:type_of% @ByteArray.size_extract:=@ByteArray.size_extract
theorem jm:type_of% @Int.cast_ofNat_Int:=@Int.cast_ofNat_Int
theorem ax:type_of% @Int.toNat_natCast:=@Int.toNat_natCast
theorem dc:type_of% @Int.toNat_of_nonneg:=@Int.toNat_of_nonneg
theorem bg:type_of% @List.all_cons:=@List.all_cons
theorem cl:type_of% @List.all_eq_true:=@List.all_eq_true
theorem bz:type_of% @List.all_nil:=@List.all_nil
theorem bj:type_of% @List.append_assoc:=@List.append_assoc
theorem iv:type_of% @List.append_eq_nil_iff:=@List.append_eq_nil_iff
theorem br:type_of% @List.append_nil:=@List.append_nil
theorem de:type_of% @List.cons.injEq:=@List.cons.injEq
theorem ar:type_of% @List.cons_append:=@List.cons_append
theorem ji:type_of% @List.drop_drop:=@List.drop_drop
theorem cg:type_of% @List.drop_eq_getElem_cons:=@List.drop_eq_getElem_cons
theorem dz:type_of% @List.drop_eq_nil_of_le:=@List.drop_eq_nil_of_le
theorem du:type_of% @List.drop_length:=@List.drop_length
theorem fo:type_of% @List.drop_succ_cons:=@List.drop_succ_cons
theorem co:type_of% @List.drop_zero:=@List.drop_zero
theorem cu:type_of% @List.eq_nil_of_length_eq_zero:=@List.eq_nil_of_length_eq_zero
theorem ig:type_of% @List.flatMap_cons:=@List.flatMap_cons
theorem gv:type_of% @List.flatMap_nil:=@List.flatMap_nil
theorem ei:type_of% @List.flatten_append:=@List.flatten_append
theorem cw:type_of% @List.flatten_cons:=@List.flatten_cons
theorem ey:type_of% @List.flatten_nil:=@List.flatten_nil
theorem gr:type_of% @List.foldl_cons:=@List.foldl_cons
theorem iu:type_of% @List.getD_cons_succ:=@List.getD_cons_succ
theorem bc:type_of% @List.getD_eq_getElem?_getD:=@List.getD_eq_getElem?_getD
theorem eo:type_of% @List.getElem?_append_left:=@List.getElem?_append_left
theorem gt:type_of% @List.getElem?_cons_succ:=@List.getElem?_cons_succ
theorem fw:type_of% @List.getElem?_cons_zero:=@List.getElem?_cons_zero
theorem ah:type_of% @List.getElem?_eq_getElem:=@List.getElem?_eq_getElem
theorem d5:type_of% @List.getElem?_eq_none:=@List.getElem?_eq_none
theorem aq:type_of% @List.getElem?_eq_some_iff:=@List.getElem?_eq_some_iff
theorem bh:type_of% @List.getElem?_map:=@List.getElem?_map
theorem je:type_of% @List.getElem?_of_mem:=@List.getElem?_of_mem
theorem jd:type_of% @List.getElem?_set_ne:=@List.getElem?_set_ne
theorem ib:type_of% @List.getElem?_set_self:=@List.getElem?_set_self
theorem ep:type_of% @List.getElem?_take:=@List.getElem?_take
theorem ii:type_of% @List.getElem?_toArray:=@List.getElem?_toArray
theorem an:type_of% @List.length_append:=@List.length_append
theorem af:type_of% @List.length_cons:=@List.length_cons
theorem ik:type_of% @List.length_drop:=@List.length_drop
theorem bp:type_of% @List.length_map:=@List.length_map
theorem ak:type_of% @List.length_nil:=@List.length_nil
theorem fh:type_of% @List.length_pos_iff:=@List.length_pos_iff
theorem ef:type_of% @List.length_set:=@List.length_set
theorem am:type_of% @List.length_singleton:=@List.length_singleton
theorem cr:type_of% @List.length_take:=@List.length_take
theorem dq:type_of% @List.map_append:=@List.map_append
theorem fg:type_of% @List.map_congr_left:=@List.map_congr_left
theorem ay:type_of% @List.map_cons:=@List.map_cons
theorem gn:type_of% @List.map_map:=@List.map_map
theorem bu:type_of% @List.map_nil:=@List.map_nil
theorem bo:type_of% @List.mem_append:=@List.mem_append
theorem gu:type_of% @List.mem_append_left:=@List.mem_append_left
theorem gm:type_of% @List.mem_append_right:=@List.mem_append_right
theorem bn:type_of% @List.mem_cons:=@List.mem_cons
theorem dn:type_of% @List.mem_cons_of_mem:=@List.mem_cons_of_mem
theorem cy:type_of% @List.mem_cons_self:=@List.mem_cons_self
theorem cf:type_of% @List.mem_map:=@List.mem_map
theorem aj:type_of% @List.mem_of_getElem?:=@List.mem_of_getElem?
theorem fx:type_of% @List.mem_of_mem_take:=@List.mem_of_mem_take
theorem gg:type_of% @List.mem_range:=@List.mem_range
theorem bd:type_of% @List.mem_singleton:=@List.mem_singleton
theorem ba:type_of% @List.nil_append:=@List.nil_append
theorem jh:type_of% @List.not_mem_nil:=@List.not_mem_nil
theorem dw:type_of% @List.singleton_append:=@List.singleton_append
theorem dh:type_of% @List.take_add_one:=@List.take_add_one
theorem jg:type_of% @List.take_left:=@List.take_left
theorem bi:type_of% @List.take_length:=@List.take_length
theorem bx:type_of% @List.take_of_length_le:=@List.take_of_length_le
theorem di:type_of% @List.take_succ_cons:=@List.take_succ_cons
theorem ci:type_of% @List.take_zero:=@List.take_zero
theorem eh:type_of% @Nat.add_mul:=@Nat.add_mul
theorem cj:type_of% @Nat.add_sub_cancel:=@Nat.add_sub_cancel
theorem fy:type_of% @Nat.add_zero:=@Nat.add_zero
theorem jo:type_of% @Nat.eq_of_beq_eq_true:=@Nat.eq_of_beq_eq_true
theorem ap:type_of% @Nat.le_refl:=@Nat.le_refl
theorem dj:type_of% @Nat.le_trans:=@Nat.le_trans
theorem jk:type_of% @Nat.lt_of_lt_of_le:=@Nat.lt_of_lt_of_le
theorem jc:type_of% @Nat.lt_succ_iff_lt_or_eq:=@Nat.lt_succ_iff_lt_or_eq
theorem jn:type_of% @Nat.min_eq_left:=@Nat.min_eq_left
theorem jb:type_of% @Nat.mod_eq_of_lt:=@Nat.mod_eq_of_lt
theorem bm:type_of% @Nat.not_lt_zero:=@Nat.not_lt_zero
theorem dm:type_of% @Nat.sub_zero:=@Nat.sub_zero
theorem cp:type_of% @Nat.zero_add:=@Nat.zero_add
theorem az:type_of% @Nat.zero_le:=@Nat.zero_le
theorem fv:type_of% @Option.bind_eq_some_iff:=@Option.bind_eq_some_iff
theorem ij:type_of% @Option.bind_some:=@Option.bind_some
theorem eu:type_of% @Option.getD_some:=@Option.getD_some
theorem au:type_of% @Option.ite_none_right_eq_some:=@Option.ite_none_right_eq_some
theorem bw:type_of% @Option.map_eq_some_iff:=@Option.map_eq_some_iff
theorem dv:type_of% @Option.map_some:=@Option.map_some
theorem ir:type_of% @Option.some.inj:=@Option.some.inj
theorem ao:type_of% @Option.some.injEq:=@Option.some.injEq
theorem ft:type_of% @Prod.mk.inj:=@Prod.mk.inj
theorem db:type_of% @Prod.mk.injEq:=@Prod.mk.injEq
namespace Go.AM
inductive AV where
 |undef
 |bool (b:Bool)
 |int (k:IntKind) (n:Int)
 |str (s:ByteArray)
 |agg (cs:List AV)
 |tup (vs:List AV)
 |sl (full:Bool) (es:List (List AV))
 |osl (r ver off n sz:Nat) (full:Bool)
 |rsl (r ver off n sz:Nat)
 |rsv (r:Nat)
 |ptr (r ver off:Nat)
 |imm (cs:List AV)
 |nilptr
 |mp (ks vs:List AV)
 |omp (r:Nat)
 |fn (f:Fn) (first cap:List AV)
 |yld (r:Nat)
 |nilfn
 |iface (t:TypeId) (v:AV)
 |niliface
 |anyb
 deriving Inhabited
inductive ARow where
 |none
 |dead
 |cells (ver:Nat) (cs:List AV)
 |map (ks vs:List AV)
 |iter (ks vs:List AV) (left:List Nat) (last:Nat)
 |loop (st:LoopState) (pend:Option Code) (fr:List AV) (ps:Array Tmp) (assign body:Code)
 deriving Inhabited
def ARow.live:ARow->Bool
 | .cells .. | .map .. | .iter .. | .loop .. =>true
 |_=>false
def ARow.obj:ARow->Bool
 | .map .. | .iter .. | .loop .. =>true
 |_=>false
def LJ (es:Array MapEntry) (clock:Nat):Prop:=(∀ e∈es.toList,e.born<clock)/\(es.toList.map (·.born)).Nodup
structure En where
 w:World
 S:Nat->Prop
 ρ:Nat->Nat
 rows:Nat->ARow
def RefOK (row:ARow) (ver:Nat) (p:Prop):Prop:=
 match row with
 | .none=>False
 | .dead=>True
 | .cells c _=>ver<=c/\(ver=c->p)
 |_=>ver=0/\p
def CellsAt (w:World) (b off:Nat) (vs:List Value):Prop:=
 (∀ j u,vs[j]? =some u->w.cell? ⟨b,off+j,none⟩=some u)/\∀ u∈vs,u.oneCell'=true
mutual
def Rel (E:En):AV->Value->Prop
 | .undef,_=>True
 | .bool b,v=>v=.bool b
 | .int k n,v=>v=.int k n
 | .str s,v=>v=.string s
 | .agg cs,v=>∃ vs:List Value,v=.agg vs.toArray/\RelL E cs vs/\∀ u∈vs,u.oneCell'=true
 | .tup cs,v=>∃ vs:List Value,v=.tuple vs.toArray/\RelL E cs vs
 | .sl full es,v=>∃ p cap,v=.slice p es.length cap/\es.length<=cap/\cap<=maxLen/\(full=true->cap=es.length)/\(p=none->cap=0)/\
   ∃ b off sz,(es=[]\/(p=some ⟨b,off,none⟩/\E.S b))/\RelE E es b off sz
 | .osl r ver off n sz full,v=>v.oneCell'=true/\RefOK (E.rows r) ver (∃ cap cur e,v=.slice (some ⟨E.ρ r,off,none⟩) n cap/\n<=cap/\cap<=maxLen/\(full=true->cap=n)/\
   E.w.heap[E.ρ r]? =some (.cells cur e (0,0))/\off+cap*sz<=cur.size)
 | .rsl r ver off n sz,v=>v.oneCell'=true/\RefOK (E.rows r) ver (∃ cap cur e,v=.slice (some ⟨E.ρ r,off,none⟩) n cap/\n<=cap/\cap<=maxLen/\n+1<=cap/\
   E.w.heap[E.ρ r]? =some (.cells cur e (0,0))/\off+cap*sz<=cur.size)
 | .rsv _,v=>∃ p,v=.slice p 0 0
 | .ptr r ver off,v=>v.oneCell'=true/\RefOK (E.rows r) ver (v=.pointer (some ⟨E.ρ r,off,none⟩))
 | .imm cs,v=>∃ b off vs,v=.pointer (some ⟨b,off,none⟩)/\E.S b/\RelL E cs vs/\CellsAt E.w b off vs
 | .nilptr,v=>v=.pointer none
 | .mp ks vs,v=>(ks=[]/\vs=[]/\v=.map none)\/∃ b es clock,v=.map (some b)/\E.S b/\E.w.heap[b]? =some (.map es clock)/\LJ es clock/\
   ∃ el:List MapEntry,el.Perm es.toList/\RelL E ks (el.map (·.key))/\RelL E vs (el.map (·.val))
 | .omp r,v=>v.oneCell'=true/\RefOK (E.rows r) 0 (v=.map (some (E.ρ r)))
 | .yld r,v=>v.oneCell'=true/\RefOK (E.rows r) 0 (v=.func (.yield (E.ρ r)) #[] #[])
 | .fn f first cap,v=>∃ a b:List Value,v=.func f a.toArray b.toArray/\RelL E first a/\RelL E cap b
 | .nilfn,v=>v=.nilFunc
 | .iface t x,v=>∃ u,v=.iface t u/\Rel E x u
 | .niliface,v=>v=.nilIface
 | .anyb,v=>∃ b,v=.bool b
def RelL (E:En):List AV->List Value->Prop
 | [],vs=>vs=[]
 |c::cs,vs=>∃ v rest,vs=v::rest/\Rel E c v/\RelL E cs rest
def RelE (E:En):List (List AV)->Nat->Nat->Nat->Prop
 | [],_,_,_=>True
 |e::es,b,off,sz=>(e.length=sz/\∃ vs,RelL E e vs/\CellsAt E.w b off vs)/\RelE E es b (off+sz) sz
end
theorem RelL.length {E:En}:∀ {cs:List AV} {vs:List Value},RelL E cs vs->vs.length=cs.length
 | [],_,h=>by simp only [RelL] at h;simp [h]
 |c::cs,_,h=>by
  simp only [RelL] at h
  obtain ⟨v,rest,rfl,_,h2⟩:=h
  simp [RelL.length h2]
theorem RelL.get {E:En}:∀ {cs:List AV} {vs:List Value},RelL E cs vs->∀ {i:Nat} {c:AV},cs[i]? =some c->∃ v,vs[i]? =some v/\Rel E c v
 | [],_,_,i,c,hi=>by simp at hi
 |x::cs,_,h,i,c,hi=>by
  simp only [RelL] at h
  obtain ⟨v,rest,rfl,h1,h2⟩:=h
  cases i with
  |zero=>simp at hi;subst hi;exact ⟨v,rfl,h1⟩
  |succ i=>simp at hi;simpa using RelL.get h2 hi
theorem RelL.mk {E:En}:∀ {cs:List AV} {vs:List Value},vs.length=cs.length->(∀ (i:Nat) (c:AV) (v:Value),cs[i]? =some c->vs[i]? =some v->Rel E c v)->RelL E cs vs
 | [],vs,h,_=>by simp only [RelL];exact cu (by simpa using h)
 |c::cs,[],h,_=>by simp at h
 |c::cs,v::vs,h,g=>by
  simp only [RelL]
  exact ⟨v,vs,rfl,g 0 c v rfl rfl,RelL.mk (by simpa using h) fun i c' v' h1 h2=>g (i+1) c' v' (by simpa using h1) (by simpa using h2)⟩
theorem RelL.append {E:En}:∀ {a b:List AV} {u v:List Value},RelL E a u->RelL E b v->RelL E (a++b) (u++v)
 | [],_,_,_,h,g=>by simp only [RelL] at h;subst h;simpa using g
 |x::a,_,_,_,h,g=>by
  simp only [RelL] at h
  obtain ⟨y,r,rfl,h1,h2⟩:=h
  simp only [ar,RelL]
  exact ⟨y,_,rfl,h1,RelL.append h2 g⟩
theorem RelL.take {E:En}:∀ {a:List AV} {u:List Value} (n:Nat),RelL E a u->RelL E (a.take n) (u.take n)
 |_,_,0,_=>by simp [RelL]
 | [],_,n+1,h=>by simp only [RelL] at h;subst h;simp [RelL]
 |x::a,_,n+1,h=>by
  simp only [RelL] at h
  obtain ⟨y,r,rfl,h1,h2⟩:=h
  simp only [di,RelL]
  exact ⟨y,_,rfl,h1,RelL.take n h2⟩
theorem RelL.drop {E:En}:∀ {a:List AV} {u:List Value} (n:Nat),RelL E a u->RelL E (a.drop n) (u.drop n)
 |_,_,0,h=>by simpa using h
 | [],_,n+1,h=>by simp only [RelL] at h;subst h;simp [RelL]
 |x::a,_,n+1,h=>by
  simp only [RelL] at h
  obtain ⟨y,r,rfl,h1,h2⟩:=h
  simpa using RelL.drop n h2
theorem RelE.get {E:En} {b sz:Nat}:∀ {es:List (List AV)} {off:Nat},RelE E es b off sz->∀ {i:Nat} {e:List AV},es[i]? =some e->
  e.length=sz/\∃ vs,RelL E e vs/\CellsAt E.w b (off+i*sz) vs
 | [],_,_,_,_,hi=>by simp at hi
 |x::es,off,h,i,e,hi=>by
  simp only [RelE] at h
  cases i with
  |zero=>simp at hi;subst hi;simpa using h.1
  |succ i=>
   simp at hi
   have:=RelE.get h.2 hi
   rw [show off+(i+1)*sz=off+sz+i*sz by rw [eh];omega]
   exact this
theorem RelE.drop {E:En} {b sz:Nat}:∀ {es:List (List AV)} {off:Nat} (n:Nat),RelE E es b off sz->RelE E (es.drop n) b (off+n*sz) sz
 |_,_,0,h=>by simpa using h
 | [],_,n+1,_=>by simp [RelE]
 |x::es,off,n+1,h=>by
  simp only [RelE] at h
  simp only [fo]
  have:=RelE.drop n h.2
  rw [show off+(n+1)*sz=off+sz+n*sz by rw [eh];omega]
  exact this
theorem RelE.take {E:En} {b sz:Nat}:∀ {es:List (List AV)} {off:Nat} (n:Nat),RelE E es b off sz->RelE E (es.take n) b off sz
 |_,_,0,_=>by simp [RelE]
 | [],_,n+1,_=>by simp [RelE]
 |x::es,off,n+1,h=>by
  simp only [RelE] at h
  simp only [di,RelE]
  exact ⟨h.1,RelE.take n h.2⟩
theorem RelE.mk {E:En} {b sz:Nat}:∀ {es:List (List AV)} {off:Nat},(∀ i e,es[i]? =some e->e.length=sz/\∃ vs,RelL E e vs/\CellsAt E.w b (off+i*sz) vs)->RelE E es b off sz
 | [],_,_=>by simp [RelE]
 |x::es,off,h=>by
  simp only [RelE]
  refine ⟨by simpa using h 0 x rfl,RelE.mk fun i e hi=>?_⟩
  have:=h (i+1) e (by simpa using hi)
  rw [show off+(i+1)*sz=off+sz+i*sz by rw [eh];omega] at this
  exact this
theorem RelE.flat {E:En} {b sz:Nat}:∀ {es:List (List AV)} {off:Nat},RelE E es b off sz->∃ vs,RelL E es.flatten vs/\CellsAt E.w b off vs/\vs.length=es.length*sz
 | [],_,_=>⟨[],by simp [RelL],⟨by simp,by simp⟩,by simp⟩
 |x::es,off,h=>by
  simp only [RelE] at h
  obtain ⟨⟨hl,us,hu,hc⟩,h2⟩:=h
  obtain ⟨vs,hv,hd,hn⟩:=RelE.flat h2
  have hul:=hu.length
  refine ⟨us++vs,by simpa using hu.append hv,⟨fun j u hj=>?_,fun u hm=>?_⟩,by simp [hn,hul,hl,eh];omega⟩
  .rw [List.getElem?_append] at hj
   split at hj
   .exact hc.1 j u hj
   .rename_i hge
    have:=hd.1 _ u hj
    rw [show off+sz+(j - us.length)=off+j by omega] at this
    exact this
  .rcases bo.1 hm with hm|hm
   .exact hc.2 u hm
   .exact hd.2 u hm
structure Ext (E E':En):Prop where
 os:E'.w.os=E.w.os
 tape:E'.w.tape=E.w.tape
 output:E'.w.output=E.w.output
 sz:E.w.heap.size<=E'.w.heap.size
 sub:∀ b,E.S b->E'.S b
 out:∀ b,b<E.w.heap.size->(∀ r,(E.rows r).live=true->E.ρ r≠b)->E'.w.heap[b]? =E.w.heap[b]?/\(E'.S b->E.S b)
 dead:∀ r,E.rows r=.dead->E'.rows r=.dead
 cells:∀ r ver cs,E.rows r=.cells ver cs->E'.rows r=.dead\/∃ ver' cs',E'.rows r=.cells ver' cs'/\ver<=ver'/\(ver=ver'->E'.ρ r=E.ρ r/\
  ∀ cur e fz,E.w.heap[E.ρ r]? =some (.cells cur e fz)->∃ cur' e',E'.w.heap[E.ρ r]? =some (.cells cur' e' fz)/\cur'.size=cur.size)
 map:∀ r,(E.rows r).obj=true->E'.rows r=.dead\/((E'.rows r).obj=true/\E'.ρ r=E.ρ r)
 fresh:∀ r,(E'.rows r).live=true->((E.rows r).live=true/\E'.ρ r=E.ρ r)\/E.w.heap.size<=E'.ρ r
def RowOK (E:En) (r:Nat):Prop:=
 match E.rows r with
 | .none| .dead=>True
 | .cells _ cs=>∃ cur e vs,E.w.heap[E.ρ r]? =some (.cells cur e (0,0))/\¬ E.S (E.ρ r)/\RelL E cs vs/\(∀ u∈vs,u.oneCell'=true)/\cur.toList.take cs.length=vs
 | .map ks vs=>∃ es clock,E.w.heap[E.ρ r]? =some (.map es clock)/\¬ E.S (E.ρ r)/\LJ es clock/\RelL E ks (es.toList.map (·.key))/\RelL E vs (es.toList.map (·.val))
 | .iter ks vs left last=>∃ mb es clock since seen,E.w.heap[E.ρ r]? =some (.mapIter (some mb) since seen clock)/\¬ E.S (E.ρ r)/\E.S mb/\E.w.heap[mb]? =some (.map es clock)/\LJ es clock/\
   since=clock/\RelL E ks (es.toList.map (·.key))/\RelL E vs (es.toList.map (·.val))/\left.Nodup/\
   (∀ (j:Nat) (e:MapEntry),es[j]? =some e->(j∈left↔ ¬ e.born∈seen))/\(∀ j∈left,j<es.size)/\(∀ stamp,seen.back? =some stamp->∃ e,es[last]? =some e/\e.born=stamp)
 | .loop st pend fr ps asg body=>∃ fn tm D,E.w.heap[E.ρ r]? =some (.loop { state:=st,pending:=pend,fn,tmps:=tm,params:=ps,assign:=asg,body,defers:=D })/\¬ E.S (E.ρ r)/\RelL E fr tm.toList
structure Inv (G:Nat->Option (List AV)) (E:En):Prop where
 row:∀ r,RowOK E r
 inj:∀ r r',(E.rows r).live=true->(E.rows r').live=true->r≠r'->E.ρ r≠E.ρ r'
 sb:∀ b,E.S b->b<E.w.heap.size
 glob:∀ g cs,G g=some cs->∃ vs,E.S g/\RelL E cs vs/\CellsAt E.w g 0 vs
theorem Inv.live {G:Nat->Option (List AV)} {E:En} (h:Inv G E) {r:Nat} (hr:(E.rows r).live=true):E.ρ r<E.w.heap.size/\¬ E.S (E.ρ r):=by
 have:=h.row r
 unfold RowOK at this
 cases hrow:E.rows r with
 |none=>rw [hrow] at hr;cases hr
 |dead=>rw [hrow] at hr;cases hr
 |cells ver cs=>
  rw [hrow] at this
  obtain ⟨cur,e,vs,h1,h2,_⟩:=this
  exact ⟨(cq.1 h1).1,h2⟩
 |map ks vs=>
  rw [hrow] at this
  obtain ⟨es,clock,h1,h2,_⟩:=this
  exact ⟨(cq.1 h1).1,h2⟩
 |iter ks vs left last=>
  rw [hrow] at this
  obtain ⟨mb,es,clock,since,seen,h1,h2,_⟩:=this
  exact ⟨(cq.1 h1).1,h2⟩
 |loop st pend fr ps asg body=>
  rw [hrow] at this
  obtain ⟨fn,tm,D,h1,h2,_⟩:=this
  exact ⟨(cq.1 h1).1,h2⟩
theorem Ext.keep {G:Nat->Option (List AV)} {E E':En} (i:Inv G E) (h:Ext E E') {b:Nat} (hb:E.S b):E'.w.heap[b]? =E.w.heap[b]? :=
 (h.out b (i.sb b hb) fun _ hr e=>(i.live hr).2 (e ▸ hb)).1
theorem CellsAt.of_block {w w':World} {b off:Nat} {vs:List Value} (hb:w'.heap[b]? =w.heap[b]?) (h:CellsAt w b off vs):CellsAt w' b off vs:=
 ⟨fun j u hj=>(World.cell?_of_block (a:=⟨b,off+j,none⟩) hb).trans (h.1 j u hj),h.2⟩
theorem RefOK.mono {row row':ARow} {ver:Nat} {p p':Prop} (h:RefOK row ver p)
  (hd:row=.dead->row'=.dead)
  (hc:∀ c cs,row=.cells c cs->row'=.dead\/∃ c' cs',row'=.cells c' cs'/\c<=c'/\(c=c'->p->p'))
  (hm:row.obj=true->row'=.dead\/(row'.obj=true/\(p->p'))):RefOK row' ver p':=by
 have obj:row.obj=true->ver=0/\p->RefOK row' ver p':=fun ho hp=>by
  rcases hm ho with h1|⟨h1,h2⟩
  .rw [h1];trivial
  .cases row'<;>first|exact ⟨hp.1,h2 hp.2⟩|cases h1
 cases row with
 |none=>exact h.elim
 |dead=>rw [hd rfl];trivial
 |cells c cs=>
  simp only [RefOK] at h
  rcases hc c cs rfl with h1|⟨c',cs',h1,h2,h3⟩
  .rw [h1];trivial
  .rw [h1]
   simp only [RefOK]
   refine ⟨by omega,fun e=>?_⟩
   have:ver=c:=by omega
   exact h3 (by omega) (h.2 this)
 |map ks vs=>exact obj rfl h
 |iter ks vs left last=>exact obj rfl h
 |loop st pend fr ps asg body=>exact obj rfl h
mutual
theorem Rel.ext {G:Nat->Option (List AV)} {E E':En} (i:Inv G E) (x:Ext E E'):∀ {c:AV} {v:Value},Rel E c v->Rel E' c v
 | .undef,_,_=>by simp [Rel]
 | .bool b,_,h=>by simpa only [Rel] using h
 | .int k n,_,h=>by simpa only [Rel] using h
 | .str s,_,h=>by simpa only [Rel] using h
 | .agg cs,_,h=>by
  simp only [Rel] at h ⊢
  obtain ⟨vs,h1,h2,h3⟩:=h
  exact ⟨vs,h1,RelL.ext i x h2,h3⟩
 | .tup cs,_,h=>by
  simp only [Rel] at h ⊢
  obtain ⟨vs,h1,h2⟩:=h
  exact ⟨vs,h1,RelL.ext i x h2⟩
 | .sl full es,_,h=>by
  simp only [Rel] at h ⊢
  obtain ⟨p,cap,h1,h2,h3,h4,h5,b,off,sz,h6,h7⟩:=h
  refine ⟨p,cap,h1,h2,h3,h4,h5,b,off,sz,?_,?_⟩
  .exact h6.imp id fun ⟨a,s⟩=>⟨a,x.sub b s⟩
  .rcases h6 with h6|⟨_,s⟩
   .subst h6;simp [RelE]
   .exact RelE.ext i x s h7
 | .osl r ver off n sz full,v,h=>by
  simp only [Rel] at h ⊢
  refine ⟨h.1,h.2.mono (x.dead r) (fun c cs hc=>?_) (fun hm=>?_)⟩
  .rcases x.cells r c cs hc with h1|⟨c',cs',h1,h2,h3⟩
   .exact .inl h1
   .refine .inr ⟨c',cs',h1,h2,fun e=>?_⟩
    obtain ⟨h4,h5⟩:=h3 e
    rintro ⟨cap,cur,el,a1,a2,a3,a4,a5,a6⟩
    obtain ⟨cur',e',b1,b2⟩:=h5 cur el (0,0) a5
    exact ⟨cap,cur',e',by rw [h4];exact a1,a2,a3,a4,by rw [h4];exact b1,by omega⟩
  .rcases x.map r hm with h1|⟨h1,h2⟩
   .exact .inl h1
   .refine .inr ⟨h1,?_⟩
    rintro ⟨cap,cur,el,a1,a2,a3,a4,a5,a6⟩
    have:=i.row r
    unfold RowOK at this
    cases hrow:E.rows r with
    |none=>rw [hrow] at hm;cases hm
    |dead=>rw [hrow] at hm;cases hm
    |cells _ _=>rw [hrow] at hm;cases hm
    |map ks vs=>
     rw [hrow] at this
     obtain ⟨es,clock,k1,_⟩:=this
     rw [k1] at a5
     cases a5
    |iter ks vs left last=>
     rw [hrow] at this
     obtain ⟨mb,es,clock,since,seen,k1,_⟩:=this
     rw [k1] at a5
     cases a5
    |loop st pend fr ps asg body=>
     rw [hrow] at this
     obtain ⟨fn,tm,D,k1,_⟩:=this
     rw [k1] at a5
     cases a5
 | .rsl r ver off n sz,v,h=>by
  simp only [Rel] at h ⊢
  refine ⟨h.1,h.2.mono (x.dead r) (fun c cs hc=>?_) (fun hm=>?_)⟩
  .rcases x.cells r c cs hc with h1|⟨c',cs',h1,h2,h3⟩
   .exact .inl h1
   .refine .inr ⟨c',cs',h1,h2,fun e=>?_⟩
    obtain ⟨h4,h5⟩:=h3 e
    rintro ⟨cap,cur,el,a1,a2,a3,a4,a5,a6⟩
    obtain ⟨cur',e',b1,b2⟩:=h5 cur el (0,0) a5
    exact ⟨cap,cur',e',by rw [h4];exact a1,a2,a3,a4,by rw [h4];exact b1,by omega⟩
  .rcases x.map r hm with h1|⟨h1,h2⟩
   .exact .inl h1
   .refine .inr ⟨h1,?_⟩
    rintro ⟨cap,cur,el,a1,a2,a3,a4,a5,a6⟩
    have:=i.row r
    unfold RowOK at this
    cases hrow:E.rows r with
    |none=>rw [hrow] at hm;cases hm
    |dead=>rw [hrow] at hm;cases hm
    |cells _ _=>rw [hrow] at hm;cases hm
    |map ks vs=>
     rw [hrow] at this
     obtain ⟨es,clock,k1,_⟩:=this
     rw [k1] at a5
     cases a5
    |iter ks vs left last=>
     rw [hrow] at this
     obtain ⟨mb,es,clock,since,seen,k1,_⟩:=this
     rw [k1] at a5
     cases a5
    |loop st pend fr ps asg body=>
     rw [hrow] at this
     obtain ⟨fn,tm,D,k1,_⟩:=this
     rw [k1] at a5
     cases a5
 | .rsv _,_,h=>by simpa only [Rel] using h
 | .ptr r ver off,v,h=>by
  simp only [Rel] at h ⊢
  refine ⟨h.1,h.2.mono (x.dead r) (fun c cs hc=>?_) (fun hm=>?_)⟩
  .rcases x.cells r c cs hc with h1|⟨c',cs',h1,h2,h3⟩
   .exact .inl h1
   .exact .inr ⟨c',cs',h1,h2,fun e hp=>by rw [(h3 e).1];exact hp⟩
  .rcases x.map r hm with h1|⟨h1,h2⟩
   .exact .inl h1
   .exact .inr ⟨h1,fun hp=>by rw [h2];exact hp⟩
 | .imm cs,_,h=>by
  simp only [Rel] at h ⊢
  obtain ⟨b,off,vs,h1,h2,h3,h4⟩:=h
  exact ⟨b,off,vs,h1,x.sub b h2,RelL.ext i x h3,h4.of_block (x.keep i h2)⟩
 | .nilptr,_,h=>by simpa only [Rel] using h
 | .mp ks vs,_,h=>by
  simp only [Rel] at h ⊢
  rcases h with h|⟨b,es,clock,h1,h2,h3,h6,el,h7,h4,h5⟩
  .exact .inl h
  .exact .inr ⟨b,es,clock,h1,x.sub b h2,by rw [x.keep i h2];exact h3,h6,el,h7,RelL.ext i x h4,RelL.ext i x h5⟩
 | .omp r,v,h=>by
  simp only [Rel] at h ⊢
  refine ⟨h.1,h.2.mono (x.dead r) (fun c cs hc=>?_) (fun hm=>?_)⟩
  .rcases x.cells r c cs hc with h1|⟨c',cs',h1,h2,h3⟩
   .exact .inl h1
   .exact .inr ⟨c',cs',h1,h2,fun e hp=>by rw [(h3 e).1];exact hp⟩
  .rcases x.map r hm with h1|⟨h1,h2⟩
   .exact .inl h1
   .exact .inr ⟨h1,fun hp=>by rw [h2];exact hp⟩
 | .yld r,v,h=>by
  simp only [Rel] at h ⊢
  refine ⟨h.1,h.2.mono (x.dead r) (fun c cs hc=>?_) (fun hm=>?_)⟩
  .rcases x.cells r c cs hc with h1|⟨c',cs',h1,h2,h3⟩
   .exact .inl h1
   .exact .inr ⟨c',cs',h1,h2,fun e hp=>by rw [(h3 e).1];exact hp⟩
  .rcases x.map r hm with h1|⟨h1,h2⟩
   .exact .inl h1
   .exact .inr ⟨h1,fun hp=>by rw [h2];exact hp⟩
 | .fn f first cap,_,h=>by
  simp only [Rel] at h ⊢
  obtain ⟨a,b,h1,h2,h3⟩:=h
  exact ⟨a,b,h1,RelL.ext i x h2,RelL.ext i x h3⟩
 | .nilfn,_,h=>by simpa only [Rel] using h
 | .iface t c,_,h=>by
  simp only [Rel] at h ⊢
  obtain ⟨u,h1,h2⟩:=h
  exact ⟨u,h1,Rel.ext i x h2⟩
 | .niliface,_,h=>by simpa only [Rel] using h
 | .anyb,_,h=>by simpa only [Rel] using h
theorem RelL.ext {G:Nat->Option (List AV)} {E E':En} (i:Inv G E) (x:Ext E E'):∀ {cs:List AV} {vs:List Value},RelL E cs vs->RelL E' cs vs
 | [],_,h=>by simpa only [RelL] using h
 |c::cs,_,h=>by
  simp only [RelL] at h ⊢
  obtain ⟨v,rest,h1,h2,h3⟩:=h
  exact ⟨v,rest,h1,Rel.ext i x h2,RelL.ext i x h3⟩
theorem RelE.ext {G:Nat->Option (List AV)} {E E':En} (i:Inv G E) (x:Ext E E') {b:Nat} (s:E.S b):∀ {es:List (List AV)} {off sz:Nat},RelE E es b off sz->RelE E' es b off sz
 | [],_,_,_=>by simp [RelE]
 |e::es,_,_,h=>by
  simp only [RelE] at h ⊢
  obtain ⟨⟨h1,vs,h2,h3⟩,h4⟩:=h
  exact ⟨⟨h1,vs,RelL.ext i x h2,h3.of_block (x.keep i s)⟩,RelE.ext i x s h4⟩
end
theorem Ext.refl (E:En):Ext E E where
 os:=rfl
 tape:=rfl
 output:=rfl
 sz:=ap _
 sub:=fun _ h=>h
 out:=fun _ _ _=>⟨rfl,id⟩
 dead:=fun _ h=>h
 cells:=fun r ver cs h=>.inr ⟨ver,cs,h,ap _,fun _=>⟨rfl,fun cur e fz h=>⟨cur,e,h,rfl⟩⟩⟩
 map:=fun r h=>.inr ⟨h,rfl⟩
 fresh:=fun r h=>.inl ⟨h,rfl⟩
theorem Ext.trans {A B C:En} (h:Ext A B) (k:Ext B C):Ext A C where
 os:=k.os.trans h.os
 tape:=k.tape.trans h.tape
 output:=k.output.trans h.output
 sz:=dj h.sz k.sz
 sub:=fun b hb=>k.sub b (h.sub b hb)
 out:=fun b hb hl=>by
  have h1:=h.out b hb hl
  have h2:=k.out b (jk hb h.sz) fun r hr e=>by
   rcases h.fresh r hr with ⟨h3,h4⟩|h3
   .exact hl r h3 (h4 ▸ e)
   .omega
  exact ⟨h2.1.trans h1.1,fun s=>h1.2 (h2.2 s)⟩
 dead:=fun r hr=>k.dead r (h.dead r hr)
 cells:=fun r ver cs hr=>by
  rcases h.cells r ver cs hr with h1|⟨v1,c1,h1,h2,h3⟩
  .exact .inl (k.dead r h1)
  .rcases k.cells r v1 c1 h1 with k1|⟨v2,c2,k1,k2,k3⟩
   .exact .inl k1
   .refine .inr ⟨v2,c2,k1,by omega,fun e=>?_⟩
    obtain ⟨h4,h5⟩:=h3 (by omega)
    obtain ⟨k4,k5⟩:=k3 (by omega)
    refine ⟨k4.trans h4,fun cur e fz hc=>?_⟩
    obtain ⟨cur',e',m1,m2⟩:=h5 cur e fz hc
    rw [<- h4] at m1
    obtain ⟨cur'',e'',n1,n2⟩:=k5 cur' e' fz m1
    rw [h4] at n1
    exact ⟨cur'',e'',n1,n2.trans m2⟩
 map:=fun r hr=>by
  rcases h.map r hr with h1|⟨h1,h2⟩
  .exact .inl (k.dead r h1)
  .rcases k.map r h1 with m1|⟨m1,m2⟩
   .exact .inl m1
   .exact .inr ⟨m1,m2.trans h2⟩
 fresh:=fun r hr=>by
  rcases k.fresh r hr with ⟨h1,h2⟩|h1
  .rcases h.fresh r h1 with ⟨h3,h4⟩|h3
   .exact .inl ⟨h3,h2.trans h4⟩
   .exact .inr (by rw [h2];exact h3)
  .exact .inr (dj h.sz h1)
end Go.AM
namespace Go.AM
theorem RowOK.ext {G:Nat->Option (List AV)} {E E':En} (i:Inv G E) (x:Ext E E') {q:Nat} (hρ:E'.ρ q=E.ρ q) (hr:E'.rows q=E.rows q)
  (hb:(E.rows q).live=true->E'.w.heap[E.ρ q]? =E.w.heap[E.ρ q]?) (hS:E'.S (E.ρ q)->E.S (E.ρ q)) (h:RowOK E q):RowOK E' q:=by
 unfold RowOK at*
 rw [hr]
 cases hrow:E.rows q with
 |none=>trivial
 |dead=>trivial
 |cells ver cs=>
  rw [hrow] at h
  obtain ⟨cur,e,vs,h1,h2,h3,h4,h5⟩:=h
  refine ⟨cur,e,vs,?_,?_,h3.ext i x,h4,h5⟩
  .rw [hρ,hb (by rw [hrow];rfl)];exact h1
  .rw [hρ];exact fun s=>h2 (hS s)
 |map ks vs=>
  rw [hrow] at h
  obtain ⟨es,clock,h1,h2,h5,h3,h4⟩:=h
  refine ⟨es,clock,?_,?_,h5,h3.ext i x,h4.ext i x⟩
  .rw [hρ,hb (by rw [hrow];rfl)];exact h1
  .rw [hρ];exact fun s=>h2 (hS s)
 |iter ks vs left last=>
  rw [hrow] at h
  obtain ⟨mb,es,clock,since,seen,h1,h2,h3,h4,h5,h6,h7,h8,h9⟩:=h
  refine ⟨mb,es,clock,since,seen,?_,?_,x.sub _ h3,?_,h5,h6,h7.ext i x,h8.ext i x,h9⟩
  .rw [hρ,hb (by rw [hrow];rfl)];exact h1
  .rw [hρ];exact fun s=>h2 (hS s)
  .rw [x.keep i h3];exact h4
 |loop st pend fr ps asg body=>
  rw [hrow] at h
  obtain ⟨fn,tm,D,h1,h2,h3⟩:=h
  refine ⟨fn,tm,D,?_,?_,h3.ext i x⟩
  .rw [hρ,hb (by rw [hrow];rfl)];exact h1
  .rw [hρ];exact fun s=>h2 (hS s)
theorem gV {G:Nat->Option (List AV)} {E:En} (i:Inv G E) (w':World) (ρ':Nat->Nat) (rows':Nat->ARow) (t:Nat)
  (hos:w'.os=E.w.os) (htape:w'.tape=E.w.tape) (hout:w'.output=E.w.output) (hsz:E.w.heap.size<=w'.heap.size)
  (hrow:∀ q,q≠t->rows' q=E.rows q/\ρ' q=E.ρ q)
  (hb:∀ b,b<E.w.heap.size->((E.rows t).live=true->b≠E.ρ t)->w'.heap[b]? =E.w.heap[b]?)
  (hdead:E.rows t=.dead->rows' t=.dead)
  (hcells:∀ ver cs,E.rows t=.cells ver cs->rows' t=.dead\/∃ ver' cs',rows' t=.cells ver' cs'/\ver<=ver'/\(ver=ver'->ρ' t=E.ρ t/\
   ∀ cur e fz,E.w.heap[E.ρ t]? =some (.cells cur e fz)->∃ cur' e',w'.heap[E.ρ t]? =some (.cells cur' e' fz)/\cur'.size=cur.size))
  (hmap:(E.rows t).obj=true->rows' t=.dead\/((rows' t).obj=true/\ρ' t=E.ρ t))
  (hfresh:(rows' t).live=true->((E.rows t).live=true/\ρ' t=E.ρ t)\/E.w.heap.size<=ρ' t)
  (hok:Ext E ⟨w',E.S,ρ',rows'⟩->RowOK ⟨w',E.S,ρ',rows'⟩ t):
  Ext E ⟨w',E.S,ρ',rows'⟩/\Inv G ⟨w',E.S,ρ',rows'⟩:=by
 have x:Ext E ⟨w',E.S,ρ',rows'⟩:=by
  refine ⟨hos,htape,hout,hsz,fun _ h=>h,fun b h1 h2=>⟨hb b h1 fun hl e=>h2 t hl e.symm,id⟩,fun r hr=>?_,fun r ver cs hr=>?_,fun r hr=>?_,fun r hr=>?_⟩
  .by_cases e:r=t
   .subst e;exact hdead hr
   .simpa [(hrow r e).1] using hr
  .by_cases e:r=t
   .subst e;exact hcells ver cs hr
   .refine .inr ⟨ver,cs,by simpa [(hrow r e).1] using hr,ap _,fun _=>⟨(hrow r e).2,fun cur el fz hc=>⟨cur,el,?_,rfl⟩⟩⟩
    have hl:(E.rows r).live=true:=by rw [hr];rfl
    simp only
    rw [hb (E.ρ r) (i.live hl).1 fun hl'=>i.inj r t hl hl' e]
    exact hc
  .by_cases e:r=t
   .subst e;exact hmap hr
   .exact .inr ⟨by simpa [(hrow r e).1] using hr,(hrow r e).2⟩
  .by_cases e:r=t
   .subst e;exact hfresh hr
   .exact .inl ⟨by simpa [(hrow r e).1] using hr,(hrow r e).2⟩
 refine ⟨x,fun q=>?_,fun r r' hr hr' hne=>?_,fun b hS=>jk (i.sb b hS) hsz,fun g cs hg=>?_⟩
 .by_cases e:q=t
  .subst e;exact hok x
  .refine RowOK.ext i x (hrow q e).2 (hrow q e).1 (fun hl=>hb _ (i.live hl).1 fun hl'=>i.inj q t hl hl' e) id (i.row q)
 .by_cases e:r=t
  .subst e
   have e':r'≠r:=fun h=>hne h.symm
   have hl':(E.rows r').live=true:=by simpa [(hrow r' e').1] using hr'
   rcases hfresh hr with ⟨h1,h2⟩|h1
   .simp only [(hrow r' e').2,h2]
    exact i.inj r r' h1 hl' hne
   .simp only [(hrow r' e').2]
    have:=(i.live hl').1
    omega
  .have hl:(E.rows r).live=true:=by simpa [(hrow r e).1] using hr
   by_cases e':r'=t
   .subst e'
    rcases hfresh hr' with ⟨h1,h2⟩|h1
    .simp only [(hrow r e).2,h2]
     exact i.inj r r' hl h1 hne
    .simp only [(hrow r e).2]
     have:=(i.live hl).1
     omega
   .have hl':(E.rows r').live=true:=by simpa [(hrow r' e').1] using hr'
    simp only [(hrow r e).2,(hrow r' e').2]
    exact i.inj r r' hl hl' hne
 .obtain ⟨vs,h1,h2,h3⟩:=i.glob g cs hg
  exact ⟨vs,h1,h2.ext i x,h3.of_block (x.keep i h1)⟩
theorem oX {G:Nat->Option (List AV)} {E:En} (i:Inv G E) (w':World) (S':Nat->Prop)
  (hos:w'.os=E.w.os) (htape:w'.tape=E.w.tape) (hout:w'.output=E.w.output) (hsz:E.w.heap.size<=w'.heap.size)
  (hb:∀ b,b<E.w.heap.size->w'.heap[b]? =E.w.heap[b]?)
  (hS:∀ b,E.S b->S' b) (hS':∀ b,S' b->E.S b\/(E.w.heap.size<=b/\b<w'.heap.size)):
  Ext E ⟨w',S',E.ρ,E.rows⟩/\Inv G ⟨w',S',E.ρ,E.rows⟩:=by
 have hS2:∀ b,b<E.w.heap.size->S' b->E.S b:=fun b hlt h=>(hS' b h).resolve_right (by omega)
 have x:Ext E ⟨w',S',E.ρ,E.rows⟩:=by
  refine ⟨hos,htape,hout,hsz,hS,fun b h1 _=>⟨hb b h1,hS2 b h1⟩,fun r hr=>hr,fun r ver cs hr=>.inr ⟨ver,cs,hr,ap _,fun _=>⟨rfl,fun cur e fz hc=>⟨cur,e,?_,rfl⟩⟩⟩,
   fun r hr=>.inr ⟨hr,rfl⟩,fun r hr=>.inl ⟨hr,rfl⟩⟩
  have hl:(E.rows r).live=true:=by rw [hr];rfl
  simp only
  rw [hb _ (i.live hl).1]
  exact hc
 refine ⟨x,fun q=>?_,i.inj,fun b h=>?_,fun g cs hg=>?_⟩
 .cases hl:(E.rows q).live with
  |false=>
   unfold RowOK
   cases hq:E.rows q with
   |cells=>rw [hq] at hl;cases hl
   |map=>rw [hq] at hl;cases hl
   |iter=>rw [hq] at hl;cases hl
   |loop=>rw [hq] at hl;cases hl
   |none=>simp only [hq]
   |dead=>simp only [hq]
  |true=>exact RowOK.ext i x rfl rfl (fun hl=>hb _ (i.live hl).1) (hS2 _ (i.live hl).1) (i.row q)
 .rcases hS' b h with h|h
  .exact jk (i.sb b h) hsz
  .exact h.2
 .obtain ⟨vs,h1,h2,h3⟩:=i.glob g cs hg
  exact ⟨vs,hS g h1,h2.ext i x,h3.of_block (x.keep i h1)⟩
def upd (rows:Nat->ARow):List (Nat × ARow)->Nat->ARow
 | []=>rows
 |(r,x)::l=>upd (fun q=>if q=r then x else rows q) l
theorem CA {G:Nat->Option (List AV)} {E:En} (i:Inv G E):Ext E ⟨E.w.drew,E.S,E.ρ,E.rows⟩/\Inv G ⟨E.w.drew,E.S,E.ρ,E.rows⟩:=
 oX i E.w.drew E.S rfl rfl rfl (ap _) (fun _ _=>rfl) (fun _ h=>h) (fun _ h=>.inl h)
theorem xM {G:Nat->Option (List AV)} {E:En} (i:Inv G E) {r:Nat} (hr:E.rows r=.none) (cur:Array Value) (elem:TypeId) (cs:List AV) (vs:List Value)
  (hrel:RelL E cs vs) (h1:∀ u∈vs,u.oneCell'=true) (ht:cur.toList.take cs.length=vs):
  let E':En:=⟨E.w.alloc (.cells cur elem),E.S,fun q=>if q=r then E.w.heap.size else E.ρ q,upd E.rows [(r,.cells 0 cs)]⟩
  Ext E E'/\Inv G E':=by
 refine gV i _ _ _ r rfl rfl rfl (by simp) (fun q hq=>⟨by simp [upd,hq],by simp [hq]⟩) (fun b hb _=>heap_alloc_old _ _ hb)
  (fun h=>by rw [hr] at h;cases h) (fun _ _ h=>by rw [hr] at h;cases h) (fun h=>by rw [hr] at h;cases h) (fun _=>.inr (by simp)) fun x=>?_
 unfold RowOK
 simp only [upd,if_true]
 exact ⟨cur,elem,vs,heap_alloc_new _ _,fun s=>absurd (i.sb _ s) (by omega),hrel.ext i x,h1,ht⟩
theorem I2 {G:Nat->Option (List AV)} {E:En} (i:Inv G E) {r:Nat} (hr:E.rows r=.none):
  let E':En:=⟨E.w.alloc (.map #[] 0),E.S,fun q=>if q=r then E.w.heap.size else E.ρ q,upd E.rows [(r,.map [] [])]⟩
  Ext E E'/\Inv G E':=by
 refine gV i _ _ _ r rfl rfl rfl (by simp) (fun q hq=>⟨by simp [upd,hq],by simp [hq]⟩) (fun b hb _=>heap_alloc_old _ _ hb)
  (fun h=>by rw [hr] at h;cases h) (fun _ _ h=>by rw [hr] at h;cases h) (fun h=>by rw [hr] at h;cases h) (fun _=>.inr (by simp)) fun x=>?_
 unfold RowOK
 simp only [upd,if_true]
 exact ⟨#[],0,heap_alloc_new _ _,fun s=>absurd (i.sb _ s) (by omega),⟨by simp,by simp⟩,by simp [RelL],by simp [RelL]⟩
theorem sK {G:Nat->Option (List AV)} {E:En} (i:Inv G E) {r ver ver':Nat} {cs0:List AV} (hr:E.rows r=.cells ver cs0) (hv:ver<=ver') (cur:Array Value) (cs:List AV) (vs:List Value)
  (hsize:∀ cur0 e fz,E.w.heap[E.ρ r]? =some (.cells cur0 e fz)->cur.size=cur0.size)
  (hrel:RelL E cs vs) (h1:∀ u∈vs,u.oneCell'=true) (ht:cur.toList.take cs.length=vs):
  let E':En:=⟨E.w.setRow (E.ρ r) cur,E.S,E.ρ,upd E.rows [(r,.cells ver' cs)]⟩
  Ext E E'/\Inv G E':=by
 have hl:(E.rows r).live=true:=by rw [hr];rfl
 refine gV i _ _ _ r rfl rfl rfl (by simp) (fun q hq=>⟨by simp [upd,hq],rfl⟩) (fun b hb hne=>setRow_other _ _ _ _ (hne hl))
  (fun h=>by rw [hr] at h;cases h) (fun v c h=>?_) (fun h=>by rw [hr] at h;cases h) (fun _=>.inl ⟨hl,rfl⟩) fun x=>?_
 .rw [hr] at h
  injection h with h2 h3
  subst h2
  refine .inr ⟨ver',cs,by simp [upd],hv,fun _=>⟨rfl,fun cur0 e fz hc=>⟨cur,e,?_,hsize cur0 e fz hc⟩⟩⟩
  exact setRow_heap _ _ _ _ _ _ hc
 .have h0:=i.row r
  unfold RowOK at h0 ⊢
  rw [hr] at h0
  obtain ⟨cur0,e,vs0,k1,k2,_⟩:=h0
  simp only [upd,if_true]
  exact ⟨cur,e,vs,setRow_heap _ _ _ _ _ _ k1,k2,hrel.ext i x,h1,ht⟩
theorem QF {G:Nat->Option (List AV)} {E:En} (i:Inv G E) {r ver ver':Nat} {cs0:List AV} (hr:E.rows r=.cells ver cs0) (hv:ver<ver') (cur:Array Value) (elem:TypeId) (cs:List AV) (vs:List Value)
  (hrel:RelL E cs vs) (h1:∀ u∈vs,u.oneCell'=true) (ht:cur.toList.take cs.length=vs):
  let E':En:=⟨E.w.alloc (.cells cur elem),E.S,fun q=>if q=r then E.w.heap.size else E.ρ q,upd E.rows [(r,.cells ver' cs)]⟩
  Ext E E'/\Inv G E':=by
 refine gV i _ _ _ r rfl rfl rfl (by simp) (fun q hq=>⟨by simp [upd,hq],by simp [hq]⟩) (fun b hb _=>heap_alloc_old _ _ hb)
  (fun h=>by rw [hr] at h;cases h) (fun v c h=>?_) (fun h=>by rw [hr] at h;cases h) (fun _=>.inr (by simp)) fun x=>?_
 .rw [hr] at h
  injection h with h2 h3
  subst h2
  exact .inr ⟨ver',cs,by simp [upd],by omega,fun e=>by omega⟩
 .unfold RowOK
  simp only [upd,if_true]
  exact ⟨cur,elem,vs,heap_alloc_new _ _,fun s=>absurd (i.sb _ s) (by omega),hrel.ext i x,h1,ht⟩
theorem rE (w:World) (b:Nat) (o o':Obj) (h:w.heap[b]? =some o'):({ w with heap:=w.heap.setIfInBounds b o }:World).heap[b]? =some o:=by
 have:=(cq.1 h).1
 simp [jj,this]
theorem lD (w:World) (b k:Nat) (o:Obj) (h:k≠b):({ w with heap:=w.heap.setIfInBounds b o }:World).heap[k]? =w.heap[k]? :=by
 simp [jj,Ne.symm h]
theorem oW {G:Nat->Option (List AV)} {E:En} (i:Inv G E) {r:Nat} {ks0 vs0:List AV} (hr:E.rows r=.map ks0 vs0) (es:Array MapEntry) (clock:Nat) (ks vs:List AV) (hm:LJ es clock)
  (hk:RelL E ks (es.toList.map (·.key))) (hv:RelL E vs (es.toList.map (·.val))):
  let E':En:=⟨{ E.w with heap:=E.w.heap.setIfInBounds (E.ρ r) (.map es clock) },E.S,E.ρ,upd E.rows [(r,.map ks vs)]⟩
  Ext E E'/\Inv G E':=by
 have hl:(E.rows r).live=true:=by rw [hr];rfl
 have h0:=i.row r
 unfold RowOK at h0
 rw [hr] at h0
 obtain ⟨es0,clock0,k1,k2,_⟩:=h0
 refine gV i _ _ _ r rfl rfl rfl (by simp) (fun q hq=>⟨by simp [upd,hq],rfl⟩) (fun b hb hne=>lD _ _ _ _ (hne hl))
  (fun h=>by rw [hr] at h;cases h) (fun _ _ h=>by rw [hr] at h;cases h) (fun _=>.inr ⟨by simp [upd,ARow.obj],rfl⟩) (fun _=>.inl ⟨hl,rfl⟩) fun x=>?_
 unfold RowOK
 simp only [upd,if_true]
 exact ⟨es,clock,rE _ _ _ _ k1,k2,hm,hk.ext i x,hv.ext i x⟩
end Go.AM
namespace Go.AM
mutual
def oR:Value->AV
 | .bool b=>.bool b
 | .int k n=>.int k n
 | .string s=>.str s
 | .pointer none=>.nilptr
 | .slice none 0 0=>.sl true []
 | .map none=>.mp [] []
 | .nilFunc=>.nilfn
 | .nilIface=>.niliface
 | .agg ⟨l⟩=>if l.all (·.oneCell') then .agg (U3 l) else .undef
 |_=>.undef
def U3:List Value->List AV
 | []=>[]
 |v::r=>oR v::U3 r
end
mutual
theorem iE (E:En):∀ (v:Value),Rel E (oR v) v
 | .bool b=>by simp [oR,Rel]
 | .int k n=>by simp [oR,Rel]
 | .string s=>by simp [oR,Rel]
 | .pointer none=>by simp [oR,Rel]
 | .pointer (some _)=>by simp [oR,Rel]
 | .slice none 0 0=>by
  simp only [oR,Rel]
  exact ⟨none,0,rfl,by simp,by simp [maxLen],by simp,by simp,0,0,0,by simp [RelE]⟩
 | .slice none 0 (n+1)=>by simp [oR,Rel]
 | .slice none (n+1) _=>by simp [oR,Rel]
 | .slice (some _) _ _=>by simp [oR,Rel]
 | .map none=>by simp [oR,Rel]
 | .map (some _)=>by simp [oR,Rel]
 | .nilFunc=>by simp [oR,Rel]
 | .nilIface=>by simp [oR,Rel]
 | .agg ⟨l⟩=>by
  simp only [oR]
  split
  .rename_i h
   simp only [Rel]
   exact ⟨l,rfl,IT E l,by simpa using h⟩
  .simp [Rel]
 | .float .. =>by simp [oR,Rel]
 | .complex .. =>by simp [oR,Rel]
 | .chan .. =>by simp [oR,Rel]
 | .func .. =>by simp [oR,Rel]
 | .iface .. =>by simp [oR,Rel]
 | .tuple .. =>by simp [oR,Rel]
theorem IT (E:En):∀ (l:List Value),RelL E (U3 l) l
 | []=>by simp [U3,RelL]
 |v::r=>by
  simp only [U3,RelL]
  exact ⟨v,r,rfl,iE E v,IT E r⟩
end
def AV.toCells:AV->Option (List AV)
 | .undef=>none
 | .tup _=>none
 | .agg cs=>some cs
 |v=>some [v]
theorem eQ {E:En} {x:AV} {cs:List AV} {v:Value} (h:x.toCells=some cs) (r:Rel E x v):
  ∃ vs:List Value,v.cells=vs.toArray/\RelL E cs vs/\∀ u∈vs,u.oneCell'=true:=by
 have one:v.oneCell'=true->v.cells= #[v]->x.toCells=some [x]->∃ vs:List Value,v.cells=vs.toArray/\RelL E cs vs/\∀ u∈vs,u.oneCell'=true:=by
  intro h1 h2 h3
  rw [h] at h3
  injection h3 with h3
  subst h3
  exact ⟨[v],by simpa using h2,by simp only [RelL];exact ⟨v,[],rfl,r,rfl⟩,by simpa using h1⟩
 have two:v.oneCell'=true->v.cells= #[v]:=by cases v<;>simp [Value.oneCell',Value.cells]
 cases x with
 |undef=>cases h
 |tup _=>cases h
 |agg l=>
  simp only [AV.toCells] at h
  injection h with h
  subst h
  simp only [Rel] at r
  obtain ⟨vs,rfl,h2,h3⟩:=r
  exact ⟨vs,rfl,h2,h3⟩
 |bool b=>simp only [Rel] at r;subst r;exact one rfl rfl rfl
 |int k n=>simp only [Rel] at r;subst r;exact one rfl rfl rfl
 |str s=>simp only [Rel] at r;subst r;exact one rfl rfl rfl
 |sl full es=>simp only [Rel] at r;obtain ⟨p,cap,rfl,_⟩:=r;exact one rfl rfl rfl
 |imm cs'=>simp only [Rel] at r;obtain ⟨b,off,vs,rfl,_⟩:=r;exact one rfl rfl rfl
 |nilptr=>simp only [Rel] at r;subst r;exact one rfl rfl rfl
 |mp ks vs=>
  simp only [Rel] at r
  rcases r with ⟨_,_,rfl⟩|⟨b,es,clock,rfl,_⟩
  .exact one rfl rfl rfl
  .exact one rfl rfl rfl
 |fn f a b=>simp only [Rel] at r;obtain ⟨a,b,rfl,_⟩:=r;exact one rfl rfl rfl
 |nilfn=>simp only [Rel] at r;subst r;exact one rfl rfl rfl
 |iface t u=>simp only [Rel] at r;obtain ⟨u,rfl,_⟩:=r;exact one rfl rfl rfl
 |niliface=>simp only [Rel] at r;subst r;exact one rfl rfl rfl
 |anyb=>simp only [Rel] at r;obtain ⟨b,rfl⟩:=r;exact one rfl rfl rfl
 |osl r' ver off n sz full=>simp only [Rel] at r;exact one r.1 (two r.1) rfl
 |rsl r' ver off n sz=>simp only [Rel] at r;exact one r.1 (two r.1) rfl
 |rsv r'=>simp only [Rel] at r;obtain ⟨p,rfl⟩:=r;exact one rfl rfl rfl
 |ptr r' ver off=>simp only [Rel] at r;exact one r.1 (two r.1) rfl
 |omp r'=>simp only [Rel] at r;exact one r.1 (two r.1) rfl
 |yld r'=>simp only [Rel] at r;exact one r.1 (two r.1) rfl
def b5 (P:Program) (t:TypeId):Option Nat:=(P.info? t).map (·.size)
def cJ (P:Program) (t:TypeId):Option Nat:=(P.info? t).map (·.bytes)
def b6 (P:Program) (t:TypeId):Option AV:=((P.info? t).bind (·.zero)).map oR
def dI (P:Program) (t:TypeId):Option Bool:=
 match P.underlying t with
 |some (.struct _)|some (.array _ _)=>some true
 |some _=>some false
 |none=>none
theorem dZ {P:Program} {t:TypeId} {n:Nat} (h:b5 P t=some n) (w:World):(sizeOf t).run P w=.ok n w:=by
 unfold b5 at h
 cases hi:P.info? t with
 |none=>rw [hi] at h;cases h
 |some i=>
  rw [hi] at h
  simp at h
  simp [sizeOf,typeInfo,hi,h]
theorem fH {P:Program} {t:TypeId} {z:AV} (h:b6 P t=some z) (w:World):∃ v,(zeroValue t).run P w=.ok v w/\z=oR v:=by
 unfold b6 at h
 cases hi:P.info? t with
 |none=>rw [hi] at h;cases h
 |some i=>
  rw [hi] at h
  cases hz:i.zero with
  |none=>simp [hz] at h
  |some v=>
   simp [hz] at h
   exact ⟨v,by simp [zeroValue,typeInfo,hi,hz],h.symm⟩
theorem qB {P:Program} {t:TypeId} {b:Bool} (h:dI P t=some b) (w:World):(isAgg t).run P w=.ok b w:=by
 unfold dI at h
 cases hu:P.underlying t with
 |none=>rw [hu] at h;cases h
 |some d=>
  rw [hu] at h
  cases d<;>simp at h<;>subst h<;>simp [isAgg,run_underlying hu]
def ldc (P:Program) (t:TypeId) (cs:List AV):Option AV:=
 match dI P t,b5 P t with
 |some true,some n=>if n<=cs.length then some (.agg (cs.take n)) else none
 |some false,some _=>cs.head?
 |_,_=>none
theorem CellsAt.drop {w:World} {b off:Nat} {vs:List Value} (n:Nat) (h:CellsAt w b off vs):CellsAt w b (off+n) (vs.drop n):=
 ⟨fun j u hj=>by rw [List.getElem?_drop] at hj;have:=h.1 _ u hj;rwa [show off+(n+j)=off+n+j by omega] at this,
  fun u hu=>h.2 u (List.drop_subset _ _ hu)⟩
theorem CellsAt.take {w:World} {b off:Nat} {vs:List Value} (n:Nat) (h:CellsAt w b off vs):CellsAt w b off (vs.take n):=
 ⟨fun j u hj=>(by rw [ep] at hj;split at hj;exact h.1 _ u hj;cases hj),
  fun u hu=>h.2 u (List.take_subset _ _ hu)⟩
theorem P5 {P:Program} {E:En} {t:TypeId} {cs:List AV} {v:AV} {b off:Nat} {vs:List Value} (h:ldc P t cs=some v) (r:RelL E cs vs) (c:CellsAt E.w b off vs):
  ∃ u,(loadVar t ⟨b,off,none⟩).run P E.w=.ok u E.w/\Rel E v u:=by
 unfold ldc at h
 split at h
 .rename_i n ha hs
  split at h
  .rename_i hn
   injection h with h
   subst h
   have hl:=r.length
   have hlen:(vs.take n).length=n:=by simp;omega
   refine ⟨.agg (vs.take n).toArray,?_,?_⟩
   .have:=run_loadCells_list (P:=P) E.w ⟨b,off,none⟩ (vs.take n) fun j u hj=>by rw [Addr.add_lit];exact (c.take n).1 j u hj
    rw [hlen] at this
    simp [loadVar,qB ha,dZ hs,this]
   .simp only [Rel]
    exact ⟨vs.take n,rfl,r.take n,(c.take n).2⟩
  .cases h
 .rename_i n ha hs
  cases cs with
  |nil=>cases h
  |cons x cs=>
   simp at h
   subst h
   simp only [RelL] at r
   obtain ⟨u,rest,rfl,h1,_⟩:=r
   have:=c.1 0 u rfl
   simp only [fy] at this
   exact ⟨u,by simp [loadVar,qB ha,this],h1⟩
 .cases h
def aU (rows:Nat->ARow) (r ver:Nat):Option (List AV):=
 match rows r with
 | .cells c cs=>if ver=c then some cs else none
 |_=>none
theorem dN {rows:Nat->ARow} {r ver:Nat} {cs:List AV} (h:aU rows r ver=some cs):rows r=.cells ver cs:=by
 unfold aU at h
 cases hr:rows r with
 |cells c l=>
  rw [hr] at h
  simp only [au,ao] at h
  rw [h.1,h.2]
 |none=>rw [hr] at h;cases h
 |dead=>rw [hr] at h;cases h
 |map _ _=>rw [hr] at h;cases h
 |iter _ _ _ _=>rw [hr] at h;cases h
 |loop _ _ _ _ _ _=>rw [hr] at h;cases h
theorem kV {G:Nat->Option (List AV)} {E:En} (i:Inv G E) {r ver:Nat} {cs:List AV} (h:aU E.rows r ver=some cs):
  ∃ cur e vs,E.w.heap[E.ρ r]? =some (.cells cur e (0,0))/\RelL E cs vs/\(∀ u∈vs,u.oneCell'=true)/\cur.toList.take cs.length=vs/\CellsAt E.w (E.ρ r) 0 vs:=by
 have h0:=i.row r
 unfold RowOK at h0
 rw [dN h] at h0
 obtain ⟨cur,e,vs,h1,h2,h3,h4,h5⟩:=h0
 refine ⟨cur,e,vs,h1,h3,h4,h5,⟨fun j u hj=>?_,h4⟩⟩
 rw [cell_of_row E.w (E.ρ r) (0+j) cur e (0,0) h1]
 rw [<- h5,ep] at hj
 split at hj
 .simpa using hj
 .cases hj
theorem rP {E:En} {r ver off:Nat} {cs:List AV} {v:Value} (h:aU E.rows r ver=some cs) (hr:Rel E (.ptr r ver off) v):v=.pointer (some ⟨E.ρ r,off,none⟩):=by
 simp only [Rel,dN h,RefOK] at hr
 exact hr.2.2 trivial
theorem kZ {E:En} {r ver off n sz:Nat} {full:Bool} {cs:List AV} {v:Value} (h:aU E.rows r ver=some cs) (hr:Rel E (.osl r ver off n sz full) v):
  ∃ cap cur e,v=.slice (some ⟨E.ρ r,off,none⟩) n cap/\n<=cap/\cap<=maxLen/\(full=true->cap=n)/\
   E.w.heap[E.ρ r]? =some (.cells cur e (0,0))/\off+cap*sz<=cur.size:=by
 simp only [Rel,dN h,RefOK] at hr
 exact hr.2.2 trivial
def iC (P:Program) (t:TypeId) (x:AV) (rows:Nat->ARow):Option AV:=
 match x with
 | .ptr r ver off=>(aU rows r ver).bind fun cs=>ldc P t (cs.drop off)
 | .imm cs=>ldc P t cs
 |_=>none
theorem LD {P:Program} {G:Nat->Option (List AV)} {E:En} (i:Inv G E) {t:TypeId} {x v:AV} {u:Value} (h:iC P t x E.rows=some v) (hx:Rel E x u):
  ∃ a y,u=.pointer (some a)/\(loadVar t a).run P E.w=.ok y E.w/\Rel E v y:=by
 cases x with
 |ptr r ver off=>
  simp only [iC,fv] at h
  obtain ⟨cs,h1,h2⟩:=h
  obtain ⟨cur,e,vs,_,h3,_,_,h4⟩:=kV i h1
  have h5:=h4.drop off
  rw [cp] at h5
  obtain ⟨y,hy,hr⟩:=P5 h2 (h3.drop off) h5
  exact ⟨_,y,rP h1 hx,hy,hr⟩
 |imm cs=>
  simp only [iC] at h
  simp only [Rel] at hx
  obtain ⟨b,off,vs,rfl,_,h3,h4⟩:=hx
  obtain ⟨y,hy,hr⟩:=P5 h h3 h4
  exact ⟨_,y,rfl,hy,hr⟩
 |_=>simp [iC] at h
theorem WD {P:Program} {G:Nat->Option (List AV)} {E:En} (i:Inv G E) {t:TypeId} {x v:AV} {u:Value} (h:iC P t x E.rows=some v) (hx:Rel E x u):
  ∃ y,(Instr.loadAt t u).run P E.w=.ok y E.w/\Rel E v y:=by
 obtain ⟨a,y,rfl,h1,h2⟩:=LD i h hx
 exact ⟨y,by simp [Instr.loadAt,Instr.sureAddr,h1],h2⟩
structure eL where
 val:AV
 wr:List (Nat × ARow)
def Runs (P:Program) (G:Nat->Option (List AV)) (E:En) (m:Sem Value) (eff:eL):Prop:=
 ∃ v E',m.run P E.w=.ok v E'.w/\Rel E' eff.val v/\Ext E E'/\Inv G E'/\E'.rows=upd E.rows eff.wr
def WH (P:Program) (G:Nat->Option (List AV)) (E:En) (m:Sem Unit) (eff:eL):Prop:=
 ∃ E',m.run P E.w=.ok () E'.w/\eff.val=.undef/\Ext E E'/\Inv G E'/\E'.rows=upd E.rows eff.wr
theorem Runs.val {P:Program} {G:Nat->Option (List AV)} {E:En} (i:Inv G E) {m:Sem Value} {v:AV} (h:∃ y,m.run P E.w=.ok y E.w/\Rel E v y):Runs P G E m ⟨v,[]⟩:=
 let ⟨y,h1,h2⟩:=h
 ⟨y,E,h1,h2,Ext.refl E,i,rfl⟩
def gK (cs:List AV) (off:Nat) (new:List AV):List AV:=cs.take off++new++cs.drop (off+new.length)
def oE (P:Program) (t:TypeId) (x v:AV) (rows:Nat->ARow):Option eL:=
 match x,v.toCells,b5 P t with
 | .ptr r ver off,some vc,some n=>(aU rows r ver).bind fun cs=>
   if vc.length=n/\off+n<=cs.length then some ⟨.undef,[(r,.cells ver (gK cs off vc))]⟩ else none
 |_,_,_=>none
theorem vC (cur new:List Value) (off n:Nat) (h:off+new.length<=n) (h2:n<=cur.length):
  (cur.take off++new++cur.drop (off+new.length)).take n=(cur.take n).take off++new++(cur.take n).drop (off+new.length):=by
 have e1:(cur.take n).take off=cur.take off:=by rw [List.take_take];congr 1;omega
 rw [e1,List.take_append,bx (by simp;omega)]
 congr 1
 rw [List.drop_take]
 congr 1
 simp
 omega
theorem RL {P:Program} {G:Nat->Option (List AV)} {E:En} (i:Inv G E) {t:TypeId} {x v:AV} {u y:Value} {eff:eL} (h:oE P t x v E.rows=some eff) (hx:Rel E x u) (hv:Rel E v y):
  WH P G E (Instr.storeAt t u y) eff:=by
 unfold oE at h
 split at h
 .rename_i r ver off vc n hvc hn
  simp only [fv,au,ao] at h
  obtain ⟨cs,h1,⟨h2,h3⟩,rfl⟩:=h
  obtain ⟨cur,e,vs,k1,k2,k3,k4,k5⟩:=kV i h1
  obtain ⟨ys,y1,y2,y3⟩:=eQ hvc hv
  have hyl:=y2.length
  have hvl:=k2.length
  have hcur:cs.length<=cur.size:=by
   have:(cur.toList.take cs.length).length=cs.length:=by rw [k4];exact hvl
   simp at this;omega
  rw [rP h1 hx]
  have hst:=run_storeCells_at P (E.ρ r) off e ys 0 cur E.w k1 (by simp;omega) y3
  simp only [fy] at hst
  have hsize:(cur.toList.take off++ys++cur.toList.drop (off+ys.length)).toArray.size=cur.size:=by simp;omega
  have hstep:=sK i (dN h1) (ap ver) (cur.toList.take off++ys++cur.toList.drop (off+ys.length)).toArray (gK cs off vc)
   (vs.take off++ys++vs.drop (off+ys.length)) (fun cur0 e0 fz hc=>by rw [k1] at hc;injection hc with hc;injection hc with hc;rw [hsize,hc])
   (by unfold gK;rw [hyl];exact ((k2.take off).append y2).append (k2.drop _))
   (fun u hu=>by
    rcases bo.1 hu with hu|hu
    .rcases bo.1 hu with hu|hu
     .exact k3 u (List.take_subset _ _ hu)
     .exact y3 u hu
    .exact k3 u (List.drop_subset _ _ hu))
   (by
    have hsl:(gK cs off vc).length=cs.length:=by simp [gK];omega
    rw [hsl,<- k4]
    exact vC cur.toList ys off cs.length (by omega) (by simpa using hcur))
  refine ⟨_,?_,rfl,hstep.1,hstep.2,rfl⟩
  have hsz:y.cells.size=n:=by rw [y1];simp;omega
  simp [Instr.storeAt,Instr.sureAddr,storeVar,dZ hn,hsz]
  rw [y1]
  simpa using hst
 .cases h
def lU (P:Program) (s:TypeId) (f:Nat):Option Field:=
 match P.underlying s with
 |some (.struct fields)=>fields[f]?
 |_=>none
theorem z6 {P:Program} {s:TypeId} {f:Nat} {d:Field} (h:lU P s f=some d):∃ fields,P.underlying s=some (.struct fields)/\fields[f]? =some d:=by
 unfold lU at h
 split at h
 .rename_i fields hu
  exact ⟨fields,hu,h⟩
 .cases h
def bQ (P:Program) (s:TypeId) (x:AV) (f:Nat) (rows:Nat->ARow):Option AV:=
 match lU P s f with
 |some d=>match b5 P d.type with
  |some (_+1)=>match x with
   | .ptr r ver off=>(aU rows r ver).map fun _=>.ptr r ver (off+d.offset)
   | .imm cs=>some (.imm (cs.drop d.offset))
   |_=>none
  |_=>none
 |none=>none
theorem FJ {E:En} {r ver:Nat} {cs:List AV} (h:aU E.rows r ver=some cs) (off:Nat):Rel E (.ptr r ver off) (.pointer (some ⟨E.ρ r,off,none⟩)):=by
 simp only [Rel,dN h,RefOK]
 refine ⟨rfl,ap _,?_⟩
 simp
theorem BX {P:Program} {G:Nat->Option (List AV)} {E:En} (i:Inv G E) {s:TypeId} {x v:AV} {u:Value} {f:Nat} (h:bQ P s x f E.rows=some v) (hx:Rel E x u):
  ∃ y,(Instr.fieldAt s u f).run P E.w=.ok y E.w/\Rel E v y:=by
 unfold bQ at h
 split at h
 .rename_i d hd
  split at h
  .rename_i n hn
   obtain ⟨fields,hu,hf⟩:=z6 hd
   have hpl:∀ a:Addr,(fieldPlace a d).run P E.w=.ok (a.add d.offset) E.w:=fun a=>by simp [fieldPlace,dZ hn]
   split at h
   .rename_i r ver off
    simp only [bw] at h
    obtain ⟨cs,h1,rfl⟩:=h
    rw [rP h1 hx]
    exact ⟨_,by simp only [Instr.fieldAt,Sem.run_bind,run_underlying hu,Result.andThen_ok,hf,Instr.sureAddr,Sem.run_pure,hpl,Addr.add_lit],FJ h1 _⟩
   .rename_i cs
    injection h with h
    subst h
    simp only [Rel] at hx
    obtain ⟨b,off,vs,rfl,h2,h3,h4⟩:=hx
    refine ⟨.pointer (some ⟨b,off+d.offset,none⟩),by simp only [Instr.fieldAt,Sem.run_bind,run_underlying hu,Result.andThen_ok,hf,Instr.sureAddr,Sem.run_pure,hpl,Addr.add_lit],?_⟩
    simp only [Rel]
    exact ⟨b,off+d.offset,vs.drop d.offset,rfl,h2,h3.drop _,h4.drop _⟩
   .cases h
  .cases h
 .cases h
def sC (P:Program) (t:TypeId) (cs:List AV) (off:Nat):Option AV:=
 match dI P t,b5 P t with
 |some true,some n=>if off+n<=cs.length then some (.agg ((cs.drop off).take n)) else none
 |some false,_=>cs[off]?
 |_,_=>none
theorem EI {P:Program} {E:En} {t:TypeId} {cs:List AV} {off:Nat} {v:AV} {vs:List Value} (h:sC P t cs off=some v) (r:RelL E cs vs) (h1:∀ u∈vs,u.oneCell'=true):
  ∃ y,(part t vs.toArray off).run P E.w=.ok y E.w/\Rel E v y:=by
 unfold sC at h
 split at h
 .rename_i n ha hs
  split at h
  .rename_i hl
   injection h with h
   subst h
   refine ⟨.agg ((vs.drop off).take n).toArray,?_,?_⟩
   .have hx:vs.toArray.extract off (off+n)=((vs.drop off).take n).toArray:=by
     apply ja
     simp [List.extract_eq_take_drop]
    simp [part,qB ha,dZ hs,hx]
   .simp only [Rel]
    exact ⟨_,rfl,(r.drop off).take n,fun u hu=>h1 u (List.drop_subset _ _ (List.take_subset _ _ hu))⟩
  .cases h
 .rename_i ha
  obtain ⟨y,h2,h3⟩:=r.get h
  exact ⟨y,by simp [part,qB ha,h2],h3⟩
 .cases h
def H6 (P:Program) (s:TypeId) (x:AV) (f:Nat):Option AV:=
 match lU P s f,x with
 |some d,.agg cs=>sC P d.type cs d.offset
 |_,_=>none
theorem RP {P:Program} {E:En} {s:TypeId} {x v:AV} {u:Value} {f:Nat} (h:H6 P s x f=some v) (hx:Rel E x u):
  ∃ y,(Instr.field s u f).run P E.w=.ok y E.w/\Rel E v y:=by
 unfold H6 at h
 split at h
 .rename_i d cs hd
  obtain ⟨fields,hu,hf⟩:=z6 hd
  simp only [Rel] at hx
  obtain ⟨vs,rfl,h2,h3⟩:=hx
  obtain ⟨y,h4,h5⟩:=EI h h2 h3
  exact ⟨y,by simp [Instr.field,run_underlying hu,hf,asAgg,h4],h5⟩
 .cases h
end Go.AM
namespace Go.AM
def fZ (P : Program) (t : TypeId) (x ix : AV) (rows : Nat -> ARow) : Option AV :=
 match P.underlying t,ix with
 |some (.slice elem),.int _ n=>match b5 P elem with
  |some sz=>match x with
   | .sl _ es=>match es[n.toNat]? with
    |some e=>if 0<=n/\e.length=sz then some (.imm e) else none
    |none=>none
   | .osl r ver off len sz' _=>if 0<=n/\n.toNat<len/\sz'=sz then (aU rows r ver).map fun _=>.ptr r ver (off+n.toNat*sz) else none
   |_=>none
  |none=>none
 |some (.array len elem),.int _ n=>match b5 P elem with
  |some sz=>match x with
   | .ptr r ver off=>if 0<=n/\n.toNat<len then (aU rows r ver).map fun _=>.ptr r ver (off+n.toNat*sz) else none
   | .imm cs=>if 0<=n/\n.toNat<len then some (.imm (cs.drop (n.toNat*sz))) else none
   |_=>none
  |none=>none
 |_,_=>none
theorem BW {P:Program} {G:Nat->Option (List AV)} {E:En} (i:Inv G E) {t:TypeId} {x ix v:AV} {u y:Value} (h:fZ P t x ix E.rows=some v) (hx:Rel E x u) (hi:Rel E ix y):
  ∃ z,(Instr.indexAt t u y).run P E.w=.ok z E.w/\Rel E v z:=by
 unfold fZ at h
 split at h
 .rename_i elem k n hu
  simp only [Rel] at hi
  subst hi
  split at h
  .rename_i sz hs
   split at h
   .rename_i full es
    split at h
    .rename_i e he
     simp only [au,ao] at h
     obtain ⟨⟨h1,h2⟩,rfl⟩:=h
     simp only [Rel] at hx
     obtain ⟨p,cap,rfl,a1,a2,a3,a4,b,off,sz',a5,a6⟩:=hx
     have hlt:=(aq.1 he).1
     have hne:es≠[]:=by intro e;subst e;simp at hlt
     obtain ⟨rfl,hS⟩:=a5.resolve_left hne
     obtain ⟨h3,vs,h4,h5⟩:=a6.get he
     have hn:n<es.length:=by omega
     refine ⟨.pointer (some ⟨b,off+n.toNat*sz,none⟩),by simp [Instr.indexAt,asIntOf,run_underlying hu,h1,hn,dZ hs,Addr.add_lit],?_⟩
     simp only [Rel]
     have:sz=sz':=by omega
     subst this
     exact ⟨b,_,vs,rfl,hS,h4,h5⟩
    .cases h
   .rename_i r ver off len sz' full
    simp only [au,bw] at h
    obtain ⟨⟨h1,h2,rfl⟩,cs,h3,rfl⟩:=h
    obtain ⟨cap,cur,e,rfl,_⟩:=kZ h3 hx
    have hn:n<(len:Int):=by omega
    exact ⟨.pointer (some ⟨E.ρ r,off+n.toNat*sz',none⟩),by simp [Instr.indexAt,asIntOf,run_underlying hu,h1,hn,dZ hs,Addr.add_lit],FJ h3 _⟩
   .cases h
  .cases h
 .rename_i len elem k n hu
  simp only [Rel] at hi
  subst hi
  split at h
  .rename_i sz hs
   split at h
   .rename_i r ver off
    simp only [au,bw] at h
    obtain ⟨⟨h1,h2⟩,cs,h3,rfl⟩:=h
    have hn:n<(len:Int):=by omega
    rw [rP h3 hx]
    exact ⟨.pointer (some ⟨E.ρ r,off+n.toNat*sz,none⟩),by simp [Instr.indexAt,asIntOf,run_underlying hu,h1,hn,dZ hs,Addr.add_lit,Instr.sureAddr],FJ h3 _⟩
   .rename_i cs
    simp only [au,ao] at h
    obtain ⟨⟨h1,h2⟩,rfl⟩:=h
    have hn:n<(len:Int):=by omega
    simp only [Rel] at hx
    obtain ⟨b,off,vs,rfl,h3,h4,h5⟩:=hx
    refine ⟨.pointer (some ⟨b,off+n.toNat*sz,none⟩),by simp [Instr.indexAt,asIntOf,run_underlying hu,h1,hn,dZ hs,Addr.add_lit,Instr.sureAddr],?_⟩
    simp only [Rel]
    exact ⟨b,_,_,rfl,h3,h4.drop _,h5.drop _⟩
   .cases h
  .cases h
 .cases h
def vA (P:Program) (t:TypeId) (x ix:AV):Option AV:=
 match P.underlying t,x,ix with
 |some (.array len elem),.agg cs,.int _ n=>match b5 P elem with
  |some sz=>if 0<=n/\n.toNat<len then sC P elem cs (n.toNat*sz) else none
  |none=>none
 |some .string,.str s,.int _ n=>if 0<=n then (s[n.toNat]?).map fun b=>.int .u8 b.toNat else none
 |_,_,_=>none
theorem RO {P:Program} {E:En} {t:TypeId} {x ix v:AV} {u y:Value} (h:vA P t x ix=some v) (hx:Rel E x u) (hi:Rel E ix y):
  ∃ z,(Instr.index t u y).run P E.w=.ok z E.w/\Rel E v z:=by
 unfold vA at h
 split at h
 .rename_i len elem cs k n hu
  simp only [Rel] at hi
  subst hi
  split at h
  .rename_i sz hs
   simp only [au] at h
   obtain ⟨⟨h1,h2⟩,h3⟩:=h
   simp only [Rel] at hx
   obtain ⟨vs,rfl,h4,h5⟩:=hx
   obtain ⟨z,h6,h7⟩:=EI h3 h4 h5
   have hn:n<(len:Int):=by omega
   exact ⟨z,by simp [Instr.index,asIntOf,run_underlying hu,h1,hn,dZ hs,h6],h7⟩
  .cases h
 .rename_i s k n hu
  simp only [Rel] at hi hx
  subst hi
  subst hx
  simp only [au,bw] at h
  obtain ⟨h1,b,h2,rfl⟩:=h
  exact ⟨.int .u8 b.toNat,by simp [Instr.index,asIntOf,run_underlying hu,h1,h2],by simp [Rel]⟩
 .cases h
def sW:AV->Option Nat
 | .int _ n=>if 0<=n then some n.toNat else none
 |_=>none
theorem jM {E:En} {x:AV} {n:Nat} {v:Value} (h:sW x=some n) (r:Rel E x v):∃ k,v=.int k (n:Int):=by
 cases x with
 |int k m=>
  simp only [sW,au,ao] at h
  simp only [Rel] at r
  subst r
  exact ⟨k,by congr 1;omega⟩
 |_=>cases h
def n6 (len:Nat) (lo hi mx:Option AV):Option (Nat × Nat × Option Nat):=
 match (match lo with|none=>some 0|some x=>sW x),(match hi with|none=>some len|some x=>sW x),(match mx with|none=>some none|some x=>(sW x).map some) with
 |some l,some h,some none=>if l<=h/\h<=len then some (l,h,none) else none
 |some l,some h,some (some m)=>if hi.isSome=true/\l<=h/\h<=m/\m<=len then some (l,h,some m) else none
 |_,_,_=>none
theorem gJ (P:Program) (w:World) {x:Value} {n y:Nat} {k:IntKind} (hx:x=.int k (n:Int)) (h:n<=y) (code:BoundsCode):(Instr.sliceBound x y code).run P w=.ok n w:=by
 subst hx
 have:(n:Int)<=(y:Int):=by omega
 simp [Instr.sliceBound,asIntOf,this]
theorem qM {P:Program} {E:En} {len cap:Nat} {lo hi mx:Option AV} {lo' hi' mx':Option Value} {l h:Nat} {m:Option Nat} (hc:len<=cap) (e:n6 len lo hi mx=some (l,h,m))
  (rl:∀ x,lo=some x->∃ v,lo'=some v/\Rel E x v) (rl':lo=none->lo'=none) (rh:∀ x,hi=some x->∃ v,hi'=some v/\Rel E x v) (rh':hi=none->hi'=none)
  (rm:∀ x,mx=some x->∃ v,mx'=some v/\Rel E x v) (rm':mx=none->mx'=none) (b:Bool):
  l<=h/\h<=len/\(∀ q,m=some q->h<=q/\q<=len)/\(Instr.sliceBounds b len cap lo' hi' mx').run P E.w=.ok (l,h,m.getD cap) E.w:=by
 unfold n6 at e
 split at e
 .rename_i l0 h0 e1 e2 e3
  simp only [au,ao,db] at e
  obtain ⟨⟨c1,c2⟩,rfl,rfl,rfl⟩:=e
  refine ⟨c1,c2,by simp,?_⟩
  have hm:mx'=none:=by
   cases mx with
   |none=>exact rm' rfl
   |some x=>simp at e3
  subst hm
  cases hi with
  |none=>
   rw [rh' rfl]
   simp only [ao] at e2
   subst e2
   cases lo with
   |none=>
    rw [rl' rfl]
    simp only [ao] at e1
    subst e1
    simp [Instr.sliceBounds]
   |some x=>
    obtain ⟨v,rfl,rv⟩:=rl x rfl
    obtain ⟨k,hk⟩:=jM e1 rv
    have:=gJ P E.w hk c1 .sliceB
    simp [Instr.sliceBounds,this]
  |some z=>
   obtain ⟨v,rfl,rv⟩:=rh z rfl
   obtain ⟨k,hk⟩:=jM e2 rv
   have hb:=fun code=>gJ P E.w hk (dj c2 hc) code
   cases lo with
   |none=>
    rw [rl' rfl]
    simp only [ao] at e1
    subst e1
    simp [Instr.sliceBounds,hb]
   |some x=>
    obtain ⟨v',rfl,rv'⟩:=rl x rfl
    obtain ⟨k',hk'⟩:=jM e1 rv'
    have:=gJ P E.w hk' c1 .sliceB
    simp [Instr.sliceBounds,this,hb]
 .rename_i l0 h0 m0 e1 e2 e3
  simp only [au,ao,db] at e
  obtain ⟨⟨c0,c1,c2,c3⟩,rfl,rfl,rfl⟩:=e
  refine ⟨c1,by omega,by simp;omega,?_⟩
  cases mx with
  |none=>simp at e3
  |some y=>
   simp only [bw,ao,exists_eq_right] at e3
   obtain ⟨vm,rfl,rvm⟩:=rm y rfl
   obtain ⟨km,hkm⟩:=jM e3 rvm
   have hm:=fun code=>gJ P E.w hkm (dj c3 hc) code
   cases hi with
   |none=>simp at c0
   |some z=>
    obtain ⟨v,rfl,rv⟩:=rh z rfl
    obtain ⟨k,hk⟩:=jM e2 rv
    have hb:=fun code=>gJ P E.w hk c2 code
    cases lo with
    |none=>
     rw [rl' rfl]
     simp only [ao] at e1
     subst e1
     simp [Instr.sliceBounds,hb,hm]
    |some x=>
     obtain ⟨v',rfl,rv'⟩:=rl x rfl
     obtain ⟨k',hk'⟩:=jM e1 rv'
     have:=gJ P E.w hk' c1 .slice3C
     simp [Instr.sliceBounds,this,hb,hm]
 .cases e
def oF (P : Program) (t : TypeId) (x : AV) (lo hi mx : Option AV) (rows : Nat -> ARow) : Option AV :=
 match P.underlying t,x with
 |some (.slice elem),.sl full es=>match b5 P elem,n6 es.length lo hi mx with
  |some sz,some (l,h,m)=>if es.all (fun e=>e.length=sz) then some (.sl (m==some h || (m==none&&full&&h==es.length)) ((es.drop l).take (h - l))) else none
  |_,_=>none
 |some (.slice elem),.osl r ver off n sz full=>match b5 P elem,n6 n lo hi mx with
  |some sz',some (l,h,m)=>if sz'=sz then (aU rows r ver).map fun _=>
    if l<h\/l=0 then .osl r ver (off+l*sz) (h - l) sz (m==some h || (m==none&&full&&h==n)) else .sl false [] else none
  |_,_=>none
 |some (.array len elem),.ptr r ver off=>match b5 P elem,n6 len lo hi mx with
  |some sz,some (l,h,m)=>match rows r with
   | .cells c cs=>if ver=c/\off+len*sz<=cs.length/\l<h/\len<=1000000 then some (.osl r ver (off+l*sz) (h - l) sz (m==some h || (m==none&&h==len))) else none
   |_=>none
  |_,_=>none
 |some .string,.str s=>match n6 s.size lo hi mx with
  |some (l,h,none)=>some (.str (s.extract l h))
  |_=>none
 |_,_=>none
theorem RM {P:Program} {G:Nat->Option (List AV)} {E:En} (i:Inv G E) {t:TypeId} {x v:AV} {u:Value} {lo hi mx:Option AV} {lo' hi' mx':Option Value}
  (h:oF P t x lo hi mx E.rows=some v) (hx:Rel E x u)
  (rl:∀ x,lo=some x->∃ v,lo'=some v/\Rel E x v) (rl':lo=none->lo'=none) (rh:∀ x,hi=some x->∃ v,hi'=some v/\Rel E x v) (rh':hi=none->hi'=none)
  (rm:∀ x,mx=some x->∃ v,mx'=some v/\Rel E x v) (rm':mx=none->mx'=none):
  ∃ z,(Instr.sliceAt t u lo' hi' mx').run P E.w=.ok z E.w/\Rel E v z:=by
 unfold oF at h
 split at h
 .rename_i elem full es hu
  split at h
  .rename_i sz l hh m hs hb
   simp only [au,ao] at h
   obtain ⟨hall,rfl⟩:=h
   simp only [Rel] at hx
   obtain ⟨p,cap,rfl,a1,a2,a3,a4,b,off,sz',a5,a6⟩:=hx
   obtain ⟨c1,c2,c3,c4⟩:=qM (P:=P) (E:=E) a1 hb rl rl' rh rh' rm rm' true
   refine ⟨.slice (if m.getD cap=l then p else p.map (·.add (l*sz))) (hh - l) (m.getD cap - l),by simp [Instr.sliceAt,Instr.slice,run_underlying hu,c4,dZ hs],?_⟩
   simp only [Rel]
   have hlen:((es.drop l).take (hh - l)).length=hh - l:=by simp;omega
   have hmc:m.getD cap<=cap/\hh<=m.getD cap:=by
    cases m with
    |none=>simp;omega
    |some q=>have:=c3 q rfl;simp;omega
   refine ⟨_,m.getD cap - l,by rw [hlen],by omega,by omega,?_,?_,?_⟩
   .intro hf
    simp only [eg,beq_iff_eq,ae] at hf
    rw [hlen]
    rcases hf with hf|⟨⟨hf1,hf2⟩,hf3⟩
    .rw [hf];simp
    .rw [hf1];simp;have:=a3 hf2;omega
   .intro hp
    split at hp
    .omega
    .simp at hp
     have:=a4 hp
     omega
   .by_cases he:(es.drop l).take (hh - l)=[]
    .exact ⟨0,0,0,.inl he,by rw [he];simp [RelE]⟩
    .have hlt:l<hh:=by
      rcases Nat.lt_or_ge l hh with h'|h'
      .exact h'
      .exfalso;apply he;rw [show hh - l=0 by omega];simp
     have hne:es≠[]:=by rintro rfl;simp at he
     obtain ⟨rfl,hS⟩:=a5.resolve_left hne
     have hsz:sz=sz':=by
      have e0:es[0]? =some es[0]:=ah (by cases es<;>simp_all)
      have h1:=(a6.get e0).1
      have h2:=cl.1 hall _ (List.getElem_mem (by cases es<;>simp_all:0<es.length))
      simp at h2
      omega
     subst hsz
     rw [if_neg (by omega)]
     refine ⟨b,off+l*sz,sz,.inr ⟨by simp [Addr.add_lit],hS⟩,(a6.drop l).take _⟩
  .cases h
 .rename_i elem r ver off n sz full hu
  split at h
  .rename_i sz' l hh m hs hb
   simp only [au,bw] at h
   obtain ⟨rfl,cs,h1,h2⟩:=h
   obtain ⟨cap,cur,e,rfl,a1,a2,a3,a4,a5⟩:=kZ h1 hx
   obtain ⟨c1,c2,c3,c4⟩:=qM (P:=P) (E:=E) a1 hb rl rl' rh rh' rm rm' true
   refine ⟨.slice (if m.getD cap=l then some ⟨E.ρ r,off,none⟩ else some ⟨E.ρ r,off+l*sz',none⟩) (hh - l) (m.getD cap - l),by simp [Instr.sliceAt,Instr.slice,run_underlying hu,c4,dZ hs,Addr.add_lit],?_⟩
   have hmc:m.getD cap<=cap/\hh<=m.getD cap:=by
    cases m with
    |none=>simp;omega
    |some q=>have:=c3 q rfl;simp;omega
   split at h2
   .rename_i hlt
    subst h2
    simp only [Rel,dN h1,RefOK]
    refine ⟨rfl,ap _,fun _=>⟨m.getD cap - l,cur,e,?_,by omega,by omega,?_,a4,?_⟩⟩
    .split
     .have:l=0:=by omega
      subst this;simp
     .rfl
    .intro hf
     simp only [eg,beq_iff_eq,ae] at hf
     rcases hf with hf|⟨⟨hf1,hf2⟩,hf3⟩
     .rw [hf];simp
     .rw [hf1];simp;have:=a3 hf2;omega
    .have:l*sz'+(m.getD cap - l)*sz'<=cap*sz':=by
      rw [<- eh];exact Nat.mul_le_mul_right _ (by omega)
     omega
   .rename_i hge
    subst h2
    simp only [Rel]
    refine ⟨_,m.getD cap - l,by rw [show hh - l=0 by omega];rfl,by simp,by omega,by simp,?_,0,0,0,by simp,by simp [RelE]⟩
    intro hp
    split at hp<;>cases hp
  .cases h
 .rename_i len elem r ver off hu
  split at h
  .rename_i sz l hh m hs hb
   split at h
   .rename_i c cs hrow
    simp only [au,ao] at h
    obtain ⟨⟨rfl,h2,h3,h3'⟩,rfl⟩:=h
    have h1:aU E.rows r ver=some cs:=by simp [aU,hrow]
    obtain ⟨cur,e,vs,k1,k2,k3,k4,k5⟩:=kV i h1
    obtain ⟨c1,c2,c3,c4⟩:=qM (P:=P) (E:=E) (ap len) hb rl rl' rh rh' rm rm' false
    have hcur:cs.length<=cur.size:=by
     have:(cur.toList.take cs.length).length=cs.length:=by rw [k4];exact k2.length
     simp at this;omega
    have hmc:m.getD len<=len/\hh<=m.getD len:=by
     cases m with
     |none=>simp;omega
     |some q=>have:=c3 q rfl;simp;omega
    rw [rP h1 hx]
    refine ⟨.slice (some ⟨E.ρ r,off+l*sz,none⟩) (hh - l) (m.getD len - l),?_,?_⟩
    .have:m.getD len≠l:=by omega
     simp [Instr.sliceAt,run_underlying hu,c4,dZ hs,Addr.add_lit,Instr.sureAddr,this]
    .simp only [Rel,dN h1,RefOK]
     refine ⟨rfl,ap _,fun _=>⟨m.getD len - l,cur,e,rfl,by omega,by simp [maxLen];omega,?_,k1,?_⟩⟩
     .intro hf
      simp only [eg,beq_iff_eq,ae] at hf
      rcases hf with hf|⟨hf1,hf2⟩
      .rw [hf];simp
      .rw [hf1];simp;omega
     .have:l*sz+(m.getD len - l)*sz<=len*sz:=by
       rw [<- eh];exact Nat.mul_le_mul_right _ (by omega)
      omega
   .cases h
  .cases h
 .rename_i s hu
  split at h
  .rename_i l hh hb
   injection h with h
   subst h
   simp only [Rel] at hx
   subst hx
   obtain ⟨c1,c2,c3,c4⟩:=qM (P:=P) (E:=E) (ap s.size) hb rl rl' rh rh' rm rm' false
   have hmx:mx'=none:=by
    cases mx with
    |none=>exact rm' rfl
    |some y=>
     unfold n6 at hb
     split at hb
     .rename_i e1 e2 e3
      simp at e3
     .simp at hb
     .cases hb
   subst hmx
   exact ⟨.string (s.extract l hh),by simp [Instr.sliceAt,Instr.slice,run_underlying hu,c4],by simp [Rel]⟩
  .cases h
 .cases h
end Go.AM
namespace Go.AM
def Z6 (op:BinOp) (a b:Int):Option AV:=
 match op with
 | .eql=>some (.bool (a==b))
 | .neq=>some (.bool (a != b))
 | .lss=>some (.bool (decide (a<b)))
 | .leq=>some (.bool (decide (a<=b)))
 | .gtr=>some (.bool (decide (a > b)))
 | .geq=>some (.bool (decide (a >= b)))
 |_=>none
def WE (op:BinOp) (k:IntKind) (a b:Int):Option AV:=
 match op with
 | .add=>some (.int k (k.wrap (a+b)))
 | .sub=>some (.int k (k.wrap (a - b)))
 | .mul=>some (.int k (k.wrap (a*b)))
 | .quo=>if b=0 then none else some (.int k (k.wrap (a.tdiv b)))
 | .rem=>if b=0 then none else some (.int k (a.tmod b))
 | .and=>some (.int k (k.wrap (BitVec.ofInt k.bits a &&& BitVec.ofInt k.bits b).toNat))
 | .or=>some (.int k (k.wrap (BitVec.ofInt k.bits a ||| BitVec.ofInt k.bits b).toNat))
 | .xor=>some (.int k (k.wrap (BitVec.ofInt k.bits a ^^^ BitVec.ofInt k.bits b).toNat))
 | .andNot=>some (.int k (k.wrap (BitVec.ofInt k.bits a &&& ~~~(BitVec.ofInt k.bits b)).toNat))
 |_=>Z6 op a b
def u9 (op:BinOp) (k:IntKind) (a b:Int):Option AV:=
 if b<0 then none else
 match op with
 | .shl=>some (.int k (k.wrap (a*2 ^ (min b.toNat k.bits))))
 | .shr=>some (.int k (a.fdiv (2 ^ (min b.toNat k.bits))))
 |_=>none
def Z3 (op:BinOp) (a b:ByteArray):Option AV:=
 match op with
 | .add=>if a.size+b.size<4611686018427387904 then some (.str (a++b)) else none
 | .eql=>some (.bool (a.toList==b.toList))
 | .neq=>some (.bool (!(a.toList==b.toList)))
 | .lss=>some (.bool (Op.bytesLess a.toList b.toList))
 | .leq=>some (.bool (Op.bytesLess a.toList b.toList || a.toList==b.toList))
 | .gtr=>some (.bool (!(Op.bytesLess a.toList b.toList || a.toList==b.toList)))
 | .geq=>some (.bool (!(Op.bytesLess a.toList b.toList)))
 |_=>none
def cN (P:Program) (t:TypeId):Bool:=match P.underlying t with|some .bool=>true|_=>false
def bY (P:Program) (t:TypeId):Bool:=match P.underlying t with|some (.slice _)=>true|_=>false
def nM (x:AV) (rows:Nat->ARow):Bool:=
 match x with
 | .sl _ es=> !es.isEmpty
 | .osl r ver _ _ _ _=>(aU rows r ver).isSome
 |_=>false
def k7:Operand->Bool
 | .const (.slice none 0 0)=>true
 |_=>false
def wX:AV->Bool
 | .sl _ es=>es.isEmpty
 |_=>false
def wH (P:Program) (as bs:List AV):List Field->Option Bool
 | []=>some true
 |f::fs=>if f.name= "_" then none else
  match as[f.offset]?,bs[f.offset]? with
  |some (.int k a),some (.int k' b)=>match P.underlying f.type with
   |some (.int _)=>if k=k' then (if (a==b)=true then wH P as bs fs else some false) else none
   |_=>none
  |some (.bool a),some (.bool b)=>match P.underlying f.type with
   |some .bool=>if (a==b)=true then wH P as bs fs else some false
   |_=>none
  |some (.str a),some (.str b)=>match P.underlying f.type with
   |some .string=>if (a.toList==b.toList)=true then wH P as bs fs else some false
   |_=>none
  |_,_=>none
def tD (P:Program) (t:TypeId):Bool:=match P.underlying t with|some (.struct _)=>true|_=>false
def H7 (P:Program) (op:BinOp) (t:TypeId) (x y:Operand) (a b:AV) (rows:Nat->ARow):Option AV:=
 match a,b with
 | .int k m,.int k' n=>match op with
  | .shl=>u9 op k m n
  | .shr=>u9 op k m n
  |_=>if k=k' then WE op k m n else none
 | .str m,.str n=>Z3 op m n
 | .bool m,.bool n=>if cN P t then (match op with| .eql=>some (.bool (m==n))| .neq=>some (.bool (!(m==n)))|_=>none) else none
 | .agg as,.agg bs=>if (tD P t&& !P.eqGuardType P.depth t&& !P.stoodInHeld t)=true then (match wH P as bs (P.fieldsOf t).toList with
  |some r=>(match op with| .eql=>some (.bool r)| .neq=>some (.bool (!r))|_=>none)
  |none=>none) else none
 |_,_=>if bY P t&&k7 y&&nM a rows then (match op with| .eql=>some (.bool false)| .neq=>some (.bool true)|_=>none)
  else if bY P t&&k7 y&&wX a then (match op with| .eql=>some .anyb| .neq=>some .anyb|_=>none) else none
theorem Z5 {P:Program} {E:En} {op:BinOp} {k:IntKind} {m n:Int} {v:AV} (hne:op≠.shl/\op≠.shr) (h:WE op k m n=some v) (t:TypeId):
  ∃ z,(binOp op t (.int k m) (.int k n)).run P E.w=.ok z E.w/\Rel E v z:=by
 cases op
 case shl=>exact absurd rfl hne.1
 case shr=>exact absurd rfl hne.2
 all_goals simp only [WE,Z6,ao,Option.ite_none_left_eq_some] at h
 case quo=>exact ⟨.int k (k.wrap (m.tdiv n)),by simp [binOp,Op.intDiv,h.1],by rw [<- h.2];simp [Rel]⟩
 case rem=>exact ⟨.int k (m.tmod n),by simp [binOp,Op.intDiv,h.1],by rw [<- h.2];simp [Rel]⟩
 all_goals
  subst h
  refine ⟨_,?_,by simp only [Rel];rfl⟩
  simp [binOp,Op.intArith,Op.intBits,Op.intCmp]
theorem o8 {P:Program} {w:World} {t:TypeId} (hu:P.underlying t=some .bool) (m n:Bool):(Op.equal t (.bool m) (.bool n)).run P w=.ok (m==n) w:=by
 unfold Op.equal
 rw [show Op.maxDepth=9999+1 from rfl,Op.equalIn]
 simp [run_underlying hu]
theorem mB {P:Program} {w:World} {t e:TypeId} (hu:P.underlying t=some (.slice e)) (a:Addr) (m c:Nat):(Op.equal t (.slice (some a) m c) (.slice none 0 0)).run P w=.ok false w:=by
 unfold Op.equal
 rw [show Op.maxDepth=9999+1 from rfl,Op.equalIn]
 simp [run_underlying hu]
theorem x8 {P:Program} {w:World} {t e:TypeId} (hu:P.underlying t=some (.slice e)) (m c:Nat):∃ b,(Op.equal t (.slice none m c) (.slice none 0 0)).run P w=.ok b w:=by
 unfold Op.equal
 rw [show Op.maxDepth=9999+1 from rfl,Op.equalIn]
 simp [run_underlying hu]
theorem Q6 {P:Program} {E:En} {w:World} {as bs:List AV} {us vs:List Value} (ha:RelL E as us) (hb:RelL E bs vs) (d:Nat):∀ (fs:List Field) (r:Bool),wH P as bs fs=some r->(Op.eqFields (d+1) us.toArray vs.toArray fs).run P w=.ok r w
 | [],r,h=>by
  simp only [wH,ao] at h
  subst h
  simp [Op.eqFields]
 |f::fs,r,h=>by
  simp only [wH] at h
  split at h
  .cases h
  rename_i hn
  have fin:∀ (p q:Value) (b:Bool),us[f.offset]? =some p->vs[f.offset]? =some q->P.plainKey f.type=true->(Op.equalIn (d+1) f.type p q).run P w=.ok b w->(if b=true then wH P as bs fs else some false)=some r->
    (Op.eqFields (d+1) us.toArray vs.toArray (f::fs)).run P w=.ok r w:=by
   intro p q b h1 h2 h3 h4 h5
   have p1:=run_part_plain (P:=P) w h3 (xs:=us.toArray) (off:=f.offset) (v:=p) (by simpa using h1)
   have p2:=run_part_plain (P:=P) w h3 (xs:=vs.toArray) (off:=f.offset) (v:=q) (by simpa using h2)
   simp only [Op.eqFields,hn,ne_eq,not_false_eq_true,if_true,Sem.run_bind,p1,p2,h4,Result.andThen_ok]
   cases b
   .simp only [aw,if_false,ao] at h5
    subst h5
    simp
   .simp only [if_true] at h5
    simpa using Q6 ha hb d fs r h5
  split at h
  .rename_i k a k' b hx hy
   obtain ⟨p,p1,p2⟩:=ha.get hx
   obtain ⟨q,q1,q2⟩:=hb.get hy
   simp only [Rel] at p2 q2
   subst p2 q2
   split at h
   .rename_i kk hu
    simp only [au] at h
    obtain ⟨rfl,h⟩:=h
    exact fin _ _ (a==b) p1 q1 (by simp [Program.plainKey,hu]) (run_equalIn_int w d f.type k kk a b hu) h
   .cases h
  .rename_i a b hx hy
   obtain ⟨p,p1,p2⟩:=ha.get hx
   obtain ⟨q,q1,q2⟩:=hb.get hy
   simp only [Rel] at p2 q2
   subst p2 q2
   split at h
   .rename_i hu
    exact fin _ _ (a==b) p1 q1 (by simp [Program.plainKey,hu]) (run_equalIn_bool' w d f.type a b hu) h
   .cases h
  .rename_i a b hx hy
   obtain ⟨p,p1,p2⟩:=ha.get hx
   obtain ⟨q,q1,q2⟩:=hb.get hy
   simp only [Rel] at p2 q2
   subst p2 q2
   split at h
   .rename_i hu
    exact fin _ _ (a.toList==b.toList) p1 q1 (by simp [Program.plainKey,hu]) (run_equalIn_string w d f.type a b hu) h
   .cases h
  .cases h
theorem Z7 {P:Program} {G:Nat->Option (List AV)} {E:En} (i:Inv G E) {op:BinOp} {t:TypeId} {x y:Operand} {a b v:AV} {u z:Value} (h:H7 P op t x y a b E.rows=some v) (ha:Rel E a u) (hb:Rel E b z)
  (hy:k7 y=true->z=.slice none 0 0):
  ∃ r,(do eqGuard op t x y u z;binOp op t u z:Sem Value).run P E.w=.ok r E.w/\Rel E v r:=by
 unfold H7 at h
 split at h
 .rename_i k m k' n
  simp only [Rel] at ha hb
  subst ha
  subst hb
  have hg:(eqGuard op t x y (.int k m) (.int k' n)).run P E.w=.ok () E.w:=by
   unfold eqGuard
   cases op<;>simp
  simp only [Sem.run_bind,hg,Result.andThen_ok]
  have hsh:∀ op',op'=BinOp.shl\/op'=BinOp.shr->u9 op' k m n=some v->∃ r,(Op.shift op' k m k' n).run P E.w=.ok r E.w/\Rel E v r:=by
   intro op' ho h'
   simp only [u9,Option.ite_none_left_eq_some] at h'
   obtain ⟨h1,h2⟩:=h'
   rcases ho with rfl|rfl
   .simp only [ao] at h2
    subst h2
    refine ⟨_,?_,by simp only [Rel];rfl⟩
    simp [Op.shift,h1]
   .simp only [ao] at h2
    subst h2
    refine ⟨_,?_,by simp only [Rel];rfl⟩
    simp [Op.shift,h1]
  split at h
  .simpa [binOp] using hsh .shl (.inl rfl) h
  .simpa [binOp] using hsh .shr (.inr rfl) h
  .rename_i h1 h2
   simp only [au] at h
   obtain ⟨rfl,h⟩:=h
   exact Z5 ⟨h1,h2⟩ h t
 .rename_i m n
  simp only [Rel] at ha hb
  subst ha
  subst hb
  have hg:(eqGuard op t x y (.string m) (.string n)).run P E.w=.ok () E.w:=by
   unfold eqGuard
   cases op<;>simp
  simp only [Sem.run_bind,hg,Result.andThen_ok]
  cases op<;>simp only [Z3,ao,au] at h
  case add=>
   obtain ⟨h1,h2⟩:=h
   have:((m.size:Int)+(n.size:Int))<=9223372036854775807:=by omega
   exact ⟨.string (m++n),by simp [binOp,Op.stringOp,this],by rw [<- h2];simp [Rel]⟩
  all_goals first
   |(cases h;done)
   | (subst h
      refine ⟨_,?_,by simp only [Rel];rfl⟩
      simp [binOp,Op.stringOp])
 .rename_i m n
  simp only [Rel] at ha hb
  subst ha
  subst hb
  have hg:(eqGuard op t x y (.bool m) (.bool n)).run P E.w=.ok () E.w:=by
   unfold eqGuard
   cases op<;>simp
  simp only [Sem.run_bind,hg,Result.andThen_ok]
  simp only [au] at h
  obtain ⟨h1,h⟩:=h
  have hu:P.underlying t=some .bool:=by unfold cN at h1;split at h1;assumption;cases h1
  cases op<;>simp only [ao] at h
  case eql=>exact ⟨.bool (m==n),by simp [binOp,o8 hu],by rw [<- h];simp [Rel]⟩
  case neq=>exact ⟨.bool (!(m==n)),by simp [binOp,o8 hu],by rw [<- h];simp [Rel]⟩
  all_goals cases h
 .rename_i as bs
  simp only [au,ae,Bool.not_eq_true'] at h
  obtain ⟨⟨⟨h1,h2⟩,h3⟩,h⟩:=h
  split at h
  case h_2=>cases h
  rename_i r hr
  simp only [Rel] at ha hb
  obtain ⟨us,rfl,ha2,_⟩:=ha
  obtain ⟨vs,rfl,hb2,_⟩:=hb
  have hu:P.underlying t=some (.struct (P.fieldsOf t)):=by
   unfold tD at h1
   split at h1
   .rename_i fs hf;rw [hf];simp [Program.fieldsOf,hf]
   .cases h1
  have he:(Op.equalIn 10000 t (.agg us.toArray) (.agg vs.toArray)).run P E.w=.ok r E.w:=by
   rw [show 10000=9998+1+1 from rfl,run_equalIn_agg E.w (9998+1) t _ _ hu h3]
   exact Q6 ha2 hb2 9998 _ r hr
  simp only [Sem.run_bind,run_eqGuard_agg E.w op t x y _ _ h2,Result.andThen_ok]
  cases op<;>simp only [ao] at h
  case eql=>exact ⟨.bool r,by rw [run_eql_struct,he];rfl,by rw [<- h];simp [Rel]⟩
  case neq=>exact ⟨.bool (!r),by rw [run_neq_struct,he];rfl,by rw [<- h];simp [Rel]⟩
  all_goals cases h
 .split at h
  .rename_i hc
   simp only [ae] at hc
   obtain ⟨⟨h1,h2⟩,h3⟩:=hc
   obtain ⟨e,hu⟩:∃ e,P.underlying t=some (.slice e):=by unfold bY at h1;split at h1;exact ⟨_,by assumption⟩;cases h1
   have hz:=hy h2
   subst hz
   obtain ⟨ad,n,c,rfl⟩:∃ ad n c,u=.slice (some ad) n c:=by
    cases a with
    |sl full es=>
     simp only [Rel] at ha
     obtain ⟨p,cap,rfl,_,_,_,_,b,off,sz,a5,_⟩:=ha
     have:es≠[]:=by simpa [nM] using h3
     obtain ⟨rfl,_⟩:=a5.resolve_left this
     exact ⟨_,_,_,rfl⟩
    |osl r ver off n sz full=>
     simp only [nM] at h3
     obtain ⟨cs,hc⟩:=Option.isSome_iff_exists.1 h3
     obtain ⟨cap,cur,e,rfl,_⟩:=kZ hc ha
     exact ⟨_,_,_,rfl⟩
    |_=>simp [nM] at h3
   have hg:(eqGuard op t x y (.slice (some ad) n c) (.slice none 0 0)).run P E.w=.ok () E.w:=by
    unfold eqGuard
    cases op<;>simp
   simp only [Sem.run_bind,hg,Result.andThen_ok]
   cases op<;>simp only [ao] at h
   case eql=>exact ⟨.bool false,by simp [binOp,mB hu],by rw [<- h];simp [Rel]⟩
   case neq=>exact ⟨.bool true,by simp [binOp,mB hu],by rw [<- h];simp [Rel]⟩
   all_goals cases h
  .simp only [au,ae] at h
   obtain ⟨⟨⟨h1,h2⟩,h3⟩,h⟩:=h
   obtain ⟨e,hu⟩:∃ e,P.underlying t=some (.slice e):=by unfold bY at h1;split at h1;exact ⟨_,by assumption⟩;cases h1
   have hz:=hy h2
   subst hz
   obtain ⟨p,n,c,rfl⟩:∃ p n c,u=.slice p n c:=by
    cases a with
    |sl full es=>simp only [Rel] at ha;obtain ⟨p,cap,rfl,_⟩:=ha;exact ⟨_,_,_,rfl⟩
    |_=>simp [wX] at h3
   have hg:(eqGuard op t x y (.slice p n c) (.slice none 0 0)).run P E.w=.ok () E.w:=by
    unfold eqGuard
    cases op<;>simp
   simp only [Sem.run_bind,hg,Result.andThen_ok]
   obtain ⟨bb,hbb⟩:∃ b,(Op.equal t (.slice p n c) (.slice none 0 0)).run P E.w=.ok b E.w:=by
    cases p with
    |none=>exact x8 hu n c
    |some ad=>exact ⟨false,mB hu ad n c⟩
   cases op<;>simp only [ao] at h
   case eql=>exact ⟨.bool bb,by simp [binOp,hbb],by rw [<- h];simp [Rel]⟩
   case neq=>exact ⟨.bool (!bb),by simp [binOp,hbb],by rw [<- h];simp [Rel]⟩
   all_goals cases h
def aUn (op:UnOp) (x:AV):Option AV:=
 match op,x with
 | .neg,.int k n=>some (.int k (k.wrap (0 - n)))
 | .xor,.int k n=>some (.int k (k.wrap (BitVec.ofInt k.bits (if k.signed then -1 else k.max) ^^^ BitVec.ofInt k.bits n).toNat))
 | .not,.bool b=>some (.bool !b)
 |_,_=>none
theorem aBm {P:Program} {E:En} {op:UnOp} {x v:AV} {u:Value} (h:aUn op x=some v) (hx:Rel E x u):∃ r,(Op.unary op u).run P E.w=.ok r E.w/\Rel E v r:=by
 unfold aUn at h
 split at h
 all_goals first
  |(cases h;done)
  | (injection h with h
     subst h
     simp only [Rel] at hx
     subst hx
     refine ⟨_,?_,by simp only [Rel];rfl⟩
     simp [Op.unary,Op.intArith,Op.intBits])
def bytesOf:List (List AV)->Option (List Int)
 | []=>some []
 | [.int .u8 n]::es=>(bytesOf es).map (n::·)
 |_=>none
theorem AW:∀ {es:List (List AV)} {ns:List Int},bytesOf es=some ns->es=ns.map fun n=>[AV.int .u8 n]
 | [],ns,h=>by simp only [bytesOf,ao] at h;subst h;rfl
 |e::es,ns,h=>by
  unfold bytesOf at h
  split at h
  .rename_i h1;cases h1
  .rename_i n es' h1
   injection h1 with h1 h2
   subst h1 h2
   obtain ⟨ms,h3,rfl⟩:=bw.1 h
   rw [AW h3];rfl
  .cases h
theorem yH {E:En}:∀ {ns:List Int} {vs:List Value},RelL E (ns.map (AV.int .u8)) vs->vs=ns.map (Value.int .u8)
 | [],vs,h=>by simpa only [bu,RelL] using h
 |n::ns,vs,h=>by
  simp only [ay,RelL,Rel] at h
  obtain ⟨v,rest,rfl,rfl,h⟩:=h
  rw [yH h];rfl
theorem zZ:∀ ns:List Int,(ns.map fun n=>[AV.int .u8 n]).flatten=ns.map (AV.int .u8)
 | []=>rfl
 |n::ns=>by rw [ay,cw,zZ ns];rfl
def pQ (ns:List Int):ByteArray:=ns.foldl (fun r n=>r.push (UInt8.ofNat n.toNat)) ByteArray.empty
def YL (P:Program) (e:TypeId):Bool:=match P.underlying e with|some (.int .u8)=>true|_=>false
def m8 (P:Program) (src dst:TypeId) (x:AV):Option AV:=
 match P.underlying src,P.underlying dst,x with
 |some _,some (.int k),.int _ n=>some (.int k (k.wrap n))
 |some _,some .string,.str s=>some (.str s)
 |some (.slice e),some .string,.sl _ es=>if YL P e=true then (bytesOf es).map fun ns=>.str (pQ ns) else none
 |_,_,_=>none
theorem LG {P:Program} {E:En} {src dst:TypeId} {x v:AV} {u:Value} (h:m8 P src dst x=some v) (hx:Rel E x u):∃ r,(convert src dst u).run P E.w=.ok r E.w/\Rel E v r:=by
 unfold m8 at h
 split at h
 .rename_i d k k' n h1 h2
  injection h with h
  subst h
  simp only [Rel] at hx
  subst hx
  exact ⟨.int k (k.wrap n),by simp [convert,run_underlying h1,run_underlying h2,Conv.intToInt],by simp [Rel]⟩
 .rename_i d s h1 h2
  injection h with h
  subst h
  simp only [Rel] at hx
  subst hx
  exact ⟨.string s,by simp [convert,run_underlying h1,run_underlying h2],by simp [Rel]⟩
 .rename_i e f es h1 h2
  split at h
  .rename_i hu
   obtain ⟨ns,hn,rfl⟩:=bw.1 h
   have he:P.underlying e=some (.int .u8):=by
    unfold YL at hu
    split at hu
    .assumption
    .cases hu
   have hes:=AW hn
   have hfl:es.flatten=ns.map (AV.int .u8):=by rw [hes];exact zZ ns
   have hnl:es.length=ns.length:=by rw [hes,bp]
   simp only [Rel] at hx
   obtain ⟨p,cap,rfl,a1,a2,a3,a4,b,off,sz,a5,a6⟩:=hx
   refine ⟨.string (pQ ns),?_,by simp [Rel]⟩
   rw [run_convert_bytes_string E.w src dst e _ _ _ h1 he h2]
   cases p with
   |none=>
    have h0:=a4 rfl
    have:ns=[]:=cu (by omega)
    subst this
    simp [Conv.bytesToString,pQ]
   |some a=>
    rw [hnl]
    refine run_bytesToString E.w a ns.length cap ns ?_
    have key:∀ j v,(ns.map (Value.int .u8))[j]? =some v->E.w.cell? (a.add j)=some v:=by
     rcases a5 with h0|⟨h0,_⟩
     .rw [h0] at hnl
      have:ns=[]:=cu (by simpa using hnl.symm)
      subst this
      intro j v hj;simp at hj
     .injection h0 with h0
      subst h0
      obtain ⟨vs,k1,k2,k3⟩:=a6.flat
      rw [hfl] at k1
      have:=yH k1
      subst this
      intro j v hj
      rw [Addr.add_lit]
      exact k2.1 j v hj
    have:=run_loadCells_list (P:=P) (w:=E.w) a (ns.map (Value.int .u8)) key
    rwa [bp] at this
  .cases h
 .cases h
def fL (place:Nat->Option (Nat × Nat)):List AV->List (Nat × AV)->Option (List AV)
 |cells,[]=>some cells
 |cells,(i,v)::rest=>
  match place i,v.toCells with
  |some (off,size),some vc=>if vc.length=size/\off+size<=cells.length then fL place (gK cells off vc) rest else none
  |_,_=>none
theorem KB:∀ (new:List Value) (k off:Nat) (cells:Array Value),off+k+new.length<=cells.size->
  ((new.zipIdx k).foldl (fun cs (c,j)=>cs.setIfInBounds (off+j) c) cells).toList=cells.toList.take (off+k)++new++cells.toList.drop (off+k+new.length)
 | [],k,off,cells,_=>by simp
 |v::rest,k,off,cells,h=>by
  simp only [List.zipIdx_cons,gr]
  have ih:=KB rest (k+1) off (cells.setIfInBounds (off+k) v) (by simp at h ⊢;omega)
  rw [ih]
  have:=list_seg_step cells.toList (off+k) v rest (by simp at h ⊢;omega)
  simp only [Array.toList_setIfInBounds,<- Nat.add_assoc] at this ⊢
  rw [this]
  simp [Nat.add_assoc]
def H8 (E:En):List (Nat × AV)->List (Nat × Value)->Prop
 | [],[]=>True
 |p::l,q::m=>(p.1=q.1/\Rel E p.2 q.2)/\H8 E l m
 |_,_=>False
theorem tL {E:En} {place:Nat->Option (Nat × Nat)}:∀ {parts:List (Nat × AV)} {parts':List (Nat × Value)} {cells cells1:List AV} {vs:List Value},
  fL place cells parts=some cells1->RelL E cells vs->(∀ u∈vs,u.oneCell'=true)->H8 E parts parts'->
  ∃ vs1:List Value,Instr.fill place vs.toArray parts'=some vs1.toArray/\RelL E cells1 vs1/\(∀ u∈vs1,u.oneCell'=true)/\vs1.length=vs.length
 | [],q::qs,_,_,_,_,_,_,f=>by simp [H8] at f
 |p::l,[],_,_,_,_,_,_,f=>by simp [H8] at f
 | [],[],cells,cells1,vs,h,r,h1,f=>by
  simp only [fL,ao] at h
  subst h
  exact ⟨vs,rfl,r,h1,rfl⟩
 | (i, v) :: rest, (i', v') :: qs, cells, cells1, vs, h, r, h1, f => by
   obtain ⟨hp,hf⟩:=f
   obtain ⟨rfl,hv⟩:=hp
   simp only [fL] at h
   split at h
   .rename_i off size vc hpl hvc
    simp only [au] at h
    obtain ⟨⟨h2,h3⟩,h4⟩:=h
    obtain ⟨ys,y1,y2,y3⟩:=eQ hvc hv
    have hyl:=y2.length
    have hl:=r.length
    obtain ⟨vs1,k1,k2,k3,k4⟩:=tL (vs:=vs.take off++ys++vs.drop (off+ys.length)) h4 (by unfold gK;rw [<- hyl];exact ((r.take off).append y2).append (r.drop _))
     (fun u hu=>by
      rcases bo.1 hu with hu|hu
      .rcases bo.1 hu with hu|hu
       .exact h1 u (List.take_subset _ _ hu)
       .exact y3 u hu
      .exact h1 u (List.drop_subset _ _ hu)) hf
    refine ⟨vs1,?_,k2,k3,by rw [k4];simp;omega⟩
    have hs:v'.cells.size=size:=by rw [y1];simp;omega
    have e:(v'.cells.zipIdx.foldl (fun cs (c,j)=>cs.setIfInBounds (off+j) c) vs.toArray)=(vs.take off++ys++vs.drop (off+ys.length)).toArray:=by
     apply ja
     rw [y1,<- Array.foldl_toList]
     have:=KB ys 0 off vs.toArray (by simp;omega)
     simpa using this
    rw [Instr.fill,hpl]
    simp only [hs]
    rw [if_neg (by simp;omega),e]
    exact k1
   .cases h
def yM (P:Program) (fields:Array Field):Option (List (Nat × Nat)):=fields.toList.mapM (fun f=>(P.info? f.type).map fun i=>(f.offset,i.size))
def fS (P:Program) (t:TypeId) (parts:List (Nat × AV)):Option AV:=
 match P.underlying t,(b6 P t).bind AV.toCells with
 |some (.array _ e),some z=>match b5 P e with
  |some sz=>(fL (fun i=>some (i*sz,sz)) z parts).map .agg
  |none=>none
 |some (.struct fields),some z=>match yM P fields with
  |some places=>(fL (fun i=>places[i]?) z parts).map .agg
  |none=>none
 |_,_=>none
theorem RS {P:Program} {E:En} {t:TypeId} {parts:List (Nat × AV)} {parts':Array (Nat × Value)} {v:AV} (h:fS P t parts=some v)
  (f:H8 E parts parts'.toList):∃ r,(Instr.build t parts').run P E.w=.ok r E.w/\Rel E v r:=by
 unfold fS at h
 cases hz:b6 P t with
 |none=>rw [hz] at h;cases hu:P.underlying t<;>simp [hu] at h<;>split at h<;>simp_all
 |some z=>
  rw [hz] at h
  simp only [ij] at h
  obtain ⟨zv,hzv,rfl⟩:=fH hz E.w
  obtain ⟨it,hit,hitz⟩:∃ it,P.info? t=some it/\it.zero=some zv:=by
   simp only [zeroValue,typeInfo,Sem.run_bind,run_program,Result.andThen_ok] at hzv
   cases hi:P.info? t with
   |none=>simp [hi] at hzv
   |some it=>
    simp [hi] at hzv
    cases hz':it.zero with
    |none=>simp [hz'] at hzv
    |some u=>simp [hz'] at hzv;exact ⟨it,rfl,by rw [hz',hzv]⟩
  split at h
  .rename_i n e zc hu hzc
   split at h
   .rename_i sz hs
    simp only [bw] at h
    obtain ⟨cs,h1,rfl⟩:=h
    obtain ⟨zs,z1,z2,z3⟩:=eQ hzc (iE E zv)
    obtain ⟨vs1,k1,k2,k3,_⟩:=tL h1 z2 z3 f
    obtain ⟨ie,hie,hie'⟩:∃ ie,P.info? e=some ie/\ie.size=sz:=by simpa [b5] using hs
    refine ⟨.agg vs1.toArray,run_build E.w t parts' _ ?_,by simp only [Rel];exact ⟨vs1,rfl,k2,k3⟩⟩
    simp [Program.built,hit,hu,hitz,hie,hie',z1,k1]
   .cases h
  .rename_i fields zc hu hzc
   split at h
   .rename_i places hp
    simp only [bw] at h
    obtain ⟨cs,h1,rfl⟩:=h
    obtain ⟨zs,z1,z2,z3⟩:=eQ hzc (iE E zv)
    obtain ⟨vs1,k1,k2,k3,_⟩:=tL h1 z2 z3 f
    refine ⟨.agg vs1.toArray,run_build E.w t parts' _ ?_,by simp only [Rel];exact ⟨vs1,rfl,k2,k3⟩⟩
    unfold yM at hp
    simp [Program.built,hit,hu,hitz,hp,z1,k1]
   .cases h
  .cases h
end Go.AM
namespace Go.AM
def pO (sz:Nat):Nat->List AV->List (List AV)
 |0,_=>[]
 |n+1,cs=>cs.take sz::pO sz n (cs.drop sz)
theorem j5 (sz:Nat):∀ (n:Nat) (cs:List AV),(pO sz n cs).length=n
 |0,_=>rfl
 |n+1,cs=>by simp [pO,j5 sz n]
theorem yI {E:En} {b sz:Nat}:∀ {n off:Nat} {cs:List AV} {vs:List Value},RelL E cs vs->CellsAt E.w b off vs->cs.length=n*sz->RelE E (pO sz n cs) b off sz
 |0,_,_,_,_,_,_=>by simp [pO,RelE]
 |n+1,off,cs,vs,r,c,h=>by
  simp only [pO,RelE]
  rw [eh] at h
  exact ⟨⟨by simp;omega,vs.take sz,r.take sz,c.take sz⟩,yI (r.drop sz) (c.drop sz) (by simp;omega)⟩
def lN (z:List AV) (n:Nat):List AV:=(List.replicate n z).flatten
theorem FZ (z:List Value) (n:Nat):((Array.range (n*z.length)).map (z.toArray[· % z.length]!)).toList=(List.replicate n z).flatten:=by
 simp only [Array.toList_map,Array.toList_range]
 induction n with
 |zero=>simp
 |succ n ih=>
  rw [eh,Nat.one_mul,List.range_add,dq,ih,List.replicate_succ',ei]
  congr 1
  simp only [gn,cw,ey,br]
  apply List.ext_getElem
  .simp
  .intro i h1 h2
   simp at h1
   simp [jb h1,h1]
theorem qC {E:En} {z:List AV} {vs:List Value} (r:RelL E z vs) (h1:∀ u∈vs,u.oneCell'=true):∀ (n:Nat),RelL E (lN z n) (List.replicate n vs).flatten/\∀ u∈(List.replicate n vs).flatten,u.oneCell'=true
 |0=>by simp [lN,RelL]
 |n+1=>by
  have ih:=qC r h1 n
  simp only [lN,List.replicate_succ,cw]
  refine ⟨r.append ih.1,fun u hu=>?_⟩
  rcases bo.1 hu with hu|hu
  .exact h1 u hu
  .exact ih.2 u hu
theorem nT (z:List AV) (n:Nat):(lN z n).length=n*z.length:=by simp [lN]
def fN (P:Program) (t:TypeId):Option TypeId:=match P.underlying t with|some (.slice e)=>some e|_=>none
theorem nX {P:Program} {t e:TypeId} (h:fN P t=some e):P.underlying t=some (.slice e):=by
 unfold fN at h
 split at h
 .injection h with h;subst h;assumption
 .cases h
theorem j6 {P:Program} {t:TypeId} {n:Nat} (h:b5 P t=some n):∃ i,P.info? t=some i/\i.size=n:=by simpa [b5] using h
theorem wK {P:Program} {t:TypeId} {z:AV} {i:TypeInfo} (hi:P.info? t=some i) (h:b6 P t=some z):∃ v,i.zero=some v/\z=oR v:=by
 unfold b6 at h
 rw [hi] at h
 cases hz:i.zero with
 |none=>simp [hz] at h
 |some v=>simp [hz] at h;exact ⟨v,rfl,h.symm⟩
def iO (P:Program) (t:TypeId) (len:Nat) (parts:List (Nat × AV)):Option AV:=
 match fN P t with
 |some e=>match b5 P e,(b6 P e).bind AV.toCells with
  |some sz,some z=>if z.length=sz/\len*sz<=16777216/\len<=16777216 then (fL (fun i=>some (i*sz,sz)) (lN z len) parts).map fun cs=>.sl true (pO sz len cs) else none
  |_,_=>none
 |none=>none
theorem RG {G:Nat->Option (List AV)} {E:En} (i:Inv G E) (vs:List Value) (e:TypeId):
  let E':En:=⟨E.w.alloc (.cells vs.toArray e),fun b=>E.S b\/b=E.w.heap.size,E.ρ,E.rows⟩
  Ext E E'/\Inv G E':=by
 refine oX i _ _ rfl rfl rfl (by simp) (fun b hb=>heap_alloc_old _ _ hb) (fun b h=>.inl h) fun b h=>?_
 rcases h with h|rfl
 .exact .inl h
 .exact .inr ⟨ap _,by simp⟩
theorem KR (w:World) (vs:List Value) (e:TypeId) (h:∀ u∈vs,u.oneCell'=true):CellsAt (w.alloc (.cells vs.toArray e)) w.heap.size 0 vs:=
 ⟨fun j u hj=>by rw [cell_of_row _ _ _ _ _ _ (heap_alloc_new w _)];simpa using hj,h⟩
theorem tM {place:Nat->Option (Nat × Nat)}:∀ {parts:List (Nat × AV)} {cells cells1:List AV},fL place cells parts=some cells1->cells1.length=cells.length
 | [],cells,cells1,h=>by simp only [fL,ao] at h;rw [h]
 |(i,v)::rest,cells,cells1,h=>by
  simp only [fL] at h
  split at h
  .simp only [au] at h
   rw [tM h.2]
   simp [gK]
   omega
  .cases h
theorem B9 {P:Program} {G:Nat->Option (List AV)} {E:En} (i:Inv G E) {t:TypeId} {len:Nat} {parts:List (Nat × AV)} {parts':Array (Nat × Value)} {v:AV} (h:iO P t len parts=some v)
  (f:H8 E parts parts'.toList):Runs P G E (Instr.buildSlice t len parts') ⟨v,[]⟩:=by
 unfold iO at h
 split at h
 .rename_i e he
  have hu:=nX he
  split at h
  .rename_i sz zc hs hz
   simp only [au,bw] at h
   obtain ⟨⟨h1,h2,h2'⟩,cs,h3,rfl⟩:=h
   simp only [fv] at hz
   obtain ⟨z,hz,hzc⟩:=hz
   obtain ⟨inf,hinf,hisz⟩:=j6 hs
   obtain ⟨zv,hzv,rfl⟩:=wK hinf hz
   obtain ⟨zs,z1,z2,z3⟩:=eQ hzc (iE E zv)
   have hzl:zs.length=sz:=by rw [z2.length];exact h1
   obtain ⟨r1,r2⟩:=qC z2 z3 len
   obtain ⟨vs1,k1,k2,k3,k4⟩:=tL h3 r1 r2 f
   have hst:=RG i vs1 e
   have hk2:=k2.ext i hst.1
   refine ⟨.slice (some ⟨E.w.heap.size,0,none⟩) len len,_,?_,?_,hst.1,hst.2,rfl⟩
   .by_cases h0:len*sz=0
    .have e0:(List.replicate len zs).flatten=[]:=by
      apply cu
      simp [hzl,h0]
     rw [e0] at k1
     simp only [Instr.buildSlice,Sem.run_bind,run_underlying hu,Result.andThen_ok,dZ hs,h0]
     have er:Array.range 0= #[]:=rfl
     simp [newRow,er,k1]
    .refine run_buildSlice E.w t e len parts' vs1.toArray inf zv hu hinf hzv (by rw [hisz];omega) (by rw [hisz];exact h0) ?_
     rw [hisz,z1]
     have hm:(Array.range (len*sz)).map (zs.toArray[· % zs.toArray.size]!)=((List.replicate len zs).flatten).toArray:=by
      apply ja
      rw [<- hzl]
      simpa using FZ zs len
     rw [hm]
     exact k1
   .simp only [Rel]
    have hcl:cs.length=len*sz:=by rw [tM h3,nT,h1]
    refine ⟨_,len,by rw [j5],by simp [j5],?_,by simp [j5],by simp,E.w.heap.size,0,sz,.inr ⟨rfl,.inr rfl⟩,yI hk2 (KR E.w vs1 e k3) hcl⟩
    simp only [maxLen]
    omega
  .cases h
 .cases h
def BA (z:AV) (rows:Nat->ARow) (nb:Nat):Option eL:=
 match z.toCells,rows nb with
 |some cs,.none=>some ⟨.ptr nb 0 0,[(nb,.cells 0 cs)]⟩
 |_,_=>none
theorem CZ {P:Program} {G:Nat->Option (List AV)} {E:En} (i:Inv G E) {z:AV} {u:Value} {nb:Nat} {eff:eL} (t:TypeId) (h:BA z E.rows nb=some eff) (hz:Rel E z u):
  Runs P G E (do pure (.pointer (some (<- newVar t u)))) eff:=by
 unfold BA at h
 split at h
 .rename_i cs hc hn
  injection h with h
  subst h
  obtain ⟨vs,h1,h2,h3⟩:=eQ hc hz
  have hst:=xM i hn vs.toArray t cs vs h2 h3 (by simp [<- h2.length])
  refine ⟨.pointer (some ⟨E.w.heap.size,0,none⟩),_,by simp [newVar,newRow,h1],?_,hst.1,hst.2,rfl⟩
  simp [Rel,RefOK,upd,Value.oneCell']
 .cases h
def fY (P:Program) (t:TypeId) (l c:AV) (rows:Nat->ARow) (nb:Nat):Option eL:=
 match fN P t,sW l,sW c,rows nb with
 |some e,some n,some m,.none=>match b5 P e,cJ P e,(b6 P e).bind AV.toCells with
  |some sz,some by',some z=>if z.length=sz/\n<=m/\m*(by'+1)<=140737488355328 then some ⟨.osl nb 0 0 n sz (decide (n=m)),[(nb,.cells 0 (lN z n))]⟩ else none
  |_,_,_=>none
 |_,_,_,_=>none
theorem BV {P:Program} {G:Nat->Option (List AV)} {E:En} (i:Inv G E) {t:TypeId} {l c:AV} {u v:Value} {nb:Nat} {eff:eL} (h:fY P t l c E.rows nb=some eff) (hl:Rel E l u) (hc:Rel E c v):
  Runs P G E (Instr.makeSlice t u v) eff:=by
 unfold fY at h
 split at h
 .rename_i e n m he hn hm hnb
  have hu:=nX he
  split at h
  .rename_i sz by' zc hs hb hz
   simp only [au,ao] at h
   obtain ⟨⟨h1,h2,h3⟩,rfl⟩:=h
   simp only [fv] at hz
   obtain ⟨z,hz,hzc⟩:=hz
   obtain ⟨inf,hinf,hisz⟩:=j6 hs
   obtain ⟨zv,hzv,rfl⟩:=wK hinf hz
   obtain ⟨zs,z1,z2,z3⟩:=eQ hzc (iE E zv)
   have hzl:zs.length=sz:=by rw [z2.length];exact h1
   obtain ⟨k,rfl⟩:=jM hn hl
   obtain ⟨k',rfl⟩:=jM hm hc
   have hib:inf.bytes=by':=by simpa [cJ,hinf] using hb
   rw [Nat.mul_add,Nat.mul_one] at h3
   have hbm:(inf.bytes:Int)*(m:Int)<=281474976710656:=by
    rw [hib,<- Int.natCast_mul,Nat.mul_comm]
    omega
   have hrun:=run_make (P:=P) E.w t e inf zv hu hinf hzv k k' n m (by omega) (by omega) hbm (by omega)
   obtain ⟨r1,r2⟩:=qC z2 z3 n
   have hm:(madeCells zv.cells (m*sz)).toList=(List.replicate m zs).flatten:=by
    unfold madeCells
    rw [z1,<- hzl]
    simpa using FZ zs m
   have htake:(List.replicate m zs).flatten.take (n*sz)=(List.replicate n zs).flatten:=by
    rw [show m=n+(m - n) by omega,<- List.replicate_append_replicate,ei,List.take_append_of_le_length (by simp [hzl])]
    rw [bx (by simp [hzl])]
   have hst:=xM i hnb (madeCells zv.cells (m*sz)) e (lN zc n) _ r1 r2 (by rw [hm,nT,h1,htake])
   refine ⟨_,_,by simpa [hisz] using hrun,?_,hst.1,hst.2,rfl⟩
   simp only [Rel,RefOK,upd,if_true]
   refine ⟨rfl,ap _,fun _=>⟨m,madeCells zv.cells (m*sz),e,rfl,h2,by simp [maxLen];omega,by simp;omega,heap_alloc_new _ _,by simp [size_madeCells]⟩⟩
  .cases h
 .cases h
end Go.AM
namespace Go.AM
def NB (s:ByteArray):List AV:=s.data.toList.map fun b=>.int .u8 b.toNat
def cW (sz:Nat) (x:AV) (rows:Nat->ARow):Option (Nat × List AV):=
 match x with
 | .sl _ es=>if es.all (fun e=>e.length=sz) then some (es.length,es.flatten) else none
 | .osl r ver off n sz' _=>(aU rows r ver).bind fun cs=>if sz'=sz/\off+n*sz<=cs.length then some (n,(cs.drop off).take (n*sz)) else none
 | .str s=>if sz=1 then some (s.size,NB s) else none
 |_=>none
theorem wP {P:Program} {G:Nat->Option (List AV)} {E:En} (i:Inv G E) {sz:Nat} {x:AV} {u:Value} {m:Nat} {new:List AV} (h:cW sz x E.rows=some (m,new)) (hx:Rel E x u):
  ∃ vs,RelL E new vs/\(∀ y∈vs,y.oneCell'=true)/\vs.length=m*sz/\(∀ w',(Builtin.lenOf u).run P w'=.ok m w')/\
   (∀ w',w'.heap=E.w.heap->(Builtin.firstCells sz m u).run P w'=.ok vs.toArray w'):=by
 have hcell:∀ (w':World) (a:Addr),w'.heap=E.w.heap->w'.cell? a=E.w.cell? a:=fun w' a e=>by simp [World.cell?,e]
 cases x with
 |sl full es=>
  simp only [cW,au,ao,db] at h
  obtain ⟨h1,rfl,rfl⟩:=h
  simp only [Rel] at hx
  obtain ⟨p,cap,rfl,a1,a2,a3,a4,b,off,sz',a5,a6⟩:=hx
  rcases a5 with rfl|⟨rfl,hS⟩
  .refine ⟨[],by simp [RelL],by simp,by simp,fun w'=>by simp [Builtin.lenOf],fun w' _=>?_⟩
   cases p with
   |none=>simp [Builtin.firstCells]
   |some a=>simp [Builtin.firstCells,loadCells,loadCellsFrom]
  .obtain ⟨vs,v1,v2,v3⟩:=a6.flat
   have hl:vs.length=es.length*sz:=by
    cases es with
    |nil=>simpa using v3
    |cons e es=>
     have e1:=(a6.get (i:=0) rfl).1
     have e2:=cl.1 h1 e (by simp)
     simp at e2
     rw [v3,<- e1,e2]
   refine ⟨vs,v1,v2.2,hl,fun w'=>by simp [Builtin.lenOf],fun w' hw=>?_⟩
   exact run_firstCells_some w' sz es.length ⟨b,off,none⟩ es.length cap vs hl fun j v hj=>by rw [Addr.add_lit,hcell _ _ hw];exact v2.1 j v hj
 |osl r ver off n sz' full=>
  simp only [cW,fv,au,ao,db] at h
  obtain ⟨cs,h1,⟨rfl,h2⟩,rfl,rfl⟩:=h
  obtain ⟨cap,cur,e,rfl,a1,a2,a3,a4,a5⟩:=kZ h1 hx
  obtain ⟨cur',e',vs,k1,k2,k3,k4,k5⟩:=kV i h1
  have k6:=(k5.drop off).take (n*sz')
  rw [cp] at k6
  have hl:((vs.drop off).take (n*sz')).length=n*sz':=by simp [k2.length];omega
  refine ⟨(vs.drop off).take (n*sz'),(k2.drop off).take _,k6.2,hl,fun w'=>by simp [Builtin.lenOf],fun w' hw=>?_⟩
  exact run_firstCells_some w' sz' n ⟨E.ρ r,off,none⟩ n cap _ hl fun j v hj=>by rw [Addr.add_lit,hcell _ _ hw];exact k6.1 j v hj
 |str s=>
  simp only [cW,au,ao,db] at h
  obtain ⟨rfl,rfl,rfl⟩:=h
  simp only [Rel] at hx
  subst hx
  refine ⟨s.data.toList.map fun b=>.int .u8 b.toNat,RelL.mk (by simp [NB]) fun j c v hc hv=>?_,by simp [Value.oneCell'],by simp,fun w'=>by simp [Builtin.lenOf],fun w' _=>?_⟩
  .simp only [NB,bh,bw] at hc hv
   obtain ⟨b,b1,rfl⟩:=hc
   obtain ⟨b',b2,rfl⟩:=hv
   rw [b1] at b2
   injection b2 with b2
   subst b2
   simp [Rel]
  .have:s.extract 0 s.size=s:=by simp
   simp [Builtin.firstCells,this]
   apply ja
   simp
 |_=>cases h
def gM (P:Program) (t:TypeId):Bool:=match P.underlying t with|some (.int _)=>false|some _=>true|none=>false
theorem CV {P:Program} {t:TypeId} (h:gM P t=true):∃ d,P.underlying t=some d/\∀ k,d≠.int k:=by
 unfold gM at h
 split at h
 .cases h
 .rename_i d hne hu
  exact ⟨d,hu,fun k e=>by subst e;exact hne k rfl⟩
 .cases h
theorem F8 {P:Program} {w:World} {t u ty e:TypeId} {i:TypeInfo} (ht:P.underlying t=some (.slice e)) (hu:gM P u=true) (hi:P.info? e=some i)
  {base:Option Addr} {n cap m:Nat} {x:Value} {news:List Value} (hl:(Builtin.lenOf x).run P w=.ok m w) (hf:(Builtin.firstCells i.size m x).run P w=.ok news.toArray w) (hroom:n+m<=cap):
  (Builtin.append_ #[t,u] ty #[.slice base n cap,x]).run P w=
   match base with
   |some a=>((storeCells (a.add (n*i.size)) news).run P w).andThen fun _ w'=>.ok (.slice base (n+m) cap) w'
   |none=>.ok (.slice base (n+m) cap) w:=by
 obtain ⟨d,hd,hne⟩:=CV hu
 have hz:(match d with| .int _=>true|_=>false)=false:=by cases d<;>first|rfl|exact absurd rfl (hne _)
 cases base with
 |none=>simp [Builtin.append_,run_underlying ht,run_underlying hd,hz,sizeOf,typeInfo,hi,hl,hroom,hf]
 |some a=>simp [Builtin.append_,run_underlying ht,run_underlying hd,hz,sizeOf,typeInfo,hi,hl,hroom,hf]
theorem F9 {P:Program} {w:World} {t u ty e:TypeId} {i:TypeInfo} {z:Value} (ht:P.underlying t=some (.slice e)) (hu:gM P u=true) (hi:P.info? e=some i) (hz:i.zero=some z)
  {base:Option Addr} {n cap m:Nat} {x:Value} {olds news:List Value} (hl:∀ w',(Builtin.lenOf x).run P w'=.ok m w') (hf:∀ w',w'.heap=w.heap->(Builtin.firstCells i.size m x).run P w'=.ok news.toArray w')
  (ho:∀ w',w'.heap=w.heap->(Builtin.firstCells i.size n (.slice base n cap)).run P w'=.ok olds.toArray w')
  (hg:cap<n+m) (h63:((n+m:Nat):Int)<=9223372036854775807) (hfit:Builtin.nextslicecap (n+m) cap*i.bytes<=281474976710656):
  (Builtin.append_ #[t,u] ty #[.slice base n cap,x]).run P w=
   .ok (.slice (some ⟨w.heap.size,0,none⟩) (n+m) (grownCap w (n+m) cap e))
    (w.drew.alloc (.cells (olds.toArray++news.toArray++Builtin.zeroCells z.cells (grownCap w (n+m) cap e - (n+m))) e)):=by
 obtain ⟨d,hd,hne⟩:=CV hu
 have hzz:(match d with| .int _=>true|_=>false)=false:=by cases d<;>first|rfl|exact absurd rfl (hne _)
 have hn:¬ (n+m<=cap):=by omega
 have h63':¬ (9223372036854775807<((n:Int)+(m:Int))):=by omega
 have h48':¬ (281474976710656<Builtin.nextslicecap (n+m) cap*i.bytes):=by omega
 have hf1:=hf w.drew rfl
 have ho1:=ho w.drew rfl
 simp [Builtin.append_,run_underlying ht,run_underlying hd,hzz,sizeOf,typeInfo,zeroValue,hi,hz,hl,hn,h63',h48',Question.forced,hf1,ho1,newRow,grownCap]
 congr 2
 apply ja
 simp [bj]
def GA (P:Program) (t:TypeId):Bool:=match P.underlying t with|some (.int _)=>true|_=>false
def qP (P : Program) (u : TypeId) (s x : AV) (rows : Nat -> ARow) : Option eL :=
 match x with
 | .int .i64 n=>if n=0/\GA P u=true then (match s with
   | .sl f es=>some ⟨.sl f es,[]⟩
   | .osl r ver off n sz f=>(match aU rows r ver with
    |some _=>some ⟨.osl r ver off n sz f,[]⟩
    |none=>none)
   | .rsv r=>some ⟨.rsv r,[]⟩
   |_=>none) else none
 |_=>none
theorem o9 {P:Program} {w:World} {t u ty e:TypeId} {k:IntKind} {inf:TypeInfo} (ht:P.underlying t=some (.slice e)) (hu:P.underlying u=some (.int k)) (hi:P.info? e=some inf) (base:Option Addr) (len cap:Nat) (hle:len<=cap):
  (Builtin.append_ #[t,u] ty #[.slice base len cap,.int .i64 0]).run P w=.ok (.slice base len cap) w:=by
 have hw:IntKind.i64.wrap 0=0:=rfl
 have h0:∀ w,(asInt (.int .i64 0)).run P w=.ok 0 w:=fun _=>rfl
 cases base<;>simp [Builtin.append_,run_underlying ht,run_underlying hu,sizeOf,typeInfo,hi,h0,hw,hle,storeCells]
theorem NH {P:Program} {G:Nat->Option (List AV)} {E:En} (i:Inv G E) {t u ty e:TypeId} {inf:TypeInfo} {s x:AV} {p q:Value} {eff:eL} (ht:P.underlying t=some (.slice e)) (hi:P.info? e=some inf) (h:qP P u s x E.rows=some eff) (hs:Rel E s p) (hx:Rel E x q):
  Runs P G E (Builtin.append_ #[t,u] ty #[p,q]) eff:=by
 unfold qP at h
 split at h
 .rename_i n
  simp only [au] at h
  obtain ⟨⟨rfl,hint⟩,h⟩:=h
  simp only [Rel] at hx
  subst hx
  obtain ⟨k,hk⟩:∃ k,P.underlying u=some (.int k):=by
   unfold GA at hint
   split at hint
   .rename_i k hk;exact ⟨k,hk⟩
   .cases hint
  split at h
  .rename_i f es
   injection h with h
   subst h
   have hs':=hs
   simp only [Rel] at hs
   obtain ⟨pa,cap,rfl,a1,_⟩:=hs
   exact Runs.val i ⟨_,o9 ht hk hi pa _ cap a1,hs'⟩
  .rename_i r ver off n sz f
   split at h
   .rename_i cs hcs
    injection h with h
    subst h
    obtain ⟨cap,cur,e0,rfl,a1,_⟩:=kZ hcs hs
    exact Runs.val i ⟨_,o9 ht hk hi _ _ cap a1,hs⟩
   .cases h
  .injection h with h
   subst h
   have hs':=hs
   simp only [Rel] at hs
   obtain ⟨pa,rfl⟩:=hs
   exact Runs.val i ⟨_,o9 ht hk hi pa 0 0 (ap _),hs'⟩
  .cases h
 .cases h
theorem ST {α:Type} (cur news:List α) (A L:Nat) (h1:A<=L) (h3:A+news.length<=cur.length) (h2:L<=cur.length):
  (cur.take A++news++cur.drop (A+news.length)).take (A+news.length+(L - (A+news.length)))=(cur.take L).take A++news++(cur.take L).drop (A+news.length):=by
 have hl:(cur.take A++news).length=A+news.length:=by simp;omega
 rw [List.take_append,bx (by rw [hl];omega),hl,List.take_take,jn (by omega),List.drop_take]
 congr 2
 omega
def L6 (s : AV) (rows : Nat -> ARow) (nb sz by' m : Nat) (new : List AV) : Option eL :=
 match s with
 | .sl full es=>
  if full=true/\es.all (fun e=>e.length=sz)/\(es.length+m)*(by'+1)<=140737488355328 then
   (if m=0 then some ⟨s,[]⟩ else match rows nb with| .none=>some ⟨.osl nb 0 0 (es.length+m) sz false,[(nb,.cells 0 (es.flatten++new))]⟩|_=>none)
  else none
 | .osl r ver off n sz' full=>match aU rows r ver with
  |none=>none
  |some cs=>
   if sz'=sz/\off+n*sz<=cs.length/\(n+m)*(by'+1)<=140737488355328 then
    (if full=true then
     (if m=0 then some ⟨s,[]⟩ else match rows nb with| .none=>some ⟨.osl nb 0 0 (n+m) sz false,[(nb,.cells 0 ((cs.drop off).take (n*sz)++new))]⟩|_=>none)
    else if off=0 then some ⟨.osl r (ver+1) 0 (n+m) sz false,[(r,.cells (ver+1) (cs.take (n*sz)++new))]⟩ else none)
   else none
 | .rsl r ver off n sz'=>match aU rows r ver with
  |none=>none
  |some cs=>
   if sz'=sz/\off=0/\m=1/\n*sz<=cs.length then
    some ⟨.osl r ver 0 (n+1) sz false,[(r,.cells ver (cs.take (n*sz)++new++cs.drop ((n+1)*sz)))]⟩
   else none
 | .rsv r=>
  if m*(by'+1)<=140737488355328 then
   (if m=0 then some ⟨s,[]⟩ else match rows r with| .none=>some ⟨.osl r 0 0 m sz false,[(r,.cells 0 new)]⟩|_=>none)
  else none
 |_=>none
def aBj (P:Program) (u:TypeId) (s x:AV) (rows:Nat->ARow) (nb sz by':Nat) (z:List AV):Option eL:=
 match x with
 | .int .i64 n=>if n=0 then qP P u s x rows
  else if 0<=n/\n<=1000000000/\GA P u=true/\z.length=sz/\n*by'<=281474976710656 then L6 s rows nb sz by' n.toNat (List.replicate n.toNat z).flatten else none
 |_=>none
def eP (P : Program) (t u : TypeId) (s x : AV) (rows : Nat -> ARow) (nb : Nat) : Option eL :=
 match fN P t with
 |none=>none
 |some e=>match b5 P e,cJ P e,(b6 P e).bind AV.toCells with
  |some sz,some by',some z=>match cW sz x rows with
   |none=>aBj P u s x rows nb sz by' z
   |some (m,new)=>
    if gM P u=true/\z.length=sz then
    L6 s rows nb sz by' m new
    else none
  |_,_,_=>none
theorem DK (w:World) (e:TypeId) (need old:Nat) (vs:List Value) (z:Value) (sz:Nat) (hz:z.cells.size=sz) (hv:vs.length=need*sz):
  (vs.toArray++Builtin.zeroCells z.cells (grownCap w need old e - need)).size=grownCap w need old e*sz:=by
 have hge:=grownCap_ge w need old e
 simp only [Array.size_append,List.size_toArray,size_zeroCells,hz,hv,<- eh]
 congr 1
 omega
theorem H3 {P:Program} {G:Nat->Option (List AV)} {E:En} (i:Inv G E) {e:TypeId} {sz need old nb:Nat} {cs:List AV} {vs:List Value} {z:Value} (hn:E.rows nb=.none) (r:RelL E cs vs) (h1:∀ u∈vs,u.oneCell'=true)
  (hv:vs.length=need*sz) (hz:z.cells.size=sz) (h63:need<=maxLen):
  ∃ E',E'.w=E.w.drew.alloc (.cells (vs.toArray++Builtin.zeroCells z.cells (grownCap E.w need old e - need)) e)/\
   Rel E' (.osl nb 0 0 need sz false) (.slice (some ⟨E.w.heap.size,0,none⟩) need (grownCap E.w need old e))/\Ext E E'/\Inv G E'/\E'.rows=upd E.rows [(nb,.cells 0 cs)]:=by
 have hd:=CA i
 have hst:=xM hd.2 (r:=nb) hn (vs.toArray++Builtin.zeroCells z.cells (grownCap E.w need old e - need)) e cs vs (r.ext i hd.1) h1 (by simp [<- r.length])
 refine ⟨_,rfl,?_,hd.1.trans hst.1,hst.2,rfl⟩
 simp only [Rel,RefOK,upd,if_true]
 exact ⟨rfl,ap _,fun _=>⟨_,_,e,rfl,grownCap_ge _ _ _ _,grownCap_le_maxLen _ _ _ _ h63,by simp,heap_alloc_new _ _,by rw [DK E.w e need old vs z sz hz hv];omega⟩⟩
theorem W5 {P:Program} {G:Nat->Option (List AV)} {E:En} (i:Inv G E) {e:TypeId} {sz need old r ver:Nat} {cs0 cs:List AV} {vs:List Value} {z:Value} (hr:E.rows r=.cells ver cs0) (rl:RelL E cs vs) (h1:∀ u∈vs,u.oneCell'=true)
  (hv:vs.length=need*sz) (hz:z.cells.size=sz) (h63:need<=maxLen):
  ∃ E',E'.w=E.w.drew.alloc (.cells (vs.toArray++Builtin.zeroCells z.cells (grownCap E.w need old e - need)) e)/\
   Rel E' (.osl r (ver+1) 0 need sz false) (.slice (some ⟨E.w.heap.size,0,none⟩) need (grownCap E.w need old e))/\Ext E E'/\Inv G E'/\E'.rows=upd E.rows [(r,.cells (ver+1) cs)]:=by
 have hd:=CA i
 have hst:=QF hd.2 (r:=r) hr (Nat.lt_succ_self ver) (vs.toArray++Builtin.zeroCells z.cells (grownCap E.w need old e - need)) e cs vs (rl.ext i hd.1) h1 (by simp [<- rl.length])
 refine ⟨_,rfl,?_,hd.1.trans hst.1,hst.2,rfl⟩
 simp only [Rel,RefOK,upd,if_true]
 exact ⟨rfl,ap _,fun _=>⟨_,_,e,rfl,grownCap_ge _ _ _ _,grownCap_le_maxLen _ _ _ _ h63,by simp,heap_alloc_new _ _,by rw [DK E.w e need old vs z sz hz hv];omega⟩⟩
theorem oA (a b:List Value) (c:Array Value):(a++b).toArray++c=a.toArray++b.toArray++c:=by simp
theorem j3 {a b:List Value} (ha:∀ u∈a,u.oneCell'=true) (hb:∀ u∈b,u.oneCell'=true):∀ u∈a++b,u.oneCell'=true:=fun u hu=>by
 rcases bo.1 hu with h|h
 .exact ha u h
 .exact hb u h
theorem Q3 {P:Program} {G:Nat->Option (List AV)} {E:En} (i:Inv G E) {t u ty e:TypeId} {s:AV} {p q:Value} {nb m:Nat} {new:List AV} {news:List Value} {eff:eL} {inf:TypeInfo} {zv:Value} (hzs:zv.cells.size=inf.size)
  (hR:∀ {base:Option Addr} {n cap:Nat},n+m<=cap->(Builtin.append_ #[t,u] ty #[.slice base n cap,q]).run P E.w=
   match base with
   |some a=>((storeCells (a.add (n*inf.size)) news).run P E.w).andThen fun _ w'=>.ok (.slice base (n+m) cap) w'
   |none=>.ok (.slice base (n+m) cap) E.w)
  (hG:∀ {base:Option Addr} {n cap:Nat} {olds:List Value},(∀ w',w'.heap=E.w.heap->(Builtin.firstCells inf.size n (.slice base n cap)).run P w'=.ok olds.toArray w')->cap<n+m->((n+m:Nat):Int)<=9223372036854775807->Builtin.nextslicecap (n+m) cap*inf.bytes<=281474976710656->
   (Builtin.append_ #[t,u] ty #[.slice base n cap,q]).run P E.w=
   .ok (.slice (some ⟨E.w.heap.size,0,none⟩) (n+m) (grownCap E.w (n+m) cap e))
    (E.w.drew.alloc (.cells (olds.toArray++news.toArray++Builtin.zeroCells zv.cells (grownCap E.w (n+m) cap e - (n+m))) e)))
  (n1:RelL E new news) (n2:∀ y∈news,y.oneCell'=true) (n3:news.length=m*inf.size)
  (h:L6 s E.rows nb inf.size inf.bytes m new=some eff) (hs:Rel E s p):Runs P G E (Builtin.append_ #[t,u] ty #[p,q]) eff:=by
 unfold L6 at h
 have fit:∀ {n cap:Nat},cap<n+m->(n+m)*(inf.bytes+1)<=140737488355328->Builtin.nextslicecap (n+m) cap*inf.bytes<=281474976710656:=by
  intro n cap hlt hbig
  rw [Nat.mul_add,Nat.mul_one] at hbig
  exact growslice_fits hlt (by omega)
 have sm:∀ {n:Nat},(n+m)*(inf.bytes+1)<=140737488355328->n+m<=140737488355328:=by
  intro n hbig
  rw [Nat.mul_add,Nat.mul_one] at hbig
  omega
 split at h
 .rename_i full es
  simp only [au] at h
  obtain ⟨⟨rfl,hall,hbig⟩,h⟩:=h
  have hsm:=sm hbig
  have hs':=hs
  simp only [Rel] at hs
  obtain ⟨pa,cap,rfl,a1,a2,a3,a4,b,off,sz',a5,a6⟩:=hs
  have hcap:=a3 trivial
  subst hcap
  split at h
  .rename_i hm
   injection h with h
   subst h
   subst hm
   have hnil:news=[]:=cu (by simpa using n3)
   subst hnil
   refine Runs.val i ⟨_,?_,hs'⟩
   rw [hR (by omega)]
   cases pa with
   |none=>simp
   |some a=>simp [storeCells]
  .rename_i hm
   split at h
   .rename_i hnb
    injection h with h
    subst h
    obtain ⟨olds,o1,o2,o3,o4⟩:∃ olds,RelL E es.flatten olds/\(∀ y∈olds,y.oneCell'=true)/\olds.length=es.length*inf.size/\
      ∀ w',w'.heap=E.w.heap->(Builtin.firstCells inf.size es.length (.slice pa es.length es.length)).run P w'=.ok olds.toArray w':=by
     obtain ⟨vs,v1,v2,v3,v4,v5⟩:=wP (P:=P) i (sz:=inf.size) (x:=.sl true es) (m:=es.length) (new:=es.flatten) (by simp only [cW];rw [if_pos hall]) hs'
     exact ⟨vs,v1,v2,v3,v5⟩
    have hrun:=hG o4 (by omega) (by omega) (fit (by omega) hbig)
    obtain ⟨E',e1,e2,e3,e4,e5⟩:=H3 (P:=P) i (e:=e) (old:=es.length) (need:=es.length+m) (sz:=inf.size) hnb (o1.append n1) (j3 o2 n2) (by simp [o3,n3,eh]) hzs (by simp [maxLen];omega)
    rw [oA] at e1
    exact ⟨_,E',by rw [hrun,e1],e2,e3,e4,e5⟩
   .cases h
 .rename_i r ver off n sz' full
  split at h
  .cases h
  .rename_i cs hcs
   simp only [au] at h
   obtain ⟨⟨rfl,hfit,hbig⟩,h⟩:=h
   have hsm:=sm hbig
   obtain ⟨cap,cur,e0,rfl,a1,a2,a3,a4,a5⟩:=kZ hcs hs
   obtain ⟨olds,o1,o2,o3,o4,o5⟩:=wP (P:=P) i (sz:=inf.size) (x:=.osl r ver off n inf.size full) (m:=n) (new:=(cs.drop off).take (n*inf.size)) (by simp only [cW,hcs,ij];rw [if_pos ⟨trivial,hfit⟩]) hs
   split at h
   .rename_i hfull
    have hcap:=a3 hfull
    subst hcap
    split at h
    .rename_i hm
     injection h with h
     subst h
     subst hm
     have hnil:news=[]:=cu (by simpa using n3)
     subst hnil
     refine Runs.val i ⟨_,?_,hs⟩
     rw [hR (by omega)]
     simp [storeCells]
    .split at h
     .rename_i hm hnb
      injection h with h
      subst h
      have hrun:=hG o5 (by omega) (by omega) (fit (by omega) hbig)
      obtain ⟨E',e1,e2,e3,e4,e5⟩:=H3 (P:=P) i (e:=e) (old:=cap) (need:=cap+m) (sz:=inf.size) hnb (o1.append n1) (j3 o2 n2) (by simp [o3,n3,eh]) hzs (by simp [maxLen];omega)
      rw [oA] at e1
      exact ⟨_,E',by rw [hrun,e1],e2,e3,e4,e5⟩
     .cases h
   .simp only [au,ao] at h
    obtain ⟨rfl,rfl⟩:=h
    rw [co] at o1
    have hrow:=dN hcs
    by_cases hroom:n+m<=cap
    .have hl1:n*inf.size+news.length<=cur.size:=by
      rw [n3,<- eh]
      have:=Nat.mul_le_mul_right inf.size hroom
      omega
     have hstc:=run_storeCells_at P (E.ρ r) (n*inf.size) e0 news 0 cur E.w a4 (by simpa using hl1) n2
     simp only [fy] at hstc
     have hcl:cur.toList.take (n*inf.size)=olds:=by
      obtain ⟨cur',e',vs,k1,k2,k3,k4,k5⟩:=kV i hcs
      rw [a4] at k1
      injection k1 with k1
      injection k1 with k1
      subst k1
      have:=o5 E.w rfl
      have hh:=run_firstCells_some (P:=P) E.w inf.size n ⟨E.ρ r,0,none⟩ n cap (vs.take (n*inf.size)) (by simp [k2.length];omega) fun j v hj=>by rw [Addr.add_lit];exact (k5.take _).1 j v hj
      rw [hh] at this
      injection this with this
      have this:vs.take (n*inf.size)=olds:=by simpa using congrArg Array.toList this
      rw [<- this,<- k4,List.take_take]
      congr 1
      omega
     have hsize:(cur.toList.take (n*inf.size)++news++cur.toList.drop (n*inf.size+news.length)).toArray.size=cur.size:=by simp;omega
     have hst:=sK i hrow (Nat.le_succ ver) (cur.toList.take (n*inf.size)++news++cur.toList.drop (n*inf.size+news.length)).toArray (cs.take (n*inf.size)++new) (olds++news)
      (fun cur0 e1 fz hc=>by rw [a4] at hc;injection hc with hc;injection hc with hc;rw [hsize,hc]) (o1.append n1) (j3 o2 n2)
      (by rw [show (cs.take (n*inf.size)++new).length=(olds++news).length from (o1.append n1).length.symm,hcl,List.toList_toArray];exact jg)
     refine ⟨.slice (some ⟨E.ρ r,0,none⟩) (n+m) cap,_,?_,?_,hst.1,hst.2,rfl⟩
     .rw [hR hroom]
      simp only [Addr.add_lit,cp]
      rw [hstc]
      rfl
     .simp only [Rel,RefOK,upd,if_true]
      refine ⟨rfl,ap _,fun _=>⟨cap,_,e0,rfl,hroom,a2,by simp,setRow_heap _ _ _ _ _ _ a4,by rw [hsize];exact a5⟩⟩
    .have hrun:=hG o5 (by omega) (by omega) (fit (by omega) hbig)
     obtain ⟨E',e1,e2,e3,e4,e5⟩:=W5 (P:=P) i (e:=e) (old:=cap) (need:=n+m) (sz:=inf.size) hrow (o1.append n1) (j3 o2 n2) (by simp [o3,n3,eh]) hzs (by simp [maxLen];omega)
     rw [oA] at e1
     exact ⟨_,E',by rw [hrun,e1],e2,e3,e4,e5⟩
 .rename_i r ver off n sz'
  split at h
  .cases h
  .rename_i cs hcs
   simp only [au,ao] at h
   obtain ⟨⟨rfl,rfl,rfl,hfit⟩,rfl⟩:=h
   have hrow:=dN hcs
   simp only [Rel,hrow,RefOK] at hs
   obtain ⟨cap,cur,e0,rfl,a1,a2,a3,a4,a5⟩:=hs.2.2 trivial
   obtain ⟨cur',e',vs,k1,k2,k3,k4,k5⟩:=kV i hcs
   rw [a4] at k1
   injection k1 with k1
   injection k1 with k1
   subst k1
   have hnl:news.length=inf.size:=by rw [n3,Nat.one_mul]
   have hvl:=k2.length
   have e1s:(n+1)*inf.size=n*inf.size+inf.size:=by rw [eh,Nat.one_mul]
   have hcs2:cs.length<=cur.size:=by have:=congrArg List.length k4;simp at this;omega
   have hroom:(n+1)*inf.size<=cur.size:=by have:=Nat.mul_le_mul_right inf.size a3;omega
   have hl1:n*inf.size+news.length<=cur.size:=by rw [hnl];omega
   have hstc:=run_storeCells_at P (E.ρ r) (n*inf.size) e0 news 0 cur E.w a4 (by simpa using hl1) n2
   simp only [fy] at hstc
   have hsize:(cur.toList.take (n*inf.size)++news++cur.toList.drop (n*inf.size+news.length)).toArray.size=cur.size:=by simp;omega
   have hrel:RelL E (cs.take (n*inf.size)++new++cs.drop ((n+1)*inf.size)) (vs.take (n*inf.size)++news++vs.drop ((n+1)*inf.size)):=((k2.take _).append n1).append (k2.drop _)
   have hcl:(cs.take (n*inf.size)++new++cs.drop ((n+1)*inf.size)).length=n*inf.size+news.length+(cs.length - (n+1)*inf.size):=by have:=n1.length;simp;omega
   have htake:(cur.toList.take (n*inf.size)++news++cur.toList.drop (n*inf.size+news.length)).take (n*inf.size+news.length+(cs.length - (n+1)*inf.size))=vs.take (n*inf.size)++news++vs.drop ((n+1)*inf.size):=by
    have e2:(n+1)*inf.size=n*inf.size+news.length:=by rw [e1s,hnl]
    rw [<- k4,e2]
    exact ST cur.toList news (n*inf.size) cs.length hfit (by simpa using hl1) (by simpa using hcs2)
   have hst:=sK i hrow (ap ver) (cur.toList.take (n*inf.size)++news++cur.toList.drop (n*inf.size+news.length)).toArray (cs.take (n*inf.size)++new++cs.drop ((n+1)*inf.size)) (vs.take (n*inf.size)++news++vs.drop ((n+1)*inf.size))
    (fun cur0 e1 fz hc=>by rw [a4] at hc;injection hc with hc;injection hc with hc;rw [hsize,hc]) hrel (j3 (j3 (fun u hu=>k3 u (fx hu)) n2) (fun u hu=>k3 u (List.mem_of_mem_drop hu)))
    (by rw [hcl,List.toList_toArray];exact htake)
   refine ⟨.slice (some ⟨E.ρ r,0,none⟩) (n+1) cap,_,?_,?_,hst.1,hst.2,rfl⟩
   .rw [hR a3]
    simp only [Addr.add_lit,cp]
    rw [hstc]
    rfl
   .simp only [Rel,RefOK,upd,if_true]
    refine ⟨rfl,ap _,fun _=>⟨cap,_,e0,rfl,a3,a2,by simp,setRow_heap _ _ _ _ _ _ a4,by rw [hsize];exact a5⟩⟩
 .rename_i r
  simp only [au] at h
  obtain ⟨hbig,h⟩:=h
  have hbig:(0+m)*(inf.bytes+1)<=140737488355328:=by simpa using hbig
  have hsm:=sm hbig
  have hs':=hs
  simp only [Rel] at hs
  obtain ⟨pa,rfl⟩:=hs
  have hs0:Rel E (.sl true []) (.slice pa 0 0):=by
   simp only [Rel]
   exact ⟨pa,0,rfl,by simp,by simp [maxLen],by simp,by simp,0,0,0,.inl trivial,by simp [RelE]⟩
  split at h
  .rename_i hm
   injection h with h
   subst h
   subst hm
   have hnil:news=[]:=cu (by simpa using n3)
   subst hnil
   refine Runs.val i ⟨_,?_,hs'⟩
   rw [hR (by omega)]
   cases pa with
   |none=>simp
   |some a=>simp [storeCells]
  .rename_i hm
   split at h
   .rename_i hnb
    injection h with h
    subst h
    obtain ⟨olds,o1,o2,o3,o4⟩:∃ olds,RelL E ([]:List AV) olds/\(∀ y∈olds,y.oneCell'=true)/\olds.length=0*inf.size/\
      ∀ w',w'.heap=E.w.heap->(Builtin.firstCells inf.size 0 (.slice pa 0 0)).run P w'=.ok olds.toArray w':=by
     obtain ⟨vs,v1,v2,v3,v4,v5⟩:=wP (P:=P) i (sz:=inf.size) (x:=.sl true []) (m:=0) (new:=[]) (by simp [cW]) hs0
     exact ⟨vs,v1,v2,v3,v5⟩
    have hrun:=hG o4 (by omega) (by omega) (fit (by omega) hbig)
    obtain ⟨E',e1,e2,e3,e4,e5⟩:=H3 (P:=P) i (e:=e) (old:=0) (need:=0+m) (sz:=inf.size) hnb (o1.append n1) (j3 o2 n2) (by simp [o3,n3]) hzs (by simp [maxLen];omega)
    rw [oA] at e1
    rw [cp] at e2
    exact ⟨_,E',by rw [hrun,e1],by simpa using e2,e3,e4,by simpa using e5⟩
   .cases h
 .cases h
theorem dP {x:Int} (h1: -9223372036854775808<=x) (h2:x<=9223372036854775807):IntKind.i64.wrap x=x:=by
 simp only [IntKind.wrap,IntKind.bits,IntKind.signed,ac]
 split<;>rename_i h<;>simp at h<;>omega
theorem BH {P:Program} {w:World} {t u ty e:TypeId} {i:TypeInfo} {k:IntKind} {z:Value} (ht:P.underlying t=some (.slice e)) (hu:P.underlying u=some (.int k)) (hi:P.info? e=some i) (hz:i.zero=some z) (hzs:z.cells.size=i.size)
  {base:Option Addr} {n cap m:Nat} (hm:m<=1000000000) (hb:(m:Int)*i.bytes<=281474976710656) (hroom:n+m<=cap):
  (Builtin.append_ #[t,u] ty #[.slice base n cap,.int .i64 m]).run P w=
   match base with
   |some a=>((storeCells (a.add (n*i.size)) (Builtin.zeroCells z.cells m).toList).run P w).andThen fun _ w'=>.ok (.slice base (n+m) cap) w'
   |none=>.ok (.slice base (n+m) cap) w:=by
 have hw:IntKind.i64.wrap (m:Int)=m:=dP (by omega) (by omega)
 have h0:∀ w,(asInt (.int .i64 (m:Int))).run P w=.ok (m:Int) w:=fun _=>rfl
 have h1:¬ ((m:Int)<0):=by omega
 have h2:¬ (281474976710656<(m:Int)*(i.bytes:Int)):=by omega
 have h3:m*i.size=0->(Builtin.zeroCells z.cells m)= #[]:=fun h=>by
  apply Array.eq_empty_of_size_eq_zero;rw [size_zeroCells,hzs];exact h
 by_cases h4:m*i.size=0
 .have h5:=h3 h4
  cases base<;>simp [Builtin.append_,run_underlying ht,run_underlying hu,sizeOf,typeInfo,zeroValue,hi,hz,h0,hw,h1,h2,hroom,h4,h5]
 .cases base<;>simp [Builtin.append_,run_underlying ht,run_underlying hu,sizeOf,typeInfo,zeroValue,hi,hz,h0,hw,h1,h2,hroom,h4]
theorem BI {P:Program} {w:World} {t u ty e:TypeId} {i:TypeInfo} {k:IntKind} {z:Value} (ht:P.underlying t=some (.slice e)) (hu:P.underlying u=some (.int k)) (hi:P.info? e=some i) (hz:i.zero=some z) (hzs:z.cells.size=i.size)
  {base:Option Addr} {n cap m:Nat} {olds:List Value} (hm:m<=1000000000) (hb:(m:Int)*i.bytes<=281474976710656)
  (ho:∀ w',w'.heap=w.heap->(Builtin.firstCells i.size n (.slice base n cap)).run P w'=.ok olds.toArray w')
  (hg:cap<n+m) (h63:((n+m:Nat):Int)<=9223372036854775807) (hfit:Builtin.nextslicecap (n+m) cap*i.bytes<=281474976710656):
  (Builtin.append_ #[t,u] ty #[.slice base n cap,.int .i64 m]).run P w=
   .ok (.slice (some ⟨w.heap.size,0,none⟩) (n+m) (grownCap w (n+m) cap e))
    (w.drew.alloc (.cells (olds.toArray++(Builtin.zeroCells z.cells m).toList.toArray++Builtin.zeroCells z.cells (grownCap w (n+m) cap e - (n+m))) e)):=by
 have hn:¬ (n+m<=cap):=by omega
 have hw:IntKind.i64.wrap (m:Int)=m:=dP (by omega) (by omega)
 have h0:∀ w,(asInt (.int .i64 (m:Int))).run P w=.ok (m:Int) w:=fun _=>rfl
 have h1:¬ ((m:Int)<0):=by omega
 have h2:¬ (281474976710656<(m:Int)*(i.bytes:Int)):=by omega
 have h63':¬ (9223372036854775807<((n:Int)+(m:Int))):=by omega
 have h48':¬ (281474976710656<Builtin.nextslicecap (n+m) cap*i.bytes):=by omega
 have ho1:=ho w.drew rfl
 have h3:m*i.size=0->(Builtin.zeroCells z.cells m)= #[]:=fun h=>by
  apply Array.eq_empty_of_size_eq_zero;rw [size_zeroCells,hzs];exact h
 by_cases h4:m*i.size=0
 .have h5:=h3 h4
  simp [Builtin.append_,run_underlying ht,run_underlying hu,sizeOf,typeInfo,zeroValue,hi,hz,h0,hw,h1,h2,hn,h63',h48',Question.forced,ho1,newRow,grownCap,h4,h5]
  try (congr 2;apply ja;simp [bj])
 .simp [Builtin.append_,run_underlying ht,run_underlying hu,sizeOf,typeInfo,zeroValue,hi,hz,h0,hw,h1,h2,hn,h63',h48',Question.forced,ho1,newRow,grownCap,h4]
  try (congr 2;apply ja;simp [bj])
theorem sH (z:List Value) (n:Nat):(Builtin.zeroCells z.toArray n).toList=(List.replicate n z).flatten:=by
 unfold Builtin.zeroCells
 simpa using FZ z n
theorem IV {E:En} {a:List AV} {b:List Value} (h:RelL E a b):∀ n,RelL E (List.replicate n a).flatten (List.replicate n b).flatten
 |0=>by simp only [List.replicate,ey,RelL]
 |n+1=>by simp only [List.replicate,cw];exact h.append (IV h n)
theorem NL {P:Program} {G:Nat->Option (List AV)} {E:En} (i:Inv G E) {t u ty:TypeId} {s x:AV} {p q:Value} {nb:Nat} {eff:eL} (h:eP P t u s x E.rows nb=some eff) (hs:Rel E s p) (hx:Rel E x q):
  Runs P G E (Builtin.append_ #[t,u] ty #[p,q]) eff:=by
 unfold eP at h
 split at h
 .cases h
 .rename_i e he
  have hu:=nX he
  split at h
  .rename_i sz by' zc hsz hb hz
   split at h
   .obtain ⟨inf,hinf,rfl⟩:=j6 hsz
    unfold aBj at h
    split at h
    .rename_i n _
     split at h
     .exact NH i hu hinf h hs hx
     .simp only [au] at h
      obtain ⟨⟨h0,h9,hint,hzl,hbb⟩,h⟩:=h
      simp only [Rel] at hx
      subst hx
      obtain ⟨k,hk⟩:∃ k,P.underlying u=some (.int k):=by
       unfold GA at hint
       split at hint
       .rename_i k hk;exact ⟨k,hk⟩
       .cases hint
      obtain ⟨m,rfl⟩:∃ m:Nat,n=m:=⟨n.toNat,by omega⟩
      simp only [fv] at hz
      obtain ⟨z,hz,hzc⟩:=hz
      obtain ⟨zv,hzv,rfl⟩:=wK hinf hz
      obtain ⟨zs,z1,z2,z3⟩:=eQ hzc (iE E zv)
      have hzs:zv.cells.size=inf.size:=by rw [z1];simp [z2.length,hzl]
      have hib:inf.bytes=by':=by simpa [cJ,hinf] using hb
      subst hib
      rw [ax] at h
      have he:(Builtin.zeroCells zv.cells m).toList=(List.replicate m zs).flatten:=by rw [z1];exact sH zs m
      refine Q3 i hzs (fun h=>BH hu hk hinf hzv hzs (by omega) hbb h) (fun o a b c=>BI hu hk hinf hzv hzs (by omega) hbb o a b c) (new:=(List.replicate m zc).flatten) ?_ ?_ ?_ h hs
      .rw [he];exact IV z2 m
      .rw [he];intro y hy;obtain ⟨l,h1,h2⟩:=List.mem_flatten.1 hy;rw [List.eq_of_mem_replicate h1] at h2;exact z3 y h2
      .rw [he];simp [z2.length,hzl]
    .cases h
   .rename_i m new hsrc
    simp only [au] at h
    obtain ⟨⟨hni,hzl⟩,h⟩:=h
    simp only [fv] at hz
    obtain ⟨z,hz,hzc⟩:=hz
    obtain ⟨inf,hinf,rfl⟩:=j6 hsz
    obtain ⟨zv,hzv,rfl⟩:=wK hinf hz
    obtain ⟨zs,z1,z2,z3⟩:=eQ hzc (iE E zv)
    have hzs:zv.cells.size=inf.size:=by rw [z1];simp [z2.length,hzl]
    have hib:inf.bytes=by':=by simpa [cJ,hinf] using hb
    subst hib
    obtain ⟨news,n1,n2,n3,n4,n5⟩:=wP (P:=P) i hsrc hx
    exact Q3 i hzs (fun h=>F8 hu hni hinf (n4 _) (n5 _ rfl) h) (fun o a b c=>F9 hu hni hinf hzv n4 n5 o a b c) n1 n2 n3 h hs
  .cases h
end Go.AM
namespace Go.AM
def uD (P:Program) (t:TypeId) (x:AV) (rows:Nat->ARow):Option AV:=
 match P.underlying t with
 |some .string=>match x with| .str s=>some (.int .i64 s.size)|_=>none
 |some (.array n _)=>some (.int .i64 n)
 |some (.slice _)=>match x with
  | .sl _ es=>some (.int .i64 es.length)
  | .osl r ver _ n _ _=>(aU rows r ver).map fun _=>.int .i64 n
  | .rsv _=>some (.int .i64 0)
  |_=>none
 |some (.map _ _)=>match x with
  | .mp ks _=>some (.int .i64 ks.length)
  | .omp r=>match rows r with| .map ks _=>some (.int .i64 ks.length)|_=>none
  |_=>none
 |_=>none
theorem yU {E:En} {r:Nat} {ks vs:List AV} {v:Value} (h:E.rows r=.map ks vs) (hr:Rel E (.omp r) v):v=.map (some (E.ρ r)):=by
 simp only [Rel,h,RefOK] at hr
 exact hr.2.2
theorem zA {G:Nat->Option (List AV)} {E:En} (i:Inv G E) {r:Nat} {ks vs:List AV} (h:E.rows r=.map ks vs):
  ∃ es clock,E.w.heap[E.ρ r]? =some (.map es clock)/\LJ es clock/\RelL E ks (es.toList.map (·.key))/\RelL E vs (es.toList.map (·.val)):=by
 have h0:=i.row r
 unfold RowOK at h0
 rw [h] at h0
 obtain ⟨es,clock,h1,h2,h3,h4,h5⟩:=h0
 exact ⟨es,clock,h1,h3,h4,h5⟩
theorem dD {P:Program} {w:World} {b:Nat} {es:Array MapEntry} {clock:Nat} (h:w.heap[b]? =some (.map es clock)):(getObj b).run P w=.ok (.map es clock) w:=by
 simp [getObj,Sem.run,h]
theorem Z4 {P:Program} {G:Nat->Option (List AV)} {E:En} (i:Inv G E) {t ty:TypeId} {x v:AV} {u:Value} {ts:Array TypeId} (ht:ts[0]? =some t) (h:uD P t x E.rows=some v) (hx:Rel E x u):
  ∃ z,(Builtin.len_ ts ty #[u]).run P E.w=.ok z E.w/\Rel E v z:=by
 unfold uD at h
 split at h
 .rename_i hu
  split at h
  .injection h with h
   subst h
   rename_i s
   simp only [Rel] at hx
   subst hx
   exact ⟨.int .i64 s.size,by simp [Builtin.len_,ht,run_underlying hu,goInt],by simp [Rel]⟩
  .cases h
 .rename_i n e hu
  injection h with h
  subst h
  exact ⟨.int .i64 n,by simp [Builtin.len_,ht,run_underlying hu,goInt],by simp [Rel]⟩
 .rename_i e hu
  split at h
  .rename_i full es
   injection h with h
   subst h
   simp only [Rel] at hx
   obtain ⟨p,cap,rfl,_⟩:=hx
   exact ⟨.int .i64 es.length,by simp [Builtin.len_,ht,run_underlying hu,goInt],by simp [Rel]⟩
  .rename_i r ver off n sz full
   simp only [bw] at h
   obtain ⟨cs,h1,rfl⟩:=h
   obtain ⟨cap,cur,e',rfl,_⟩:=kZ h1 hx
   exact ⟨.int .i64 n,by simp [Builtin.len_,ht,run_underlying hu,goInt],by simp [Rel]⟩
  .injection h with h
   subst h
   simp only [Rel] at hx
   obtain ⟨p,rfl⟩:=hx
   exact ⟨.int .i64 0,by simp [Builtin.len_,ht,run_underlying hu,goInt],by simp [Rel]⟩
  .cases h
 .rename_i k e hu
  split at h
  .rename_i ks vs
   injection h with h
   subst h
   simp only [Rel] at hx
   rcases hx with ⟨rfl,rfl,rfl⟩|⟨b,es,clock,rfl,h2,h3,h4,el,hp,h5,h6⟩
   .exact ⟨.int .i64 0,by simp [Builtin.len_,ht,run_underlying hu,goInt],by simp [Rel]⟩
   .have this0:=h5.length
    have hpl:=hp.length_eq
    simp at this0 hpl
    have this:es.size=ks.length:=by omega
    exact ⟨.int .i64 es.size,by simp [Builtin.len_,ht,run_underlying hu,goInt,dD h3],by simp [Rel,this]⟩
  .rename_i r
   split at h
   .rename_i ks vs hr
    injection h with h
    subst h
    obtain ⟨es,clock,h3,h4,h5,h6⟩:=zA i hr
    have:=h5.length
    simp at this
    rw [yU hr hx]
    exact ⟨.int .i64 es.size,by simp [Builtin.len_,ht,run_underlying hu,goInt,dD h3],by simp [Rel,this]⟩
   .cases h
  .cases h
 .cases h
def Q5 (mx:Bool):IntKind->Int->List AV->Option AV
 |k,x,[]=>some (.int k x)
 |k,x,.int _ y::rest=>Q5 mx k (if mx=true then (if y > x then y else x) else (if y<x then y else x)) rest
 |_,_,_=>none
def qR (mx:Bool):List AV->Option AV
 | .int k x::rest=>Q5 mx k x rest
 |_=>none
theorem EK {P:Program} {E:En}:∀ {k:IntKind} {x:Int} {xs:List AV} {us:List Value} {v:AV},Q5 false k x xs=some v->RelL E xs us->
  ∃ z,(us.foldlM Builtin.min2 (.int k x)).run P E.w=.ok z E.w/\Rel E v z
 |k,x,[],us,v,h,r=>by
  simp only [RelL] at r
  subst r
  simp only [Q5,ao] at h
  subst h
  exact ⟨.int k x,by simp,by simp [Rel]⟩
 |k,x,y::rest,us,v,h,r=>by
  simp only [RelL] at r
  obtain ⟨u,us',rfl,r1,r2⟩:=r
  cases y with
  |int k' y=>
   simp only [Rel] at r1
   subst r1
   simp only [Q5] at h
   obtain ⟨z,h1,h2⟩:=EK (P:=P) h r2
   exact ⟨z,by simpa [Builtin.min2] using h1,h2⟩
  |_=>simp [Q5] at h
theorem EN {P:Program} {E:En}:∀ {k:IntKind} {x:Int} {xs:List AV} {us:List Value} {v:AV},Q5 true k x xs=some v->RelL E xs us->
  ∃ z,(us.foldlM Builtin.max2 (.int k x)).run P E.w=.ok z E.w/\Rel E v z
 |k,x,[],us,v,h,r=>by
  simp only [RelL] at r
  subst r
  simp only [Q5,ao] at h
  subst h
  exact ⟨.int k x,by simp,by simp [Rel]⟩
 |k,x,y::rest,us,v,h,r=>by
  simp only [RelL] at r
  obtain ⟨u,us',rfl,r1,r2⟩:=r
  cases y with
  |int k' y=>
   simp only [Rel] at r1
   subst r1
   simp only [Q5] at h
   obtain ⟨z,h1,h2⟩:=EN (P:=P) h r2
   exact ⟨z,by simpa [Builtin.max2] using h1,h2⟩
  |_=>simp [Q5] at h
theorem B8 {P:Program} {E:En} {xs:List AV} {us:Array Value} {v:AV} (ts:Array TypeId) (ty:TypeId) (mx:Bool) (h:qR mx xs=some v) (r:RelL E xs us.toList):
  ∃ z,(if mx=true then Builtin.max_ ts ty us else Builtin.min_ ts ty us:Sem Value).run P E.w=.ok z E.w/\Rel E v z:=by
 unfold qR at h
 split at h
 .rename_i k n rest
  simp only [RelL] at r
  obtain ⟨u,us',e,r1,r2⟩:=r
  simp only [Rel] at r1
  subst r1
  cases mx with
  |true=>
   obtain ⟨z,h1,h2⟩:=EN (P:=P) h r2
   exact ⟨z,by simpa [Builtin.max_,e] using h1,h2⟩
  |false=>
   obtain ⟨z,h1,h2⟩:=EK (P:=P) h r2
   exact ⟨z,by simpa [Builtin.min_,e] using h1,h2⟩
 .cases h
def pY (P:Program) (t:TypeId) (x:AV) (rows:Nat->ARow):Option eL:=
 match x with
 | .osl r ver off n sz _=>match fN P t,aU rows r ver with
  |some e,some cs=>match (b6 P e).bind AV.toCells with
   |some z=>if z.length=sz/\off+n*sz<=cs.length then (if n=0 then some ⟨.tup [],[]⟩ else some ⟨.tup [],[(r,.cells ver (gK cs off (lN z n)))]⟩) else none
   |none=>none
  |_,_=>none
 | .omp r=>match P.underlying t,rows r with
  |some (.map _ _),.map _ _=>some ⟨.tup [],[(r,.map [] [])]⟩
  |_,_=>none
 |_=>none
theorem RR {P:Program} {G:Nat->Option (List AV)} {E:En} (i:Inv G E) {t ty:TypeId} {x:AV} {u:Value} {eff:eL} {ts:Array TypeId} (ht:ts[0]? =some t) (h:pY P t x E.rows=some eff) (hx:Rel E x u):
  Runs P G E (Builtin.clear_ ts ty #[u]) eff:=by
 unfold pY at h
 split at h
 .rename_i r ver off n sz full
  split at h
  .rename_i e cs he hcs
   have hu:=nX he
   split at h
   .rename_i zc hz
    simp only [au] at h
    obtain ⟨⟨h1,h2⟩,h⟩:=h
    obtain ⟨cap,cur,e0,rfl,a1,a2,a3,a4,a5⟩:=kZ hcs hx
    split at h
    .rename_i hn
     subst hn
     injection h with h
     subst h
     refine Runs.val i ⟨.tuple #[],by simp [Builtin.clear_,ht,run_underlying hu],by simp [Rel,RelL]⟩
    .rename_i hn
     injection h with h
     subst h
     simp only [fv] at hz
     obtain ⟨z,hz,hzc⟩:=hz
     obtain ⟨zv,hzr,rfl⟩:=fH hz E.w
     obtain ⟨zs,z1,z2,z3⟩:=eQ hzc (iE E zv)
     have hzl:zs.length=sz:=by rw [z2.length];exact h1
     obtain ⟨r1,r2⟩:=qC z2 z3 n
     obtain ⟨cur',e',vs,k1,k2,k3,k4,k5⟩:=kV i hcs
     rw [a4] at k1
     injection k1 with k1
     injection k1 with k1
     subst k1
     have hcur:cs.length<=cur.size:=by
      have:(cur.toList.take cs.length).length=cs.length:=by rw [k4];exact k2.length
      simp at this;omega
     have hlz:((List.replicate n zs).flatten).length=n*sz:=by simp [hzl]
     have hlzA:(lN zc n).length=n*sz:=by rw [nT,h1]
     have hst:=run_storeCells_at P (E.ρ r) off e0 (List.replicate n zs).flatten 0 cur E.w a4 (by rw [hlz];omega) r2
     simp only [fy] at hst
     have hsize:(cur.toList.take off++(List.replicate n zs).flatten++cur.toList.drop (off+((List.replicate n zs).flatten).length)).toArray.size=cur.size:=by simp only [List.size_toArray,an,cr,ik,Array.length_toList,hlz];omega
     have hstep:=sK i (dN hcs) (ap ver) (cur.toList.take off++(List.replicate n zs).flatten++cur.toList.drop (off+((List.replicate n zs).flatten).length)).toArray (gK cs off (lN zc n))
      (vs.take off++(List.replicate n zs).flatten++vs.drop (off+((List.replicate n zs).flatten).length)) (fun cur0 e0 fz hc=>by rw [a4] at hc;injection hc with hc;injection hc with hc;rw [<- hc];exact hsize)
      (by unfold gK;rw [hlzA,hlz];exact ((k2.take off).append r1).append (k2.drop _))
      (j3 (j3 (fun u hu=>k3 u (List.take_subset _ _ hu)) r2) (fun u hu=>k3 u (List.drop_subset _ _ hu)))
      (by
       have hsl:(gK cs off (lN zc n)).length=cs.length:=by simp only [gK,an,cr,ik,hlzA];omega
       rw [hsl,<- k4]
       exact vC cur.toList _ off cs.length (by rw [hlz];omega) (by simpa using hcur))
     refine ⟨.tuple #[],_,?_,by simp [Rel,RelL],hstep.1,hstep.2,rfl⟩
     cases n with
     |zero=>exact absurd rfl hn
     |succ n=>
      simp [Builtin.clear_,ht,run_underlying hu,hzr,z1,sH]
      rw [hst]
      simp
   .cases h
  .cases h
 .rename_i r
  split at h
  .rename_i k e ks vs hu hr
   injection h with h
   subst h
   obtain ⟨es,clock,h3,h4,h5,h6⟩:=zA i hr
   have hst:=oW i hr #[] clock [] [] ⟨by simp,by simp⟩ (by simp [RelL]) (by simp [RelL])
   rw [yU hr hx]
   refine ⟨.tuple #[],_,?_,by simp [Rel,RelL],hst.1,hst.2,rfl⟩
   simp [Builtin.clear_,ht,run_underlying hu,dD h3,setObj,Sem.run,h3]
  .cases h
 .cases h
def jS:TypeDesc->AV->AV->Option Bool
 | .int _,.int k a,.int k' b=>if k=k' then some (a==b) else none
 | .string,.str a,.str b=>some (a==b)
 | .bool,.bool a,.bool b=>some (a==b)
 |_,_,_=>none
def lY (d:TypeDesc) (k:AV):List AV->Nat->Option (Option Nat)
 | [],_=>some none
 |x::xs,i=>
  match jS d k x with
  |some true=>some (some i)
  |some false=>lY d k xs (i+1)
  |none=>none
theorem t8 {E:En} {d:TypeDesc} {k x:AV} {u v:Value} {b:Bool} (h:jS d k x=some b) (hk:Rel E k u) (hx:Rel E x v):Instr.sameNow d u v=some b:=by
 unfold jS at h
 split at h
 all_goals first
  |(cases h;done)
  | (simp only [Rel] at hk hx
     subst hk
     subst hx
     simpa [Instr.sameNow] using h)
theorem pU {E:En} {d:TypeDesc} {k:AV} {u:Value} (hk:Rel E k u):∀ {ks:List AV} {es:List MapEntry} {i:Nat} {o:Option Nat},lY d k ks i=some o->RelL E ks (es.map (·.key))->
  ∃ o',Instr.findNow d u es i=some o'/\((o=none/\o'=none)\/∃ j e,o=some (i+j)/\es[j]? =some e/\o'=some (i+j,e.val)/\(∃ x,ks[j]? =some x/\jS d k x=some true))
 | [],es,i,o,h,r=>by
  simp only [RelL,List.map_eq_nil_iff] at r
  subst r
  simp only [lY,ao] at h
  exact ⟨none,rfl,.inl ⟨h.symm,rfl⟩⟩
 |x::ks,es,i,o,h,r=>by
  simp only [RelL] at r
  obtain ⟨v,rest,e,r1,r2⟩:=r
  cases es with
  |nil=>cases e
  |cons e0 es=>
   simp only [ay,de] at e
   obtain ⟨rfl,rfl⟩:=e
   simp only [lY] at h
   split at h
   .rename_i hs
    injection h with h
    subst h
    exact ⟨some (i,e0.val),by simp [Instr.findNow,t8 hs hk r1],.inr ⟨0,e0,rfl,rfl,rfl,x,rfl,hs⟩⟩
   .rename_i hs
    obtain ⟨o',h1,h2⟩:=pU hk h r2
    refine ⟨o',by simp [Instr.findNow,t8 hs hk r1,h1],?_⟩
    rcases h2 with h2|⟨j,e,h2,h3,h4,h5⟩
    .exact .inl h2
    .exact .inr ⟨j+1,e,by rw [h2];congr 1;omega,by simpa using h3,by rw [h4];congr 2;omega,by simpa using h5⟩
   .cases h
def vM:TypeDesc->AV->Bool
 | .int _,.int _ _=>true
 | .string,.str _=>true
 | .bool,.bool _=>true
 |_,_=>false
def zB (P:Program) (t:TypeId):Option (TypeId × TypeId × TypeDesc):=
 match P.underlying t with
 |some (.map k e)=>(P.underlying k).map fun d=>(k,e,d)
 |_=>none
theorem JH {P:Program} {t k e:TypeId} {d:TypeDesc} (h:zB P t=some (k,e,d)):P.underlying t=some (.map k e)/\P.underlying k=some d:=by
 unfold zB at h
 split at h
 .simp only [bw,db] at h
  obtain ⟨d',h1,rfl,rfl,rfl⟩:=h
  exact ⟨by assumption,h1⟩
 .cases h
theorem sP {P:Program} {w:World} {E:En} {k:TypeId} {d:TypeDesc} {x:AV} {v:Value} (hd:P.underlying k=some d) (hk:vM d x=true) (hr:Rel E x v) (b:Bool):(Instr.checkKey b 10000 k v).run P w=.ok () w:=by
 rw [show (10000:Nat)=9999+1 from rfl,Instr.checkKey]
 unfold vM at hk
 split at hk
 all_goals first
  |(cases hk;done)
  | (simp only [Rel] at hr
     subst hr
     simp [run_underlying hd])
def wG (d:TypeDesc) (k:AV):List AV->List AV->Option (Option AV)
 | [],_=>some none
 |x::xs,v::vs=>match jS d k x,wG d k xs vs with
  |some true,some none=>some (some v)
  |some false,some r=>some r
  |_,_=>none
 |_::_,[]=>none
theorem w6 {E:En} {d:TypeDesc} {k:AV} {u:Value} (hk:Rel E k u):∀ {ks vs:List AV} {el:List MapEntry} {r:Option AV},wG d k ks vs=some r->RelL E ks (el.map (·.key))->RelL E vs (el.map (·.val))->
  (∀ e∈el,∃ b,Instr.sameNow d u e.key=some b)/\(r=none->∀ e∈el,Instr.sameNow d u e.key=some false)/\
  (∀ v,r=some v->∃ e0∈el,Rel E v e0.val/\Instr.sameNow d u e0.key=some true/\∀ e∈el,Instr.sameNow d u e.key=some true->e=e0)
 | [],vs,el,r,h,r1,r2=>by
  simp only [RelL,List.map_eq_nil_iff] at r1
  subst r1
  simp only [wG,ao] at h
  subst h
  exact ⟨by simp,by simp,by simp⟩
 |x::ks,[],el,r,h,r1,r2=>by simp [wG] at h
 |x::ks,v::vs,[],r,h,r1,r2=>by
  simp only [RelL] at r1
  obtain ⟨_,_,e,_⟩:=r1
  cases e
 |x::ks,v::vs,e0::el,r,h,r1,r2=>by
  simp only [RelL,ay] at r1 r2
  obtain ⟨_,_,e,a1,a2⟩:=r1
  injection e with e1 e2
  subst e1 e2
  obtain ⟨_,_,e,b1,b2⟩:=r2
  injection e with e1 e2
  subst e1 e2
  simp only [wG] at h
  split at h
  .rename_i hs ho
   injection h with h
   subst h
   obtain ⟨c1,c2,c3⟩:=w6 hk ho a2 b2
   have hs':=t8 hs hk a1
   refine ⟨fun e he=>?_,by simp,fun v' hv'=>?_⟩
   .rcases bn.1 he with rfl|he
    .exact ⟨_,hs'⟩
    .exact c1 e he
   .injection hv' with hv'
    subst hv'
    refine ⟨e0,cy ..,b1,hs',fun e he ht=>?_⟩
    rcases bn.1 he with rfl|he
    .rfl
    .rw [c2 rfl e he] at ht;cases ht
  .rename_i r' hs ho
   injection h with h
   subst h
   obtain ⟨c1,c2,c3⟩:=w6 hk ho a2 b2
   have hs':=t8 hs hk a1
   refine ⟨fun e he=>?_,fun hn e he=>?_,fun v' hv'=>?_⟩
   .rcases bn.1 he with rfl|he
    .exact ⟨_,hs'⟩
    .exact c1 e he
   .rcases bn.1 he with rfl|he
    .exact hs'
    .exact c2 hn e he
   .obtain ⟨e1,m1,m2,m3,m4⟩:=c3 v' hv'
    refine ⟨e1,dn _ m1,m2,m3,fun e he ht=>?_⟩
    rcases bn.1 he with rfl|he
    .rw [hs'] at ht;cases ht
    .exact m4 e he ht
  .cases h
theorem z5 {d:TypeDesc} {u:Value}:∀ {es:List MapEntry} (i:Nat),(∀ e∈es,Instr.sameNow d u e.key=some false)->Instr.findNow d u es i=some none
 | [],_,_=>rfl
 |e::es,i,h=>by
  simp only [Instr.findNow,h e (cy ..)]
  exact z5 (i+1) fun x hx=>h x (dn _ hx)
theorem vU {d:TypeDesc} {u:Value} {e0:MapEntry}:∀ {es:List MapEntry} (i:Nat),(∀ e∈es,∃ b,Instr.sameNow d u e.key=some b)->e0∈es->Instr.sameNow d u e0.key=some true->(∀ e∈es,Instr.sameNow d u e.key=some true->e=e0)->
  ∃ j,Instr.findNow d u es i=some (some (j,e0.val))
 | [],_,_,h,_,_=>by cases h
 |e::es,i,h1,h2,h3,h4=>by
  obtain ⟨b,hb⟩:=h1 e (cy ..)
  cases b with
  |true=>
   have:=h4 e (cy ..) hb
   subst this
   exact ⟨i,by simp only [Instr.findNow,hb]⟩
  |false=>
   have hm:e0∈es:=by
    rcases bn.1 h2 with rfl|h
    .rw [h3] at hb;cases hb
    .exact h
   obtain ⟨j,hj⟩:=vU (i+1) (fun x hx=>h1 x (dn _ hx)) hm h3 fun x hx=>h4 x (dn _ hx)
   exact ⟨j,by simp only [Instr.findNow,hb];exact hj⟩
def kD (P : Program) (t : TypeId) (x k : AV) (ok : Bool) (rows : Nat -> ARow) : Option AV :=
 match zB P t with
 |none=>none
 |some (_,e,d)=>if vM d k=true then
   match x with
   | .mp ks vs=>match wG d k ks vs,b6 P e with
    |some none,some z=>some (if ok then .tup [z,.bool false] else z)
    |some (some v),some _=>some (if ok then .tup [v,.bool true] else v)
    |_,_=>none
   | .omp r=>match rows r with
    | .map ks vs=>match lY d k ks 0,b6 P e with
     |some none,some z=>some (if ok then .tup [z,.bool false] else z)
     |some (some j),some _=>(vs[j]?).map fun v=>if ok then .tup [v,.bool true] else v
     |_,_=>none
    |_=>none
   |_=>none
  else none
theorem o7 {P:Program} {w:World} {k:TypeId} {d:TypeDesc} (hd:P.underlying k=some d) {u:Value} {es:List MapEntry} {o:Option (Nat × Value)} (h:Instr.findNow d u es 0=some o):(Instr.findKey k u es).run P w=.ok o w:=by
 simp [Instr.findKey,run_underlying hd,h]
theorem NK {P:Program} {G:Nat->Option (List AV)} {E:En} (i:Inv G E) {t:TypeId} {x k v:AV} {u y:Value} {ok:Bool} (h:kD P t x k ok E.rows=some v) (hx:Rel E x u) (hk:Rel E k y):
  ∃ z,(Instr.lookup t u y ok).run P E.w=.ok z E.w/\Rel E v z:=by
 unfold kD at h
 split at h
 .cases h
 .rename_i kt e d hm
  obtain ⟨hu,hd⟩:=JH hm
  simp only [au] at h
  obtain ⟨hko,h⟩:=h
  have hck:=fun b=>sP (w:=E.w) hd hko hk b
  have look:∀ es:Array MapEntry,((u=.map none/\es= #[])\/∃ b clock,u=.map (some b)/\E.w.heap[b]? =some (.map es clock))->∀ o,Instr.findNow d y es.toList 0=some o->∀ z,(zeroValue e).run P E.w=.ok z E.w->
    (Instr.lookup t u y ok).run P E.w=.ok (if ok then .tuple #[(match o with|some (_,v)=>v|none=>z),.bool o.isSome] else (match o with|some (_,v)=>v|none=>z)) E.w:=by
   intro es hes o ho z hz
   have hfk:=o7 (w:=E.w) hd ho
   rcases hes with ⟨rfl,rfl⟩|⟨b,clock,rfl,hb⟩
   .cases o with
    |none=>simp [Instr.lookup,run_underlying hu,hck,hfk,hz]
    |some p=>obtain ⟨j,v⟩:=p;simp [Instr.lookup,run_underlying hu,hck,hfk]
   .cases o with
    |none=>simp [Instr.lookup,run_underlying hu,dD hb,hck,hfk,hz]
    |some p=>obtain ⟨j,v⟩:=p;simp [Instr.lookup,run_underlying hu,dD hb,hck,hfk]
  have fin0:∀ (es:Array MapEntry) (z:Value),((u=.map none/\es= #[])\/∃ b clock,u=.map (some b)/\E.w.heap[b]? =some (.map es clock))->Instr.findNow d y es.toList 0=some none->b6 P e=some (oR z)->(zeroValue e).run P E.w=.ok z E.w->(if ok=true then AV.tup [oR z,.bool false] else oR z)=v->
    ∃ z,(Instr.lookup t u y ok).run P E.w=.ok z E.w/\Rel E v z:=by
   intro es zv hes h1 _ hzr h
   refine ⟨_,look es hes none h1 zv hzr,?_⟩
   subst h
   cases ok with
   |true=>simp only [if_true,Rel];exact ⟨[zv,.bool false],rfl,by simp only [RelL,Rel];exact ⟨_,_,rfl,iE E zv,_,_,rfl,rfl,rfl⟩⟩
   |false=>simpa using iE E zv
  have fin1:∀ (es:Array MapEntry) (j:Nat) (e0:Value) (av:AV) (z:Value),((u=.map none/\es= #[])\/∃ b clock,u=.map (some b)/\E.w.heap[b]? =some (.map es clock))->Instr.findNow d y es.toList 0=some (some (j,e0))->Rel E av e0->(zeroValue e).run P E.w=.ok z E.w->(if ok=true then AV.tup [av,.bool true] else av)=v->
    ∃ z,(Instr.lookup t u y ok).run P E.w=.ok z E.w/\Rel E v z:=by
   intro es j e0 av zv hes h1 h5 hzr h
   refine ⟨_,look es hes _ h1 zv hzr,?_⟩
   subst h
   cases ok with
   |true=>simp only [if_true,Rel];exact ⟨[e0,.bool true],rfl,by simp only [RelL,Rel];exact ⟨_,_,rfl,h5,_,_,rfl,rfl,rfl⟩⟩
   |false=>simpa using h5
  split at h
  .rename_i ks vs
   obtain ⟨es,el,hes,hp,r1,r2⟩:∃ (es:Array MapEntry) (el:List MapEntry),((u=.map none/\es= #[])\/∃ b clock,u=.map (some b)/\E.w.heap[b]? =some (.map es clock))/\el.Perm es.toList/\RelL E ks (el.map (·.key))/\RelL E vs (el.map (·.val)):=by
    simp only [Rel] at hx
    rcases hx with ⟨rfl,rfl,rfl⟩|⟨b,es,clock,rfl,h2,h3,h4,el,hp,h5,h6⟩
    .exact ⟨#[],[],.inl ⟨rfl,rfl⟩,List.Perm.refl _,by simp [RelL],by simp [RelL]⟩
    .exact ⟨es,el,.inr ⟨b,clock,rfl,h3⟩,hp,h5,h6⟩
   split at h
   .rename_i z hf hz
    injection h with h
    obtain ⟨zv,hzr,rfl⟩:=fH hz E.w
    obtain ⟨_,c2,_⟩:=w6 hk hf r1 r2
    exact fin0 es zv hes (z5 0 fun e he=>c2 rfl e (hp.mem_iff.2 he)) hz hzr h
   .rename_i av z hf hz
    injection h with h
    obtain ⟨zv,hzr,rfl⟩:=fH hz E.w
    obtain ⟨c1,_,c3⟩:=w6 hk hf r1 r2
    obtain ⟨e0,m1,m2,m3,m4⟩:=c3 av rfl
    obtain ⟨j,hj⟩:=vU 0 (fun e he=>c1 e (hp.mem_iff.2 he)) (hp.mem_iff.1 m1) m3 fun e he=>m4 e (hp.mem_iff.2 he)
    exact fin1 es j e0.val av zv hes hj m2 hzr h
   .cases h
  .rename_i r
   split at h
   .rename_i ks vs hr
    obtain ⟨es,clock,h3,h4,r1,r2⟩:=zA i hr
    have hes:(u=.map none/\es= #[])\/∃ b clock,u=.map (some b)/\E.w.heap[b]? =some (.map es clock):=.inr ⟨_,clock,yU hr hx,h3⟩
    split at h
    .rename_i z hf hz
     injection h with h
     obtain ⟨zv,hzr,rfl⟩:=fH hz E.w
     obtain ⟨o',h1,h2⟩:=pU hk hf r1
     rcases h2 with ⟨_,rfl⟩|⟨j,e0,h2,_⟩
     .exact fin0 es zv hes h1 hz hzr h
     .cases h2
    .rename_i j z hf hz
     obtain ⟨zv,hzr,rfl⟩:=fH hz E.w
     simp only [bw] at h
     obtain ⟨av,hav,h⟩:=h
     obtain ⟨o',h1,h2⟩:=pU hk hf r1
     rcases h2 with ⟨h2,_⟩|⟨j',e0,h2,h3,rfl,_⟩
     .cases h2
     .simp only [cp,ao] at h2
      subst h2
      obtain ⟨v',h4,h5⟩:=r2.get hav
      have h4':v'=e0.val:=by simpa [h3] using h4.symm
      subst h4'
      exact fin1 es _ e0.val av zv hes h1 h5 hzr h
    .cases h
   .cases h
  .cases h
end Go.AM
namespace Go.AM
def eU (P : Program) (t : TypeId) (m k v : AV) (rows : Nat -> ARow) : Option eL :=
 match zB P t,m with
 |some (_,_,d),.omp r=>match rows r with
  | .map ks vs=>if vM d k=true then
    match lY d k ks 0 with
    |some none=>some ⟨.undef,[(r,.map (ks++[k]) (vs++[v]))]⟩
    |some (some j)=>some ⟨.undef,[(r,.map ks (vs.set j v))]⟩
    |none=>none
   else none
  |_=>none
 |_,_=>none
theorem PZ:∀ a b:ByteArray,(a==b)=true↔a=b:=by
 rintro ⟨a⟩ ⟨b⟩
 constructor
 .intro h
  have:(a==b)=true:=h
  simpa using this
 .intro h
  have:a=b:=by injection h
  subst this
  show (a==a)=true
  simp
theorem W2 {d:TypeDesc} {k x:AV} (h:jS d k x=some true):k=x:=by
 unfold jS at h
 split at h
 .simp only [au,ao,beq_iff_eq] at h
  rw [h.1,h.2]
 .simp only [ao] at h
  rw [(PZ _ _).1 h]
 .simpa using h
 .cases h
theorem BG {d:TypeDesc} {E:En} {k:AV} {u v:Value} (hk:vM d k=true) (h1:Rel E k u) (h2:Rel E k v):Instr.sameBits 10000 u v=true/\u=v:=by
 unfold vM at hk
 split at hk
 all_goals first
  |(cases hk;done)
  | (simp only [Rel] at h1 h2
     subst h1
     subst h2
     exact ⟨by simp [Instr.sameBits,PZ],rfl⟩)
theorem o6 {P:Program} {w:World} {b:Nat} {es:Array MapEntry} {clock:Nat} (o:Obj) (h:w.heap[b]? =some (.map es clock)):(setObj b o).run P w=.ok () { w with heap:=w.heap.setIfInBounds b o }:=by
 simp [setObj,Sem.run,h]
theorem rJ {P : Program} {G : Nat -> Option (List AV)} {E : En} (i : Inv G E) {t : TypeId} {m k v : AV} {um uk uv : Value} {eff : eL} (h : eU P t m k v E.rows = some eff) (hm : Rel E m um) (hk : Rel E k uk) (hv : Rel E v uv) :
  WH P G E (Instr.mapUpdate t um uk uv) eff:=by
 unfold eU at h
 split at h
 .rename_i kt e d r hmo
  obtain ⟨hu,hd⟩:=JH hmo
  split at h
  .rename_i ks vs hr
   simp only [au] at h
   obtain ⟨hko,h⟩:=h
   have hck:=fun b=>sP (P:=P) (w:=E.w) hd hko hk b
   obtain ⟨es,clock,h3,h4,h5,h6⟩:=zA i hr
   rw [yU hr hm]
   split at h
   .rename_i hf
    injection h with h
    subst h
    obtain ⟨o',h7,h8⟩:=pU hk hf h5
    rcases h8 with ⟨_,rfl⟩|⟨j,e0,h8,_⟩
    .have hfk:=o7 (P:=P) (w:=E.w) hd h7
     have hst:=oW i hr (es.push { key:=uk,val:=uv,born:=clock }) (clock+1) (ks++[k]) (vs++[v])
      ⟨fun x hx=>by
       simp only [Array.toList_push,bo,bd] at hx
       rcases hx with hx|rfl
       .have:=h4.1 x hx;omega
       .simp,by
       simp only [Array.toList_push,dq,ay,bu]
       rw [List.nodup_append]
       refine ⟨h4.2,by simp,fun a ha b hb=>?_⟩
       simp only [cf] at ha
       obtain ⟨x,hx,rfl⟩:=ha
       simp only [bd] at hb
       subst hb
       have:=h4.1 x hx
       omega⟩
      (by simp only [Array.toList_push,dq,ay,bu];exact h5.append (by simp only [RelL];exact ⟨uk,[],rfl,hk,rfl⟩))
      (by simp only [Array.toList_push,dq,ay,bu];exact h6.append (by simp only [RelL];exact ⟨uv,[],rfl,hv,rfl⟩))
     refine ⟨_,?_,rfl,hst.1,hst.2,rfl⟩
     simp [Instr.mapUpdate,run_underlying hu,dD h3,hck,hfk,o6 _ h3]
    .cases h8
   .rename_i j hf
    injection h with h
    subst h
    obtain ⟨o',h7,h8⟩:=pU hk hf h5
    rcases h8 with ⟨h8,_⟩|⟨j',e0,h8,h9,rfl,x,hx1,hx2⟩
    .cases h8
    .simp only [cp,ao] at h8 h7
     subst h8
     have hxk:=W2 hx2
     subst hxk
     have hfk:=o7 (P:=P) (w:=E.w) hd h7
     obtain ⟨ku,hku1,hku2⟩:=h5.get hx1
     have hke:ku=e0.key:=by simpa [h9] using hku1.symm
     subst hke
     obtain ⟨hsb,hsame⟩:=BG hko hku2 hk
     have hj:j<es.size:=by
      have:=(aq.1 h9).1
      simpa using this
     have hesj:es[j]? =some e0:=by simpa using h9
     have hst:=oW i hr (es.modify j fun e=>{ e with key:=uk,val:=uv }) clock ks (vs.set j v)
      ⟨fun x hx=>by
       simp only [Array.toList_modify] at hx
       obtain ⟨q,hq⟩:=je hx
       simp only [List.getElem?_modify,Option.map_eq_map,bw] at hq
       obtain ⟨y,hy,rfl⟩:=hq
       have:=h4.1 y (aj hy)
       split<;>exact this,by
       have:(es.modify j fun e=>{ e with key:=uk,val:=uv }).toList.map (·.born)=es.toList.map (·.born):=by
        apply List.ext_getElem?
        intro q
        simp only [Array.toList_modify,bh,List.getElem?_modify,Option.map_eq_map,Option.map_map]
        congr 1
        funext y
        try simp only [Function.comp]
        split<;>rfl
       rw [this]
       exact h4.2⟩
      (by
       refine RelL.mk (by simp [<- h5.length]) fun q c y hc hy=>?_
       simp only [Array.toList_modify,bh,List.getElem?_modify,Option.map_eq_map,Option.map_map,bw] at hy
       obtain ⟨z,hz,rfl⟩:=hy
       obtain ⟨y',hy1,hy2⟩:=h5.get hc
       have:y'=z.key:=by simp only [bh,hz,dv,ao] at hy1;exact hy1.symm
       subst this
       try simp only [Function.comp]
       split
       .rename_i hjq
        subst hjq
        have:z=e0:=by rw [h9] at hz;injection hz with hz;exact hz.symm
        subst this
        rw [hx1] at hc
        injection hc with hc
        subst hc
        exact hk
       .exact hy2)
      (by
       refine RelL.mk (by simp [<- h6.length]) fun q c y hc hy=>?_
       simp only [Array.toList_modify,bh,List.getElem?_modify,Option.map_eq_map,Option.map_map,bw] at hy
       obtain ⟨z,hz,rfl⟩:=hy
       try simp only [Function.comp]
       rw [List.getElem?_set] at hc
       split at hc
       .rename_i hjq
        subst hjq
        split at hc
        .injection hc with hc
         subst hc
         simpa using hv
        .cases hc
       .rename_i hjq
        rw [if_neg hjq]
        obtain ⟨y',hy1,hy2⟩:=h6.get hc
        have:y'=z.val:=by simp only [bh,hz,dv,ao] at hy1;exact hy1.symm
        subst this
        exact hy2)
     refine ⟨_,?_,rfl,hst.1,hst.2,rfl⟩
     simp [Instr.mapUpdate,run_underlying hu,dD h3,hck,hfk,o6 _ h3,Instr.keyThatStays,hesj,hsb]
   .cases h
  .cases h
 .cases h
def oG (P:Program) (t:TypeId) (x:AV) (rows:Nat->ARow) (nb:Nat):Option eL:=
 match P.underlying t,x,rows nb with
 |some (.map _ _),.mp [k] vs,.none=>some ⟨.ptr nb 0 0,[(nb,.iter [k] vs [0] 0)]⟩
 |_,_,_=>none
theorem RN {P:Program} {G:Nat->Option (List AV)} {E:En} (i:Inv G E) {t:TypeId} {x:AV} {u:Value} {nb:Nat} {eff:eL} (h:oG P t x E.rows nb=some eff) (hx:Rel E x u):
  Runs P G E (Instr.range t u) eff:=by
 unfold oG at h
 split at h
 .rename_i kt e k vs hu hnb
  injection h with h
  subst h
  simp only [Rel] at hx
  rcases hx with ⟨h,_⟩|⟨b,es,clock,rfl,h2,h3,h4,el,hp,h5,h6⟩
  .cases h
  .have hl1:el.length=1:=by simpa using h5.length
   obtain ⟨x0,rfl⟩:=List.length_eq_one_iff.1 hl1
   have he:es.toList=[x0]:=(List.singleton_perm.1 hp).symm
   rw [<- he] at h5 h6
   have hlen:=h5.length
   simp only [bp,Array.length_toList,af] at hlen
   have hst:=gV (G:=G) i (E.w.alloc (.mapIter (some b) clock #[] clock)) (fun q=>if q=nb then E.w.heap.size else E.ρ q) (upd E.rows [(nb,.iter [k] vs [0] 0)]) nb rfl rfl rfl (by simp) (fun q hq=>⟨by simp [upd,hq],by simp [hq]⟩) (fun b hb _=>heap_alloc_old _ _ hb)
    (fun h=>by rw [hnb] at h;cases h) (fun _ _ h=>by rw [hnb] at h;cases h) (fun h=>by rw [hnb] at h;cases h) (fun _=>.inr (by simp)) (fun xx=>by
     unfold RowOK
     simp only [upd,if_true]
     refine ⟨b,es,clock,clock, #[],heap_alloc_new _ _,fun s=>absurd (i.sb _ s) (by omega),h2,?_,h4,rfl,h5.ext i xx,h6.ext i xx,by simp,fun j e hj=>?_,fun j hj=>?_,fun s hs=>by simp at hs⟩
     .rw [heap_alloc_old _ _ (i.sb _ h2)];exact h3
     .have:=(cq.1 hj).1
      simp only [ak] at hlen
      simp;omega
     .simp only [ak] at hlen
      simp at hj;omega)
   refine ⟨.pointer (some ⟨E.w.heap.size,0,none⟩),_,?_,?_,hst.1,hst.2,rfl⟩
   .simp [Instr.range,run_underlying hu,dD h3]
   .simp [Rel,RefOK,upd,Value.oneCell']
 .cases h
def oH (x:AV) (rows:Nat->ARow):Option AV:=
 match x with
 | .ptr r 0 0=>match rows r with
  | .iter ks vs left last=>if left.length<ks.length then match ks[last]?,vs[last]? with
   |some k,some v=>some (.tup [k,v])
   |_,_=>none else none
  |_=>none
 |_=>none
theorem P8 {G:Nat->Option (List AV)} {E:En} (i:Inv G E) {r:Nat} {ks vs:List AV} {left:List Nat} {last:Nat} {u:Value} (h:E.rows r=.iter ks vs left last) (hx:Rel E (.ptr r 0 0) u):
  u=.pointer (some ⟨E.ρ r,0,none⟩):=by
 simp only [Rel,h,RefOK] at hx
 exact hx.2.2
theorem UI {es:Array MapEntry} {left:List Nat} {n:Nat} (hn:es.size=n) (hd:left.Nodup) (hlt:∀ j∈left,j<es.size) (h:∀ j,j<es.size->j∈left):left.length=n:=by
 have hp:List.Perm left (List.range n):=by
  rw [List.perm_ext_iff_of_nodup hd List.nodup_range]
  intro j
  simp only [gg]
  exact ⟨fun hj=>by have:=hlt j hj;omega,fun hj=>h j (by omega)⟩
 simpa using hp.length_eq
theorem RC {es:List MapEntry} (hd:(es.map (·.born)).Nodup) {j:Nat} {e:MapEntry} (h:es[j]? =some e):es.find? (·.born==e.born)=some e:=by
 induction es generalizing j with
 |nil=>simp at h
 |cons x es ih=>
  simp only [ay,List.nodup_cons,cf,not_exists,not_and] at hd
  cases j with
  |zero=>simp at h;subst h;simp
  |succ j=>
   simp at h
   have hne:(x.born==e.born)=false:=by
    simp only [beq_eq_false_iff_ne]
    intro heq
    exact hd.1 e (aj h) heq.symm
   simp only [List.find?_cons,hne]
   exact ih hd.2 h
theorem RQ {P:Program} {G:Nat->Option (List AV)} {E:En} (i:Inv G E) {x v:AV} {u:Value} (h:oH x E.rows=some v) (hx:Rel E x u):
  ∃ z,(Instr.entry u).run P E.w=.ok z E.w/\Rel E v z:=by
 unfold oH at h
 split at h
 .rename_i r
  split at h
  .rename_i ks vs left last hr
   simp only [au] at h
   obtain ⟨hlt,h⟩:=h
   split at h
   .rename_i k v' hk hv
    injection h with h
    subst h
    have h0:=i.row r
    unfold RowOK at h0
    rw [hr] at h0
    obtain ⟨mb,es,clock,since,seen,h1,h2,h3,h4,h5,rfl,h7,h8,h9,h10,h11,h12⟩:=h0
    rw [P8 i hr hx]
    have hsz:es.size=ks.length:=by have:=h7.length;simpa using this
    have hne:∃ stamp,seen.back? =some stamp:=by
     by_cases hs:seen= #[]
     .exfalso
      have:=UI hsz h9 h11 fun j hj=>(h10 j es[j] (by simp [hj])).2 (by simp [hs])
      omega
     .cases hb:seen.back? with
      |none=>simp at hb;exact absurd hb hs
      |some s=>exact ⟨s,rfl⟩
    obtain ⟨stamp,hst⟩:=hne
    obtain ⟨e,he1,he2⟩:=h12 stamp hst
    obtain ⟨ku,hku,rk⟩:=h7.get hk
    obtain ⟨vu,hvu,rv⟩:=h8.get hv
    have he1':es.toList[last]? =some e:=by simpa using he1
    have e1:ku=e.key:=by simpa [he1'] using hku.symm
    have e2:vu=e.val:=by simpa [he1'] using hvu.symm
    subst e1
    subst e2
    have hfind:es.find? (·.born==stamp)=some e:=by
     rw [<- he2,<- Array.find?_toList]
     exact RC h5.2 he1'
    have hgo:(getObj (E.ρ r)).run P E.w=.ok (.mapIter (some mb) since seen since) E.w:=by simp [getObj,Sem.run,h1]
    refine ⟨.tuple #[e.key,e.val],by simp [Instr.entry,hgo,hst,dD h4,hfind],?_⟩
    simp only [Rel]
    exact ⟨[e.key,e.val],rfl,by simp only [RelL];exact ⟨_,_,rfl,rk,_,_,rfl,rv,rfl⟩⟩
   .cases h
  .cases h
 .cases h
end Go.AM
namespace Go.AM
def d8 (G:Nat->Option (List AV)) (get:Nat->AV):Operand->AV
 | .tmp t=>get t
 | .const v=>oR v
 | .global g=>match G g with|some cs=>.imm cs|none=>.undef
 | .func f=>.fn (.func f) [] []
def iY (P:Program) (b:Builtin) (ts:Array TypeId) (args:List AV) (rows:Nat->ARow) (nb:Nat):Option eL:=
 match b,args with
 | .append,[s,x]=>match ts[0]?,ts[1]? with
  |some t,some u=>if ts.size=2 then eP P t u s x rows nb else none
  |_,_=>none
 | .len,[x]=>match ts[0]? with|some t=>(uD P t x rows).map (⟨·,[]⟩)|none=>none
 | .clear,[x]=>match ts[0]? with|some t=>pY P t x rows|none=>none
 | .min,args=>(qR false args).map (⟨·,[]⟩)
 | .max,args=>(qR true args).map (⟨·,[]⟩)
 |_,_=>none
def iN (x:AV) (rows:Nat->ARow):Option AV:=
 match x with
 | .ptr r ver _=>(aU rows r ver).map fun _=>x
 | .imm _=>some x
 | .fn (.func _) _ _=>some x
 |_=>none
def pT (P:Program) (o:Op) (ev:Operand->AV) (rows:Nat->ARow) (nb:Nat):Option eL:=
 match o with
 | .move x=>some ⟨ev x,[]⟩
 | .assign x=>some ⟨ev x,[]⟩
 | .pick c a b=>match ev c with| .bool t=>some ⟨if t=true then ev a else ev b,[]⟩|_=>none
 | .alloc t=>match b6 P t with|some z=>BA z rows nb|none=>none
 | .box _ x=>BA (ev x) rows nb
 | .build t parts=>(fS P t (parts.toList.map fun p=>(p.1,ev p.2))).map (⟨·,[]⟩)
 | .buildSlice t len parts=>(iO P t len (parts.toList.map fun p=>(p.1,ev p.2))).map (⟨·,[]⟩)
 | .load t x=>(iC P t (ev x) rows).map (⟨·,[]⟩)
 | .store t x y=>oE P t (ev x) (ev y) rows
 | .nilCheck x=>(iN (ev x) rows).map (⟨·,[]⟩)
 | .binOp op t x y _=>(H7 P op t x y (ev x) (ev y) rows).map (⟨·,[]⟩)
 | .unOp op _ x=>(aUn op (ev x)).map (⟨·,[]⟩)
 | .convert s d x=>(m8 P s d (ev x)).map (⟨·,[]⟩)
 | .makeFunc f first cap=>some ⟨.fn f (first.toList.map ev) (cap.toList.map ev),[]⟩
 | .makeMap _ none=>match rows nb with| .none=>some ⟨.omp nb,[(nb,.map [] [])]⟩|_=>none
 | .makeSlice t l c=>fY P t (ev l) (ev c) rows nb
 | .slice t x lo hi mx=>(oF P t (ev x) (lo.map ev) (hi.map ev) (mx.map ev) rows).map (⟨·,[]⟩)
 | .fieldAddr s x f=>(bQ P s (ev x) f rows).map (⟨·,[]⟩)
 | .field s x f=>(H6 P s (ev x) f).map (⟨·,[]⟩)
 | .indexAddr t x i=>(fZ P t (ev x) (ev i) rows).map (⟨·,[]⟩)
 | .index t x i=>(vA P t (ev x) (ev i)).map (⟨·,[]⟩)
 | .lookup t x i ok=>(kD P t (ev x) (ev i) ok rows).map (⟨·,[]⟩)
 | .mapUpdate t m k x=>eU P t (ev m) (ev k) (ev x) rows
 | .insert t m k x=>eU P t (ev m) (ev k) (ev x) rows
 | .range t x=>oG P t (ev x) rows nb
 | .entry x=>(oH (ev x) rows).map (⟨·,[]⟩)
 | .extract x i=>match ev x with| .tup vs=>(vs[i]?).map (⟨·,[]⟩)|_=>none
 | .call c=>match c.callee with
  | .builtin b=>iY P b c.argTypes (c.args.toList.map ev) rows nb
  |_=>none
 |_=>none
def RunsN (P:Program) (G:Nat->Option (List AV)) (E:En) (m:Sem Next) (eff:eL):Prop:=
 ∃ nx E',m.run P E.w=.ok nx E'.w/\((∃ v,nx=.value v/\Rel E' eff.val v)\/(nx=.skip/\eff.val=.undef))/\Ext E E'/\Inv G E'/\E'.rows=upd E.rows eff.wr
theorem RunsN.of_runs {P:Program} {G:Nat->Option (List AV)} {E:En} {m:Sem Value} {eff:eL} (h:Runs P G E m eff):RunsN P G E (do pure (.value (<- m))) eff:=by
 obtain ⟨v,E',h1,h2,h3,h4,h5⟩:=h
 exact ⟨.value v,E',by simp [h1],.inl ⟨v,rfl,h2⟩,h3,h4,h5⟩
theorem RunsN.of_val {P:Program} {G:Nat->Option (List AV)} {E:En} (i:Inv G E) {m:Sem Value} {o:Option AV} {eff:eL} (h:o.map (⟨·,[]⟩)=some eff) (hh:∀ v,o=some v->∃ y,m.run P E.w=.ok y E.w/\Rel E v y):
  RunsN P G E (do pure (.value (<- m))) eff:=by
 simp only [bw] at h
 obtain ⟨v,h1,rfl⟩:=h
 exact RunsN.of_runs (Runs.val i (hh v h1))
theorem RunsN.of_unit {P:Program} {G:Nat->Option (List AV)} {E:En} {m:Sem Unit} {eff:eL} (h:WH P G E m eff):RunsN P G E (do m;pure .skip) eff:=by
 obtain ⟨E',h1,h2,h3,h4,h5⟩:=h
 exact ⟨.skip,E',by simp [h1],.inr ⟨rfl,h2⟩,h3,h4,h5⟩
theorem FM {E:En} {ev:Operand->AV} {a:Act} (he:∀ x,Rel E (ev x) (a.eval x)):∀ (l:List (Nat × Operand)),H8 E (l.map fun p=>(p.1,ev p.2)) (l.map fun p=>(p.1,a.eval p.2))
 | []=>by simp [H8]
 |p::l=>by
  simp only [ay,H8]
  exact ⟨⟨trivial,he _⟩,FM he l⟩
theorem qD {E:En} {ev:Operand->AV} {a:Act} (he:∀ x,Rel E (ev x) (a.eval x)):∀ (l:List Operand),RelL E (l.map ev) (l.map a.eval)
 | []=>by simp [RelL]
 |x::l=>by
  simp only [ay,RelL]
  exact ⟨_,_,rfl,he x,qD he l⟩
theorem yS {E:En} {ev:Operand->AV} {a:Act} (he:∀ x,Rel E (ev x) (a.eval x)) (o:Option Operand):∀ x,o.map ev=some x->∃ v,o.map a.eval=some v/\Rel E x v:=by
 intro x hx
 cases o with
 |none=>cases hx
 |some y=>
  simp at hx
  subst hx
  exact ⟨_,rfl,he y⟩
theorem yT {ev:Operand->AV} {a:Act} (o:Option Operand):o.map ev=none->o.map a.eval=none:=by
 cases o<;>simp
theorem LH {P:Program} {G:Nat->Option (List AV)} {E:En} (i:Inv G E) {b:Builtin} {ts:Array TypeId} {xs:List AV} {us:Array Value} {nb:Nat} {eff:eL} (ty:TypeId) (cs:Array Bool) (h:iY P b ts xs E.rows nb=some eff) (r:RelL E xs us.toList):
  RunsN P G E (builtin b ts ty cs us) eff:=by
 have one:∀ {x:AV},RelL E [x] us.toList->∃ u,us= #[u]/\Rel E x u:=by
  intro x hx
  simp only [RelL] at hx
  obtain ⟨v,rest,h1,h2,rfl⟩:=hx
  exact ⟨v,by apply ja;simpa using h1,h2⟩
 unfold iY at h
 split at h
 .rename_i s x
  split at h
  .rename_i t u ht hu
   simp only [au] at h
   obtain ⟨hsz,h⟩:=h
   simp only [RelL] at r
   obtain ⟨v1,r1,e1,k1,v2,r2,rfl,k2,rfl⟩:=r
   have hus:us= #[v1,v2]:=by apply ja;simpa using e1
   have hts:ts= #[t,u]:=by
    apply Array.ext
    .simp [hsz]
    .intro j h1 h2
     simp at h2
     have h3:ts[j]? =some ts[j]:=d6 h1
     rcases j with _|_|j
     .rw [ht] at h3;injection h3 with h3;simpa using h3.symm
     .rw [hu] at h3;injection h3 with h3;simpa using h3.symm
     .omega
   subst hus
   subst hts
   exact RunsN.of_runs (NL i h k1 k2)
  .cases h
 .rename_i x
  split at h
  .rename_i t ht
   obtain ⟨u,rfl,hu⟩:=one r
   exact RunsN.of_val i h fun v hv=>Z4 i ht hv hu
  .cases h
 .rename_i x
  split at h
  .rename_i t ht
   obtain ⟨u,rfl,hu⟩:=one r
   exact RunsN.of_runs (RR i ht h hu)
  .cases h
 .exact RunsN.of_val i h fun v hv=>by simpa using B8 (P:=P) ts ty false hv r
 .exact RunsN.of_val i h fun v hv=>by simpa using B8 (P:=P) ts ty true hv r
 .cases h
theorem BM (a:Act):∀ (y:Operand),k7 y=true->a.eval y=.slice none 0 0:=by
 intro y hn
 unfold k7 at hn
 split at hn
 .rfl
 .cases hn
theorem aBk {P:Program} {G:Nat->Option (List AV)} {E:En} {a:Act} {ev:Operand->AV} {o:Oper} {nb:Nat} {eff:eL} (i:Inv G E) (he:∀ x,Rel E (ev x) (a.eval x)) (h:pT P o.op ev E.rows nb=some eff):
  RunsN P G E (execOp a.eval o) eff:=by
 unfold execOp
 cases hop:o.op<;>rw [hop] at h<;>simp only [pT] at h
 case move x=>
  injection h with h;subst h
  exact ⟨.value (a.eval x),E,rfl,.inl ⟨_,rfl,he x⟩,Ext.refl E,i,rfl⟩
 case assign x=>
  injection h with h;subst h
  exact ⟨.value (a.eval x),E,rfl,.inl ⟨_,rfl,he x⟩,Ext.refl E,i,rfl⟩
 case pick c x y=>
  split at h
  .rename_i t ht
   injection h with h;subst h
   have hc:=he c
   rw [ht] at hc
   simp only [Rel] at hc
   refine ⟨.value (if t=true then a.eval x else a.eval y),E,by simp [hc,asBool],.inl ⟨_,rfl,?_⟩,Ext.refl E,i,rfl⟩
   cases t with
   |true=>simpa using he x
   |false=>simpa using he y
  .cases h
 case alloc t=>
  split at h
  .rename_i z hz
   obtain ⟨zv,hzr,rfl⟩:=fH hz E.w
   have:=CZ (P:=P) i t h (iE E zv)
   have hr:(Instr.alloc t true (.tuple #[])).run P E.w=(do pure (.pointer (some (<- newVar t zv))):Sem Value).run P E.w:=by simp [Instr.alloc,hzr]
   exact RunsN.of_runs (by unfold Runs at *;rw [hr];exact this)
  .cases h
 case box t x=>exact RunsN.of_runs (CZ i t h (he x))
 case build t parts=>exact RunsN.of_val i h fun v hv=>RS hv (by simpa using FM he parts.toList)
 case buildSlice t len parts=>
  simp only [bw] at h
  obtain ⟨v,h1,rfl⟩:=h
  exact RunsN.of_runs (B9 i h1 (by simpa using FM he parts.toList))
 case load t x=>exact RunsN.of_val i h fun v hv=>WD i hv (he x)
 case store t x y=>exact RunsN.of_unit (RL i h (he x) (he y))
 case nilCheck x=>
  simp only [bw] at h
  obtain ⟨v,h1,rfl⟩:=h
  have hx:=he x
  generalize ev x=av at h1 hx
  simp only
  generalize a.eval x=u at hx ⊢
  unfold iN at h1
  split at h1
  .rename_i r ver off
   simp only [bw] at h1
   obtain ⟨cs,h2,rfl⟩:=h1
   have:=rP h2 hx
   subst this
   exact ⟨_,E,rfl,.inl ⟨_,rfl,hx⟩,Ext.refl E,i,rfl⟩
  .injection h1 with h1
   subst h1
   have hx':=hx
   simp only [Rel] at hx
   obtain ⟨b,off,vs,rfl,_⟩:=hx
   exact ⟨_,E,rfl,.inl ⟨_,rfl,hx'⟩,Ext.refl E,i,rfl⟩
  .injection h1 with h1
   subst h1
   have hx':=hx
   simp only [Rel] at hx
   obtain ⟨b,off,rfl,_⟩:=hx
   exact ⟨_,E,rfl,.inl ⟨_,rfl,hx'⟩,Ext.refl E,i,rfl⟩
  .cases h1
 case binOp op t x y yt=>exact RunsN.of_val i h fun v hv=>Z7 i hv (he x) (he y) (BM a y)
 case unOp op t x=>exact RunsN.of_val i h fun v hv=>aBm hv (he x)
 case convert s d x=>exact RunsN.of_val i h fun v hv=>LG hv (he x)
 case makeFunc f first cap=>
  injection h with h;subst h
  refine ⟨.value (.func f (first.map a.eval) (cap.map a.eval)),E,by simp [Instr.makeFunc],.inl ⟨_,rfl,?_⟩,Ext.refl E,i,rfl⟩
  simp only [Rel]
  exact ⟨first.toList.map a.eval,cap.toList.map a.eval,by congr 1<;>(apply ja;simp),qD he _,qD he _⟩
 case makeMap t r=>
  cases r with
  |some r=>cases h
  |none=>
   simp only at h
   split at h
   .rename_i hnb
    injection h with h;subst h
    have hst:=I2 i hnb
    refine ⟨.value (.map (some E.w.heap.size)),_,?_,.inl ⟨_,rfl,?_⟩,hst.1,hst.2,rfl⟩
    .simp [Instr.makeMap]
    .simp [Rel,RefOK,upd,Value.oneCell']
   .cases h
 case makeSlice t l c=>exact RunsN.of_runs (BV i h (he l) (he c))
 case slice t x lo hi mx=>exact RunsN.of_val i h fun v hv=>RM i hv (he x) (yS he lo) (yT lo) (yS he hi) (yT hi) (yS he mx) (yT mx)
 case fieldAddr s x f=>exact RunsN.of_val i h fun v hv=>BX i hv (he x)
 case field s x f=>exact RunsN.of_val i h fun v hv=>RP hv (he x)
 case indexAddr t x j=>exact RunsN.of_val i h fun v hv=>BW i hv (he x) (he j)
 case index t x j=>exact RunsN.of_val i h fun v hv=>RO hv (he x) (he j)
 case lookup t x j ok=>exact RunsN.of_val i h fun v hv=>NK i hv (he x) (he j)
 case mapUpdate t m k x=>exact RunsN.of_unit (rJ i h (he m) (he k) (he x))
 case insert t m k x=>exact RunsN.of_unit (rJ i h (he m) (he k) (he x))
 case range t x=>exact RunsN.of_runs (RN i h (he x))
 case entry x=>exact RunsN.of_val i h fun v hv=>RQ i hv (he x)
 case extract x j=>
  have hx:=he x
  split at h
  .rename_i vs hvs
   rw [hvs] at hx
   simp only [Rel] at hx
   obtain ⟨us,hu,hr⟩:=hx
   exact RunsN.of_val i h fun v hv=>by
    obtain ⟨u,h1,h2⟩:=hr.get hv
    exact ⟨u,by simp [Instr.extract,hu,h1],h2⟩
  .cases h
 case call c=>
  split at h
  .rename_i b hb
   have:=fun cs=>LH (P:=P) (us:=c.args.map a.eval) i o.type cs h (by simpa using qD he c.args.toList)
   have e:∃ cs,resolve a.eval c o.type=pure { target:=.builtin b c.argTypes o.type cs,args:=c.args.map a.eval }:=by
    unfold resolve
    rw [hb]
    exact ⟨_,rfl⟩
   obtain ⟨cs,e⟩:=e
   simp only
   rw [e]
   exact this cs
  .cases h
 all_goals cases h
end Go.AM
namespace Go.AM
def nR:List AV->Nat->AV->List AV
 | [],0,v=>[v]
 | [],n+1,v=>.undef::nR [] n v
 |_::l,0,v=>v::l
 |x::l,n+1,v=>x::nR l n v
theorem mS:∀ (l:List AV) (t:Nat) (v:AV) (i:Nat),(nR l t v).getD i .undef=if i=t then v else l.getD i .undef
 | [],0,v,0=>by simp [nR]
 | [],0,v,i+1=>by simp [nR]
 | [],n+1,v,0=>by simp [nR]
 | [],n+1,v,i+1=>by
  have:=mS [] n v i
  simp only [nR,iu,this,Nat.add_right_cancel_iff]
  simp
 |_::l,0,v,0=>by simp [nR]
 |_::l,0,v,i+1=>by simp [nR]
 |x::l,n+1,v,0=>by simp [nR]
 |x::l,n+1,v,i+1=>by
  have:=mS l n v i
  simp only [nR,iu,this,Nat.add_right_cancel_iff]
def eD:List ARow->Nat->ARow->List ARow
 | [],0,v=>[v]
 | [],n+1,v=>.none::eD [] n v
 |_::l,0,v=>v::l
 |x::l,n+1,v=>x::eD l n v
theorem qJ:∀ (l:List ARow) (t:Nat) (v:ARow) (i:Nat),(eD l t v).getD i .none=if i=t then v else l.getD i .none
 | [],0,v,0=>by simp [eD]
 | [],0,v,i+1=>by simp [eD]
 | [],n+1,v,0=>by simp [eD]
 | [],n+1,v,i+1=>by
  have:=qJ [] n v i
  simp only [eD,iu,this,Nat.add_right_cancel_iff]
  simp
 |_::l,0,v,0=>by simp [eD]
 |_::l,0,v,i+1=>by simp [eD]
 |x::l,n+1,v,0=>by simp [eD]
 |x::l,n+1,v,i+1=>by
  have:=qJ l n v i
  simp only [eD,iu,this,Nat.add_right_cancel_iff]
structure AS where
 fr:List AV
 h:List ARow
 deriving Inhabited
def AS.get (s:AS) (t:Nat):AV:=s.fr.getD t .undef
def AS.row (s:AS) (r:Nat):ARow:=s.h.getD r .none
def AS.put (s:AS) (dst:Option Tmp) (v:AV):AS:=match dst with|some t=>⟨nR s.fr t v,s.h⟩|none=>s
def AS.wr (s:AS) (l:List (Nat × ARow)):AS:=⟨s.fr,l.foldl (fun h p=>eD h p.1 p.2) s.h⟩
def AS.apply (s:AS) (dst:Option Tmp) (eff:eL):AS:=(s.wr eff.wr).put dst eff.val
theorem AS.get_put (s:AS) (t:Nat) (v:AV) (i:Nat):(s.put (some t) v).get i=if i=t then v else s.get i:=mS s.fr t v i
theorem AS.get_put_none (s:AS) (v:AV):s.put none v=s:=rfl
theorem AS.row_put (s:AS) (d:Option Tmp) (v:AV):(s.put d v).row=s.row:=by cases d<;>rfl
theorem AS.h_put (s:AS) (d:Option Tmp) (v:AV):(s.put d v).h=s.h:=by cases d<;>rfl
theorem AS.get_wr (s:AS) (l:List (Nat × ARow)):(s.wr l).get=s.get:=rfl
theorem AS.row_wr (s:AS) (l:List (Nat × ARow)):(s.wr l).row=upd s.row l:=by
 unfold AS.wr
 have:∀ (l:List (Nat × ARow)) (h:List ARow),(fun r=>(l.foldl (fun h p=>eD h p.1 p.2) h).getD r .none)=upd (fun r=>h.getD r .none) l:=by
  intro l
  induction l with
  |nil=>intro h;rfl
  |cons p l ih=>
   intro h
   simp only [gr,ih,upd]
   congr 1
   funext r
   exact qJ h p.1 p.2 r
 exact this l s.h
class i6 where
 round:Option Nat
 base:Option Nat
instance aCY:i6:=⟨none,none⟩
def BJ [r:i6]:Fence:={ Fence.wide with round:=r.round }
def DefOK [r:i6] (E:En) (ds:List Deferred):Prop:=
 match r.base with
 |none=>ds=[]
 |some b=>b<=E.w.heap.size/\∃ Ds:List Nat,ds=Ds.map (fun D=>{ target:=.collected D,args:= #[] })/\Ds.Nodup/\∀ D∈Ds,b<=D/\E.w.heap[D]? =some (.deferred (some []))/\¬ E.S D/\∀ q,(E.rows q).live=true->E.ρ q≠D
theorem DefOK.nil {ro:Option Nat} {E:En}: @DefOK ⟨ro,none⟩ E []:=rfl
theorem DefOK.nilB {ro:Option Nat} {E:En}: @DefOK ⟨ro,some E.w.heap.size⟩ E []:=⟨ap _,[],rfl,List.nodup_nil,fun D hD=>by cases hD⟩
theorem DefOK.of [r:i6] {E E':En} (hsz:E.w.heap.size<=E'.w.heap.size) (out:∀ b,b<E.w.heap.size->(∀ r,(E.rows r).live=true->E.ρ r≠b)->E'.w.heap[b]? =E.w.heap[b]?/\(E'.S b->E.S b))
  (fresh:∀ r,(E'.rows r).live=true->((E.rows r).live=true/\E'.ρ r=E.ρ r)\/E.w.heap.size<=E'.ρ r) {ds:List Deferred} (h:DefOK E ds):DefOK E' ds:=by
 revert h
 unfold DefOK
 cases r.base with
 |none=>exact id
 |some b=>
  rintro ⟨hb,Ds,rfl,hn,hD⟩
  refine ⟨dj hb hsz,Ds,rfl,hn,fun D hm=>?_⟩
  obtain ⟨h1,h2,h3,h4⟩:=hD D hm
  have hlt:=(cq.1 h2).1
  have o:=out D hlt h4
  refine ⟨h1,o.1.trans h2,fun s=>h3 (o.2 s),fun q hq e=>?_⟩
  rcases fresh q hq with ⟨h5,h6⟩|h5
  .exact h4 q h5 (h6 ▸ e)
  .omega
theorem DefOK.ext [i6] {E E':En} (x:Ext E E') {ds:List Deferred} (h:DefOK E ds):DefOK E' ds:=h.of x.sz x.out x.fresh
structure Sim [i6] (G:Nat->Option (List AV)) (n:Nat) (s:AS) (E:En) (a:Act):Prop where
 inv:Inv G E
 rows:E.rows=s.row
 sz:a.tmps.size=n
 tm:∀ t,Rel E (s.get t) (a.tmps.getD t undef)
 df:DefOK E a.defers
theorem Sim.eval [i6] {G:Nat->Option (List AV)} {n:Nat} {s:AS} {E:En} {a:Act} (h:Sim G n s E a) (x:Operand):Rel E (d8 G s.get x) (a.eval x):=by
 cases x with
 |tmp t=>exact h.tm t
 |const v=>exact iE E v
 |func f=>simp only [d8,Rel,Act.eval];exact ⟨[],[],rfl,by simp [RelL],by simp [RelL]⟩
 |global g=>
  simp only [d8,Act.eval]
  cases hg:G g with
  |none=>simp [Rel]
  |some cs=>
   obtain ⟨vs,h1,h2,h3⟩:=h.inv.glob g cs hg
   simp only [Rel]
   exact ⟨g,0,vs,rfl,h1,h2,h3⟩
def jO (n:Nat):Option Tmp->Prop
 |some t=>t<n
 |none=>True
theorem Sim.step [i6] {G:Nat->Option (List AV)} {n:Nat} {s:AS} {E E':En} {a:Act} {eff:eL} {v:Value} {dst:Option Tmp} (h:Sim G n s E a) (hd:jO n dst) (x:Ext E E') (i:Inv G E') (hr:E'.rows=upd E.rows eff.wr) (hv:Rel E' eff.val v):
  Sim G n (s.apply dst eff) E' (a.put dst v):=by
 refine ⟨i,?_,?_,fun t=>?_,?_⟩
 .rw [hr,h.rows,<- AS.row_wr]
  exact (AS.row_put _ _ _).symm
 .cases dst<;>simp [Act.put,h.sz]
 .cases dst with
  |none=>exact (h.tm t).ext h.inv x
  |some d=>
   simp only [AS.apply,AS.get_put,Act.put,AS.get_wr]
   by_cases e:t=d
   .subst e
    have hlt:t<a.tmps.size:=by rw [h.sz];exact hd
    simpa [Array.getD,hlt] using hv
   .simp only [if_neg e]
    have:(a.tmps.setIfInBounds d v).getD t undef=a.tmps.getD t undef:=by
     simp only [dt,jj]
     simp [Ne.symm e]
    rw [this]
    exact (h.tm t).ext h.inv x
 .have:=h.df.ext x
  cases dst<;>simpa [Act.put] using this
theorem Sim.skip [i6] {G:Nat->Option (List AV)} {n:Nat} {s:AS} {E:En} {a:Act} {dst:Option Tmp} (h:Sim G n s E a) (hd:jO n dst):Sim G n (s.put dst (.tup [])) E (a.put dst undef):=
 Sim.step (eff:=⟨.tup [],[]⟩) h hd (Ext.refl E) h.inv rfl (by simp only [Rel];exact ⟨[],rfl,by simp [RelL]⟩)
def fR (P:Program) (f:FuncId):Bool:=match P.funcs[f]? with|some fn=>fn.body.isSome&&fn.name != "runtime.NumGoroutine"|none=>false
def c8 (P:Program) (G:Nat->Option (List AV)) (f:FuncId) (args:List AV) (rows:Nat->ARow) (fp:List Nat) (eff:eL):Prop:=
 fR P f=true/\(∀ p∈eff.wr,p.1∈fp)/\∀ E us,Inv G E->(∀ r∈fp,E.rows r=rows r)->RelL E args us->
  Calls P f us.toArray E.w fun e w'=>∃ v E',e=.returned v/\w'=E'.w/\Rel E' eff.val v/\Ext E E'/\Inv G E'/\E'.rows=upd E.rows eff.wr
def fX (o:Op) (ev:Operand->AV):Option (FuncId × List AV):=
 match o with
 | .call c=>match c.callee with
  | .value x=>match ev x with
   | .fn (.func f) first cap=>some (f,first++c.args.toList.map ev++cap)
   |_=>none
  |_=>none
 |_=>none
def lO (o:Op) (ev:Operand->AV):Option (Nat × List AV):=
 match o with
 | .call c=>match c.callee with
  | .value x=>match ev x with
   | .yld r=>some (r,c.args.toList.map ev)
   |_=>none
  |_=>none
 |_=>none
def wI (P:Program) (G:Nat->Option (List AV)) (r:Nat) (args:List AV) (rows:Nat->ARow) (fp:List Nat) (eff:eL):Prop:=
 r∈fp/\(rows r).obj=true/\(∀ p∈eff.wr,p.1∈fp)/\∀ E us,Inv G E->(∀ q∈fp,E.rows q=rows q)->RelL E args us->
  YieldAt Fence.wide 0 P (E.ρ r) us.toArray E.w fun e w'=>∃ v E',e=.returned v/\w'=E'.w/\Rel E' eff.val v/\Ext E E'/\Inv G E'/\E'.rows=upd E.rows eff.wr
theorem Y0 {row:ARow} {p:Prop} (h:RefOK row 0 p) (ho:row.obj=true):p:=by
 cases row<;>first|exact h.2|cases ho
def EQ (P:Program) (G:Nat->Option (List AV)) (o:Op) (ev:Operand->AV) (rows:Nat->ARow) (nb:Nat) (eff:eL):Prop:=
 match fX o ev with
 |some (f,args)=>∃ fp,c8 P G f args rows fp eff
 |none=>match lO o ev with
  |some (r,args)=>∃ fp,wI P G r args rows fp eff
  |none=>pT P o ev rows nb=some eff
theorem TC {P:Program} {E:En} {ev:Operand->AV} {a:Act} {o:Oper} {f:FuncId} {args:List AV} (he:∀ x,Rel E (ev x) (a.eval x)) (h:fX o.op ev=some (f,args)) (hf:fR P f=true):
  ∃ us,RelL E args us/\(execOp a.eval o).run P E.w=.ok (.enter f us.toArray) E.w:=by
 unfold fX at h
 split at h
 .rename_i c hop
  split at h
  .rename_i x hx
   split at h
   .rename_i f' first cap hfn
    simp only [ao,db] at h
    obtain ⟨rfl,rfl⟩:=h
    have hv:=he x
    rw [hfn] at hv
    simp only [Rel] at hv
    obtain ⟨p,q,hv,h1,h2⟩:=hv
    refine ⟨p++c.args.toList.map a.eval++q,(h1.append (qD he _)).append h2,?_⟩
    unfold fR at hf
    cases hfu:P.funcs[f']? with
    |none=>rw [hfu] at hf;cases hf
    |some fn=>
     rw [hfu] at hf
     simp only [ae,bne_iff_ne,ne_eq] at hf
     have hb:¬ fn.body=none:=by
      intro e
      rw [e] at hf
      simp at hf
     have ha:p.toArray++(c.args.map a.eval++q.toArray)=(p++(c.args.toList.map a.eval++q)).toArray:=by apply ja;simp
     simp [execOp,hop,resolve,hx,hv,Deferred.ofValue,invoke,callFunc,hfu,hf.2,hb,ha]
   .cases h
  .cases h
 .cases h
theorem XL {P:Program} {E:En} {ev:Operand->AV} {a:Act} {o:Oper} {r:Nat} {args:List AV} (he:∀ x,Rel E (ev x) (a.eval x)) (h:lO o.op ev=some (r,args)) (hr:(E.rows r).obj=true):
  ∃ us,RelL E args us/\(execOp a.eval o).run P E.w=(Instr.yield (E.ρ r) us.toArray).run P E.w:=by
 unfold lO at h
 split at h
 .rename_i c hop
  split at h
  .rename_i x hx
   split at h
   .rename_i r' hfn
    simp only [ao,db] at h
    obtain ⟨rfl,rfl⟩:=h
    have hv:=he x
    rw [hfn] at hv
    simp only [Rel] at hv
    have hv:=Y0 hv.2 hr
    refine ⟨c.args.toList.map a.eval,qD he _,?_⟩
    have ha:c.args.map a.eval=(c.args.toList.map a.eval).toArray:=by apply ja;simp
    simp [execOp,hop,resolve,hx,hv,Deferred.ofValue,invoke,ha]
   .cases h
  .cases h
 .cases h
theorem AO {o:Op} {ev:Operand->AV} {x:FuncId × List AV} (h:fX o ev=some x):∀ c,o≠.defer c:=by
 rintro c rfl
 cases h
theorem BE {o:Op} {ev:Operand->AV} {x:Nat × List AV} (h:lO o ev=some x):∀ c,o≠.defer c:=by
 rintro c rfl
 cases h
theorem L8 {P:Program} {o:Op} {ev:Operand->AV} {rows:Nat->ARow} {nb:Nat} {eff:eL} (h:pT P o ev rows nb=some eff):∀ c,o≠.defer c:=by
 rintro c rfl
 cases h
theorem ES [r:i6] {P:Program} {G:Nat->Option (List AV)} {E:En} {ev:Operand->AV} {a:Act} {o:Oper} {nb:Nat} {eff:eL} {K:Act->World->Prop} {Q:Exit->Act->World->Prop} (i:Inv G E) (he:∀ x,Rel E (ev x) (a.eval x))
  (h:EQ P G o.op ev E.rows nb eff) (hk:∀ E' v,Ext E E'->Inv G E'->E'.rows=upd E.rows eff.wr->Rel E' eff.val v->K (a.put o.dst v) E'.w):o.wpIn BJ 0 P a E.w K Q:=by
 refine ⟨fun _ _=>trivial,?_⟩
 unfold EQ at h
 split at h
 .rename_i f args hc
  obtain ⟨fp,hf,_,hcall⟩:=h
  obtain ⟨us,h1,h2⟩:=TC (P:=P) he hc hf
  rw [Oper.semAt_eq _ _ _ (AO hc),h2]
  refine ⟨fun hd=>(by cases hd),?_⟩
  refine (callsIn_wide (n:=0)).2 ((hcall E us i (fun _ _=>rfl) h1).mono fun e w' hr=>?_)
  obtain ⟨v,E',rfl,rfl,h3,h4,h5,h6⟩:=hr
  exact hk E' v h4 h5 h6 h3
 .rename_i hnc
  split at h
  .rename_i q args hc
   obtain ⟨fp,_,ho,_,hy⟩:=h
   obtain ⟨us,h1,h2⟩:=XL (P:=P) he hc ho
   rw [Oper.semAt_eq _ _ _ (BE hc),h2]
   obtain ⟨fn,tmps,asg,body,h3,h4⟩:=hy E us i (fun _ _=>rfl) h1
   rw [h3]
   refine ⟨fun hd=>(by cases hd),?_⟩
   refine RoundIn.mono (F:=BJ) h4 fun e w' hr=>?_
   obtain ⟨v,E',rfl,rfl,h5,h6,h7,h8⟩:=hr
   exact hk E' v h6 h7 h8 h5
  .obtain ⟨nx,E',h1,h2,h3,h4,h5⟩:=aBk (P:=P) i he h
   rw [Oper.semAt_eq _ _ _ (L8 h),h1]
   rcases h2 with ⟨v,rfl,hv⟩|⟨rfl,hv⟩
   .exact hk E' v h3 h4 h5 hv
   .exact hk E' undef h3 h4 h5 (by rw [hv];simp [Rel])
theorem JN {es:Array MapEntry} {left:List Nat} {seen:Array Nat} (h:∀ (j:Nat) (e:MapEntry),es[j]? =some e->(j∈left↔ ¬ e.born∈seen)) {e:MapEntry} (he:e∈es.filter fun e=> !seen.contains e.born):
  ∃ j,j∈left/\es[j]? =some e:=by
 simp only [Array.mem_filter] at he
 obtain ⟨h1,h2⟩:=he
 have h2:¬ e.born∈seen:=by simpa using h2
 obtain ⟨j,hj,hje⟩:=Array.mem_iff_getElem.1 h1
 have h3:es[j]? =some e:=by rw [d6 hj,hje]
 exact ⟨j,(h j e h3).2 h2,h3⟩
theorem Y5 {P:Program} {G:Nat->Option (List AV)} {E:En} (i:Inv G E) {r:Nat} {ks vs:List AV} {left:List Nat} {last:Nat} {u:Value} (ty:TypeId) (h:E.rows r=.iter ks vs left last) (hx:Rel E (.ptr r 0 0) u):
  (left=[]/\∃ E',(Instr.next u false ty).run P E.w=.ok (.tuple #[.bool false]) E'.w/\Ext E E'/\Inv G E'/\E'.rows=E.rows)\/
  ∃ j k v ku vu E',j∈left/\ks[j]? =some k/\vs[j]? =some v/\(Instr.next u false ty).run P E.w=.ok (.tuple #[.bool true,ku,vu]) E'.w/\Rel E' k ku/\Rel E' v vu/\Ext E E'/\Inv G E'/\E'.rows=upd E.rows [(r,.iter ks vs (left.erase j) j)]:=by
 have h0:=i.row r
 unfold RowOK at h0
 rw [h] at h0
 obtain ⟨mb,es,clock,since,seen,h1,h2,h3,h4,h5,rfl,h7,h8,h9,h10,h11,h12⟩:=h0
 have hsz:es.size=ks.length:=by have:=h7.length;simpa using this
 have hgo:(getObj (E.ρ r)).run P E.w=.ok (.mapIter (some mb) since seen since) E.w:=by simp [getObj,Sem.run,h1]
 rw [P8 i h hx]
 -- nothing new
 have hold:(es.filter fun e=> !seen.contains e.born).filter (fun e=>decide (e.born<since))=es.filter fun e=> !seen.contains e.born:=by
  apply Array.filter_eq_self.2
  intro e he
  simp only [Array.mem_filter] at he
  have:=h5.1 e (by simpa using he.1)
  simpa using this
 have hnew:(es.filter fun e=> !seen.contains e.born).filter (fun e=>decide (e.born >= since))= #[]:=by
  apply Array.filter_eq_empty_iff.2
  intro e he
  simp only [Array.mem_filter] at he
  have:=h5.1 e (by simpa using he.1)
  simp;omega
 have hguard:(!seen.isEmpty&& !es.isEmpty&&es.all (fun e=>decide (e.born >= since)))=false:=by
  by_cases he:es= #[]
  .simp [he]
  .have:es.all (fun e=>decide (e.born >= since))=false:=by
    rw [Array.all_eq_false']
    have hpos:0<es.size:=Nat.pos_of_ne_zero fun h=>he (by simpa using h)
    refine ⟨es[0],Array.getElem_mem hpos,?_⟩
    have:=h5.1 es[0] (by simp)
    simpa using this
   simp [this]
 generalize hF:es.filter (fun e=> !seen.contains e.born)=F at hold hnew
 by_cases hFe:F= #[]
 .refine .inl ⟨?_,E,?_,Ext.refl E,i,rfl⟩
  .refine List.eq_nil_iff_forall_not_mem.2 fun j hj=>?_
   have hlt:=h11 j hj
   have h13:=(h10 j es[j] (d6 hlt)).1 hj
   have:es[j]∈F:=by
    rw [<- hF]
    simp only [Array.mem_filter]
    exact ⟨Array.getElem_mem hlt,by simpa using h13⟩
   rw [hFe] at this
   simp at this
  .simp only [Instr.next,Sem.run_bind,hgo,Result.andThen_ok,dD h4,hguard]
   simp only [aw,if_false,hF]
   subst hFe
   simp [Question.forced]
 .right
  have hpos:0<F.size:=Nat.pos_of_ne_zero fun h=>hFe (by simpa using h)
  obtain ⟨idx,w1,hidx,hw1,hch⟩:∃ idx w1,idx<F.size/\(w1=E.w\/w1=E.w.drew)/\(choose (.mapNext F.size)).run P E.w=.ok idx w1:=by
   rw [run_choose]
   by_cases hf:(Question.mapNext F.size).forced=true
   .rw [if_pos hf]
    exact ⟨0,E.w,hpos,.inl rfl,rfl⟩
   .rw [if_neg hf]
    exact ⟨_,E.w.drew,by simp only [Question.cut];exact Nat.mod_lt _ hpos,.inr rfl,rfl⟩
  obtain ⟨j,hj,hje⟩:=JN (seen:=seen) h10 (e:=F[idx]) (by rw [hF];exact Array.getElem_mem hidx)
  have hjl:es.toList[j]? =some F[idx]:=by simpa using hje
  obtain ⟨ku,rk,hku⟩:∃ k,ks[j]? =some k/\Rel E k F[idx].key:=by
   have hlt:=h11 j hj
   refine ⟨ks[j],ah (by omega),?_⟩
   obtain ⟨v,e1,e2⟩:=h7.get (ah (show j<ks.length by omega))
   simp only [bh,hjl,dv,ao] at e1
   rw [e1];exact e2
  obtain ⟨vu,rv,hvu⟩:∃ k,vs[j]? =some k/\Rel E k F[idx].val:=by
   have hlt:=h11 j hj
   have hl2:vs.length=es.size:=by have:=h8.length;simpa using this.symm
   refine ⟨vs[j],ah (by omega),?_⟩
   obtain ⟨v,e1,e2⟩:=h8.get (ah (show j<vs.length by omega))
   simp only [bh,hjl,dv,ao] at e1
   rw [e1];exact e2
  have hl:(E.rows r).live=true:=by rw [h];rfl
  have hheap:w1.heap=E.w.heap:=by rcases hw1 with rfl|rfl<;>rfl
  have hst := gV (G := G) i { w1 with heap := w1.heap.setIfInBounds (E.ρ r) (.mapIter (some mb) since (seen.push F[idx].born) since) } E.ρ (upd E.rows [(r, .iter ks vs (left.erase j) j)]) r
   (by rcases hw1 with rfl|rfl<;>rfl) (by rcases hw1 with rfl|rfl<;>rfl) (by rcases hw1 with rfl|rfl<;>rfl) (by simp [hheap]) (fun q hq=>⟨by simp [upd,hq],rfl⟩)
   (fun b hb hne=>by rw [lD _ _ _ _ (hne hl),hheap])
   (fun h'=>by rw [h] at h';cases h') (fun _ _ h'=>by rw [h] at h';cases h') (fun _=>.inr ⟨by simp [upd,ARow.obj],rfl⟩) (fun _=>.inl ⟨hl,rfl⟩) (fun xx=>by
    unfold RowOK
    simp only [upd,if_true]
    have hmb:mb≠E.ρ r:=fun e=>h2 (e ▸ h3)
    refine ⟨mb,es,since,since,seen.push F[idx].born,rE _ _ _ _ (by rw [hheap];exact h1),h2,h3,?_,h5,rfl,h7.ext i xx,h8.ext i xx,h9.erase j,fun q e hq=>?_,fun q hq=>h11 q (List.mem_of_mem_erase hq),fun stamp hs=>?_⟩
    .rw [lD _ _ _ _ hmb,hheap];exact h4
    .rw [h9.mem_erase_iff]
     simp only [Array.mem_push,not_or]
     rw [h10 q e hq]
     have hborn:q≠j↔ ¬ e.born=F[idx].born:=by
      constructor
      .intro hne hbe
       apply hne
       have hql:es.toList[q]? =some e:=by simpa using hq
       have e1:(es.toList.map (·.born))[q]? =some F[idx].born:=by simp [hq,hbe]
       have e2:(es.toList.map (·.born))[j]? =some F[idx].born:=by simp [hje]
       have hqlt:q<(es.toList.map (·.born)).length:=(aq.1 e1).1
       exact (List.getElem?_inj hqlt h5.2).1 (e1.trans e2.symm)
      .rintro hbe rfl
       rw [hje] at hq
       injection hq with hq
       exact hbe (by rw [hq])
     rw [hborn,and_comm]
    .simp only [Array.back?_push,ao] at hs
     exact ⟨F[idx],hje,hs⟩)
  refine ⟨j,ku,vu,F[idx].key,F[idx].val,_,hj,rk,rv,?_,hku.ext i hst.1,hvu.ext i hst.1,hst.1,hst.2,rfl⟩
  have hne:F.isEmpty=false:=by simpa using hFe
  have eD:∀ o,(setObj (E.ρ r) o).run P w1=.ok () { w1 with heap:=w1.heap.setIfInBounds (E.ρ r) o }:=fun o=>by simp [setObj,Sem.run,hheap,h1]
  simp only [Instr.next,Sem.run_bind,hgo,Result.andThen_ok,dD h4,hguard]
  simp only [aw,if_false,hF,hne,hold,hnew,Array.append_empty,Array.empty_append,Array.size_map,Sem.run_bind]
  rw [hch]
  simp [hidx,eD]
def kP (ops:Array Oper) (o:Oper) (s:AS):Option Bool:=
 match o.guard with
 |none=>some true
 |some (j,want)=>match (ops[j]?).bind (·.dst) with
  |some d=>match s.get d with
   | .bool b=>some (b==want)
   | .tup []=>some false
   |_=>none
  |none=>none
theorem mN [i6] {G:Nat->Option (List AV)} {n:Nat} {s:AS} {E:En} {a:Act} {ops:Array Oper} {o:Oper} {b:Bool} (h:Sim G n s E a) (hw:kP ops o s=some b):Region.wanted o (yielded ops a.tmps)=b:=by
 unfold kP at hw
 unfold Region.wanted
 cases hg:o.guard with
 |none=>rw [hg] at hw;simp at hw;simp [hw]
 |some p=>
  obtain ⟨j,want⟩:=p
  rw [hg] at hw
  simp only at hw ⊢
  cases hd:(ops[j]?).bind (·.dst) with
  |none=>rw [hd] at hw;cases hw
  |some d=>
   rw [hd] at hw
   simp only at hw
   have ht:=h.tm d
   simp only [yielded,hd,ij]
   split at hw
   .rename_i c hc
    rw [hc] at ht
    simp only [Rel] at ht
    have:a.tmps[d]? =some (.bool c):=by
     rw [dt] at ht
     cases hx:a.tmps[d]? with
     |none=>rw [hx] at ht;simp [undef] at ht
     |some v=>rw [hx] at ht;simpa using ht
    rw [this]
    simp only [ao] at hw
    rw [<- hw]
    cases c<;>cases want<;>rfl
   .rename_i hc
    rw [hc] at ht
    simp only [Rel,RelL] at ht
    obtain ⟨vs,ht,rfl⟩:=ht
    injection hw with hw
    subst hw
    cases hx:a.tmps[d]? with
    |none=>cases want<;>rfl
    |some v=>
     rw [dt,hx] at ht
     simp only [eu] at ht
     subst ht
     cases want<;>rfl
   .cases hw
def I3 (P:Program) (G:Nat->Option (List AV)) (o:Op) (s:AS) (K:eL->Prop):Prop:=
 match o with
 | .next x false=>∃ r ks vs left last,d8 G s.get x=.ptr r 0 0/\s.row r=.iter ks vs left last/\(left=[]->K ⟨.tup [.bool false],[]⟩)/\
   ∀ j k v,j∈left->ks[j]? =some k->vs[j]? =some v->K ⟨.tup [.bool true,k,v],[(r,.iter ks vs (left.erase j) j)]⟩
 |o=>∃ eff,EQ P G o (d8 G s.get) s.row s.h.length eff/\K eff
theorem RZ [i6] {P:Program} {G:Nat->Option (List AV)} {n:Nat} {s:AS} {E:En} {a:Act} {o:Oper} {KE:eL->Prop} {K:Act->World->Prop} {Q:Exit->Act->World->Prop} (h:Sim G n s E a) (hd:jO n o.dst)
  (hs:I3 P G o.op s KE) (hk:∀ eff E' a',KE eff->Ext E E'->Sim G n (s.apply o.dst eff) E' a'->K a' E'.w):o.wpIn BJ 0 P a E.w K Q:=by
 unfold I3 at hs
 split at hs
 .rename_i x hop
  obtain ⟨r,ks,vs,left,last,h1,h2,h3,h4⟩:=hs
  have hx:=h.eval x
  rw [h1] at hx
  rw [<- h.rows] at h2
  refine ⟨fun _ _=>trivial,?_⟩
  rw [Oper.semAt_eq _ _ _ (by rw [hop];exact fun _ h=>by cases h)]
  unfold execOp
  rw [hop]
  rcases Y5 (P:=P) h.inv o.type h2 hx with ⟨hl,E',hr,x1,i1,e1⟩|⟨j,k,v,ku,vu,E',hj,hk1,hv1,hr,rk,rv,x1,i1,e1⟩
  .simp only [Sem.run_bind,hr,Result.andThen_ok,Sem.run_pure]
   refine hk _ E' _ (h3 hl) x1 (h.step hd x1 i1 (by simpa [upd] using e1) ?_)
   simp only [Rel]
   exact ⟨[.bool false],rfl,by simp only [RelL,Rel];exact ⟨_,_,rfl,rfl,rfl⟩⟩
  .simp only [Sem.run_bind,hr,Result.andThen_ok,Sem.run_pure]
   refine hk _ E' _ (h4 j k v hj hk1 hv1) x1 (h.step hd x1 i1 e1 ?_)
   simp only [Rel]
   exact ⟨[.bool true,ku,vu],rfl,by simp only [RelL,Rel];exact ⟨_,_,rfl,rfl,_,_,rfl,rk,_,_,rfl,rv,rfl⟩⟩
 .obtain ⟨eff,h1,h2⟩:=hs
  rw [<- h.rows] at h1
  exact ES h.inv h.eval h1 fun E' v x1 i1 e1 hv=>hk eff E' _ h2 x1 (h.step hd x1 i1 e1 hv)
def rgn (P:Program) (G:Nat->Option (List AV)) (n:Nat) (ops:Array Oper) (K:AS->Prop):List Oper->AS->Prop
 | [],s=>K s
 |o::rest,s=>jO n o.dst/\
  match kP ops o s with
  |some true=>I3 P G o.op s fun eff=>rgn P G n ops K rest (s.apply o.dst eff)
  |some false=>rgn P G n ops K rest (s.put o.dst (.tup []))
  |none=>False
structure ExtK (k:Nat) (E E':En):Prop where
 os:E'.w.os=E.w.os
 tape:E'.w.tape=E.w.tape
 output:E'.w.output=E.w.output
 sz:E.w.heap.size<=E'.w.heap.size
 sub:∀ b,E.S b->E'.S b
 out:∀ b,b<E.w.heap.size->(∀ r,(E.rows r).live=true->E.ρ r≠b)->E'.w.heap[b]? =E.w.heap[b]?/\(E'.S b->E.S b)
 dead:∀ r,r<k->E.rows r=.dead->E'.rows r=.dead
 cells:∀ r,r<k->∀ ver cs,E.rows r=.cells ver cs->E'.rows r=.dead\/∃ ver' cs',E'.rows r=.cells ver' cs'/\ver<=ver'/\(ver=ver'->E'.ρ r=E.ρ r/\
  ∀ cur e fz,E.w.heap[E.ρ r]? =some (.cells cur e fz)->∃ cur' e',E'.w.heap[E.ρ r]? =some (.cells cur' e' fz)/\cur'.size=cur.size)
 map:∀ r,r<k->(E.rows r).obj=true->E'.rows r=.dead\/((E'.rows r).obj=true/\E'.ρ r=E.ρ r)
 fresh:∀ r,(E'.rows r).live=true->((E.rows r).live=true/\E'.ρ r=E.ρ r)\/E.w.heap.size<=E'.ρ r
theorem Ext.toK {E E':En} (k:Nat) (h:Ext E E'):ExtK k E E':=
 ⟨h.os,h.tape,h.output,h.sz,h.sub,h.out,fun r _=>h.dead r,fun r _=>h.cells r,fun r _=>h.map r,h.fresh⟩
theorem ExtK.trans {k:Nat} {A B C:En} (h:ExtK k A B) (g:ExtK k B C):ExtK k A C where
 os:=g.os.trans h.os
 tape:=g.tape.trans h.tape
 output:=g.output.trans h.output
 sz:=dj h.sz g.sz
 sub:=fun b hb=>g.sub b (h.sub b hb)
 out:=fun b hb hl=>by
  have h1:=h.out b hb hl
  have h2:=g.out b (jk hb h.sz) fun r hr e=>by
   rcases h.fresh r hr with ⟨h3,h4⟩|h3
   .exact hl r h3 (h4 ▸ e)
   .omega
  exact ⟨h2.1.trans h1.1,fun s=>h1.2 (h2.2 s)⟩
 dead:=fun r hk hr=>g.dead r hk (h.dead r hk hr)
 cells:=fun r hk ver cs hr=>by
  rcases h.cells r hk ver cs hr with h1|⟨v1,c1,h1,h2,h3⟩
  .exact .inl (g.dead r hk h1)
  .rcases g.cells r hk v1 c1 h1 with k1|⟨v2,c2,k1,k2,k3⟩
   .exact .inl k1
   .refine .inr ⟨v2,c2,k1,by omega,fun e=>?_⟩
    obtain ⟨h4,h5⟩:=h3 (by omega)
    obtain ⟨k4,k5⟩:=k3 (by omega)
    refine ⟨k4.trans h4,fun cur e fz hc=>?_⟩
    obtain ⟨cur',e',m1,m2⟩:=h5 cur e fz hc
    rw [<- h4] at m1
    obtain ⟨cur'',e'',n1,n2⟩:=k5 cur' e' fz m1
    rw [h4] at n1
    exact ⟨cur'',e'',n1,n2.trans m2⟩
 map:=fun r hk hr=>by
  rcases h.map r hk hr with h1|⟨h1,h2⟩
  .exact .inl (g.dead r hk h1)
  .rcases g.map r hk h1 with m1|⟨m1,m2⟩
   .exact .inl m1
   .exact .inr ⟨m1,m2.trans h2⟩
 fresh:=fun r hr=>by
  rcases g.fresh r hr with ⟨h1,h2⟩|h1
  .rcases h.fresh r h1 with ⟨h3,h4⟩|h3
   .exact .inl ⟨h3,h2.trans h4⟩
   .exact .inr (by rw [h2];exact h3)
  .exact .inr (dj h.sz h1)
def aAF:Exit->Bool
 | .goto _=>false
 |_=>true
theorem iI {P:Program} {b:Frame} {a:Act} {k:List Item} {cs:List Frame} {w:World} {c:Code}:step P (lone (b.atR a (.code (.scope c)::k)) cs w)=.next (lone (b.atR a (.code c::.inScope c::k)) cs w):=
 step_lone_go (by simp [stepG,stepG.exec,Frame.atR])
theorem BF {P:Program} {b:Frame} {a:Act} {k:List Item} {cs:List Frame} {w:World} {c:Code}:step P (lone (b.atR a (.inScope c::k)) cs w)=.next (lone (b.atR a k) cs w):=
 step_lone_go (by simp [stepG,stepG.exec,Frame.atR])
theorem LN {F:Fence} {n:Nat} {P:Program} {Q:Exit->Act->World->Prop} {a:Act} {w:World} {c:Code} (h:c.wpIn F n P (fun e a w=>aAF e=true/\Q e a w) a w):(Code.scope c).wpIn F n P Q a w:=by
 intro b k cs hro hb hr
 have h0:(lone (b.atR a (.code (.scope c)::k)) cs w).fenced P F:=fenced_calm hb hr rfl
 obtain ⟨e,a₁,w₁,⟨hn,hq⟩,harr⟩:=h b (.inScope c::k) cs hro hb hr
 cases e with
 |normal=>exact ⟨.normal,a₁,w₁,hq,.head h0 iI (StepsIn.trans harr (.one (fenced_calm hb hr rfl) BF))⟩
 |exit id=>
  have hx:exitTo id (.inScope c::k)=exitTo id k:=by simp [exitTo]
  exact ⟨.exit id,a₁,w₁,hq,fun k' hk=>.head h0 iI (harr.1 k' (by rw [hx];exact hk)),
   fun hr' hk=>let ⟨k₁,h1,h2⟩:=harr.2 hr' (by rw [hx];exact hk);⟨k₁,h1,.head h0 iI h2⟩⟩
 |goto l=>cases hn
 |ret=>exact ⟨_,a₁,w₁,hq,.of_steps (.one h0 iI) harr⟩
 |panic ch=>exact ⟨_,a₁,w₁,hq,.of_steps (.one h0 iI) harr⟩
 |outgrown=>exact ⟨_,a₁,w₁,hq,.of_steps (.one h0 iI) harr⟩
def cG [i6] (P:Program) (G:Nat->Option (List AV)) (n k:Nat) (c:Code) (Q:Exit->AS->Prop) (s:AS):Prop:=
 ∀ E a,Sim G n s E a->c.wpIn BJ 0 P (fun e a' w'=>∃ s' E',w'=E'.w/\ExtK k E E'/\Sim G n s' E' a'/\Q e s') a E.w
section
variable [i6] {P:Program} {G:Nat->Option (List AV)} {n k:Nat} {Q:Exit->AS->Prop} {s:AS}
theorem rM {ops:Array Oper} {E0:En} {K:AS->Prop} {Q':Exit->Act->World->Prop} (hk:∀ s E a,K s->Ext E0 E->Sim G n s E a->Q' .normal a E.w):∀ (l:List Oper) (s:AS) (E:En) (a:Act),rgn P G n ops K l s->Ext E0 E->Sim G n s E a->wpListIn BJ 0 P ops Q' l a E.w
 | [],s,E,a,h,x,i=>hk s E a h x i
 |o::rest,s,E,a,h,x,i=>by
  obtain ⟨hd,h⟩:=h
  unfold wpListIn
  split at h
  .rename_i hw
   rw [if_pos (mN i hw)]
   exact (RZ i hd h fun eff E' a' hK x' i'=>rM hk rest _ E' a' hK (x.trans x') i')
  .rename_i hw
   rw [if_neg (by rw [mN i hw];simp)]
   exact ⟨fun _ _=>trivial,rM hk rest _ E _ h x (i.skip hd)⟩
  .exact h.elim
theorem ND {id:Nat} {ops:Array Oper} (h:rgn P G n ops (Q .normal) ops.toList s):cG P G n k (.region id ops false) Q s:=fun E a i=>
 wpIn_region_list (rM (fun s E' a hq x i=>⟨s,E',rfl,x.toK k,i,hq⟩) ops.toList s E a h (Ext.refl E) i)
theorem jR {c:Code} {Q':Exit->AS->Prop} (h:cG P G n k c Q s) (hq:∀ e s,Q e s->Q' e s):cG P G n k c Q' s:=fun E a i=>
 wpIn_mono (h E a i) fun e a' w' ⟨s',E',h1,h2,h3,h4⟩=>⟨s',E',h1,h2,h3,hq e s' h4⟩
def mY (K:AS->Prop) (Q:Exit->AS->Prop):Exit->AS->Prop
 | .normal,s=>K s
 |e,s=>Q e s
def oD (id:Nat) (Q:Exit->AS->Prop):Exit->AS->Prop
 | .exit id',s=>if id'=id then Q .normal s else Q (.exit id') s
 |e,s=>Q e s
theorem GX {x y:Code} (h:cG P G n k x (mY (cG P G n k y Q) Q) s):cG P G n k (.seq x y) Q s:=fun E a i=>by
 refine wpIn_seq (wpIn_mono (h E a i) ?_)
 rintro e a' w' ⟨s',E',rfl,h2,h3,h4⟩
 cases e with
 |normal=>
  refine wpIn_mono (h4 E' a' h3) ?_
  rintro e a'' w'' ⟨s'',E'',rfl,k2,k3,k4⟩
  exact ⟨s'',E'',rfl,h2.trans k2,k3,k4⟩
 |exit id=>exact ⟨s',E',rfl,h2,h3,h4⟩
 |goto l=>exact ⟨s',E',rfl,h2,h3,h4⟩
 |ret=>exact ⟨s',E',rfl,h2,h3,h4⟩
 |panic ch=>exact ⟨s',E',rfl,h2,h3,h4⟩
 |outgrown=>exact ⟨s',E',rfl,h2,h3,h4⟩
theorem AY (h:Q .normal s):cG P G n k .skip Q s:=fun E a i=>wpIn_skip ⟨s,E,rfl,(Ext.refl E).toK k,i,h⟩
theorem w5 (h:Q .ret s):cG P G n k .ret Q s:=fun E a i=>wpIn_ret ⟨s,E,rfl,(Ext.refl E).toK k,i,h⟩
theorem t4 {id:Nat} (h:Q (.exit id) s):cG P G n k (.exit id) Q s:=fun E a i=>wpIn_exit ⟨s,E,rfl,(Ext.refl E).toK k,i,h⟩
theorem EA {l:Nat} (h:Q .normal s):cG P G n k (.label l) Q s:=fun E a i=>wpIn_label ⟨s,E,rfl,(Ext.refl E).toK k,i,h⟩
theorem E9 {c:Code} (h:cG P G n k c (fun e s=>aAF e=true/\Q e s) s):cG P G n k (.scope c) Q s:=fun E a i=>by
 refine LN (wpIn_mono (h E a i) ?_)
 rintro e a' w' ⟨s',E',h1,h2,h3,h4,h5⟩
 exact ⟨h4,s',E',h1,h2,h3,h5⟩
theorem t5 {c:Operand} {x y:Code} {b:Bool} (hc:d8 G s.get c=.bool b) (ht:b=true->cG P G n k x Q s) (hf:b=false->cG P G n k y Q s):cG P G n k (.cond c x y) Q s:=fun E a i=>by
 have h:=i.eval c
 rw [hc] at h
 simp only [Rel] at h
 exact wpIn_cond_split h (fun e=>ht e E a i) (fun e=>hf e E a i)
theorem n7 {c:Operand} {x y:Code} (hc:d8 G s.get c=.anyb) (ht:cG P G n k x Q s) (hf:cG P G n k y Q s):cG P G n k (.cond c x y) Q s:=fun E a i=>by
 have h:=i.eval c
 rw [hc] at h
 simp only [Rel] at h
 obtain ⟨b,h⟩:=h
 exact wpIn_cond_split h (fun _=>ht E a i) (fun _=>hf E a i)
theorem qO {id:Nat} {c:Code} (h:cG P G n k c (oD id Q) s):cG P G n k (.block id c) Q s:=fun E a i=>by
 refine wpIn_block (wpIn_mono (h E a i) ?_)
 rintro e a' w' ⟨s',E',rfl,h2,h3,h4⟩
 cases e with
 |exit id'=>
  simp only [Exit.inBlock,oD] at h4 ⊢
  split
  .rename_i e;rw [if_pos e] at h4;exact ⟨s',E',rfl,h2,h3,h4⟩
  .rename_i e;rw [if_neg e] at h4;exact ⟨s',E',rfl,h2,h3,h4⟩
 |normal=>exact ⟨s',E',rfl,h2,h3,h4⟩
 |goto l=>exact ⟨s',E',rfl,h2,h3,h4⟩
 |ret=>exact ⟨s',E',rfl,h2,h3,h4⟩
 |panic ch=>exact ⟨s',E',rfl,h2,h3,h4⟩
 |outgrown=>exact ⟨s',E',rfl,h2,h3,h4⟩
end
end Go.AM
namespace Go.AM
mutual
def aI (p:Nat->Bool):AV->Bool
 | .undef=>true
 | .bool _=>true
 | .int _ _=>true
 | .str _=>true
 | .agg cs=>aP p cs
 | .tup cs=>aP p cs
 | .sl _ es=>cQ p es
 | .osl r _ _ _ _ _=>p r
 | .rsl r _ _ _ _=>p r
 | .rsv _=>true
 | .ptr r _ _=>p r
 | .imm cs=>aP p cs
 | .nilptr=>true
 | .mp ks vs=>aP p ks&&aP p vs
 | .omp r=>p r
 | .yld r=>p r
 | .fn _ a b=>aP p a&&aP p b
 | .nilfn=>true
 | .iface _ v=>aI p v
 | .niliface=>true
 | .anyb=>true
def aP (p:Nat->Bool):List AV->Bool
 | []=>true
 |c::cs=>aI p c&&aP p cs
def cQ (p:Nat->Bool):List (List AV)->Bool
 | []=>true
 |e::es=>aP p e&&cQ p es
end
structure eY (p:Nat->Bool) (E E':En):Prop where
 w:E'.w=E.w
 S:∀ b,E.S b->E'.S b
 rows:∀ r,p r=true->E'.rows r=E.rows r\/E'.rows r=.dead\/∃ ver cs cs',E.rows r=.cells ver cs/\E'.rows r=.cells ver cs'
 live:∀ r,p r=true->(E'.rows r).live=true->E'.ρ r=E.ρ r
theorem RefOK.agree {p:Nat->Bool} {E E':En} (g:eY p E E') {r ver:Nat} (hr:p r=true) {q q':Prop} (h:RefOK (E.rows r) ver q) (hp:(E'.rows r).live=true->q->q'):RefOK (E'.rows r) ver q':=by
 rcases g.rows r hr with e|e|⟨ver0,cs,cs',e1,e2⟩
 .rw [e] at hp ⊢
  cases hrow:E.rows r with
  |none=>rw [hrow] at h;exact h.elim
  |dead=>trivial
  |cells c cs=>rw [hrow] at h hp;exact ⟨h.1,fun e=>hp rfl (h.2 e)⟩
  |map ks vs=>rw [hrow] at h hp;exact ⟨h.1,hp rfl h.2⟩
  |iter ks vs l j=>rw [hrow] at h hp;exact ⟨h.1,hp rfl h.2⟩
  |loop st pend fr ps asg body=>rw [hrow] at h hp;exact ⟨h.1,hp rfl h.2⟩
 .rw [e];trivial
 .rw [e1] at h
  rw [e2] at hp ⊢
  exact ⟨h.1,fun e=>hp rfl (h.2 e)⟩
mutual
theorem Rel.agree {p:Nat->Bool} {E E':En} (g:eY p E E'):∀ {c:AV} {v:Value},aI p c=true->Rel E c v->Rel E' c v
 | .undef,_,_,_=>by simp [Rel]
 | .bool b,_,_,h=>by simpa only [Rel] using h
 | .int k n,_,_,h=>by simpa only [Rel] using h
 | .str s,_,_,h=>by simpa only [Rel] using h
 | .agg cs,_,hb,h=>by
  simp only [Rel] at h ⊢
  obtain ⟨vs,h1,h2,h3⟩:=h
  exact ⟨vs,h1,RelL.agree g (by simpa only [aI] using hb) h2,h3⟩
 | .tup cs,_,hb,h=>by
  simp only [Rel] at h ⊢
  obtain ⟨vs,h1,h2⟩:=h
  exact ⟨vs,h1,RelL.agree g (by simpa only [aI] using hb) h2⟩
 | .sl full es,_,hb,h=>by
  simp only [Rel] at h ⊢
  obtain ⟨q,cap,h1,h2,h3,h4,h5,b,off,sz,h6,h7⟩:=h
  exact ⟨q,cap,h1,h2,h3,h4,h5,b,off,sz,h6.imp id fun ⟨a,s⟩=>⟨a,g.S b s⟩,RelE.agree g (by simpa only [aI] using hb) h7⟩
 | .osl r ver off n sz full,v,hb,h=>by
  simp only [aI] at hb
  simp only [Rel] at h ⊢
  refine ⟨h.1,h.2.agree g hb fun hl hp=>?_⟩
  obtain ⟨cap,cur,e,a1,a2,a3,a4,a5,a6⟩:=hp
  exact ⟨cap,cur,e,by rw [g.live r hb hl];exact a1,a2,a3,a4,by rw [g.live r hb hl,g.w];exact a5,a6⟩
 | .rsl r ver off n sz,v,hb,h=>by
  simp only [aI] at hb
  simp only [Rel] at h ⊢
  refine ⟨h.1,h.2.agree g hb fun hl hp=>?_⟩
  obtain ⟨cap,cur,e,a1,a2,a3,a4,a5,a6⟩:=hp
  exact ⟨cap,cur,e,by rw [g.live r hb hl];exact a1,a2,a3,a4,by rw [g.live r hb hl,g.w];exact a5,a6⟩
 | .rsv _,_,_,h=>by simpa only [Rel] using h
 | .ptr r ver off,v,hb,h=>by
  simp only [aI] at hb
  simp only [Rel] at h ⊢
  exact ⟨h.1,h.2.agree g hb fun hl hp=>by rw [g.live r hb hl];exact hp⟩
 | .imm cs,_,hb,h=>by
  simp only [Rel] at h ⊢
  obtain ⟨b,off,vs,h1,h2,h3,h4⟩:=h
  exact ⟨b,off,vs,h1,g.S b h2,RelL.agree g (by simpa only [aI] using hb) h3,by rw [g.w];exact h4⟩
 | .nilptr,_,_,h=>by simpa only [Rel] using h
 | .mp ks vs,_,hb,h=>by
  simp only [aI,ae] at hb
  simp only [Rel] at h ⊢
  rcases h with h|⟨b,es,clock,h1,h2,h3,h6,el,h7,h4,h5⟩
  .exact .inl h
  .exact .inr ⟨b,es,clock,h1,g.S b h2,by rw [g.w];exact h3,h6,el,h7,RelL.agree g hb.1 h4,RelL.agree g hb.2 h5⟩
 | .omp r,v,hb,h=>by
  simp only [aI] at hb
  simp only [Rel] at h ⊢
  exact ⟨h.1,h.2.agree g hb fun hl hp=>by rw [g.live r hb hl];exact hp⟩
 | .yld r,v,hb,h=>by
  simp only [aI] at hb
  simp only [Rel] at h ⊢
  exact ⟨h.1,h.2.agree g hb fun hl hp=>by rw [g.live r hb hl];exact hp⟩
 | .fn f first cap,_,hb,h=>by
  simp only [aI,ae] at hb
  simp only [Rel] at h ⊢
  obtain ⟨a,b,h1,h2,h3⟩:=h
  exact ⟨a,b,h1,RelL.agree g hb.1 h2,RelL.agree g hb.2 h3⟩
 | .nilfn,_,_,h=>by simpa only [Rel] using h
 | .iface t c,_,hb,h=>by
  simp only [Rel] at h ⊢
  obtain ⟨u,h1,h2⟩:=h
  exact ⟨u,h1,Rel.agree g (by simpa only [aI] using hb) h2⟩
 | .niliface,_,_,h=>by simpa only [Rel] using h
 | .anyb,_,_,h=>by simpa only [Rel] using h
theorem RelL.agree {p:Nat->Bool} {E E':En} (g:eY p E E'):∀ {cs:List AV} {vs:List Value},aP p cs=true->RelL E cs vs->RelL E' cs vs
 | [],_,_,h=>by simpa only [RelL] using h
 |c::cs,_,hb,h=>by
  simp only [aP,ae] at hb
  simp only [RelL] at h ⊢
  obtain ⟨v,rest,h1,h2,h3⟩:=h
  exact ⟨v,rest,h1,Rel.agree g hb.1 h2,RelL.agree g hb.2 h3⟩
theorem RelE.agree {p:Nat->Bool} {E E':En} (g:eY p E E') {b:Nat}:∀ {es:List (List AV)} {off sz:Nat},cQ p es=true->RelE E es b off sz->RelE E' es b off sz
 | [],_,_,_,_=>by simp [RelE]
 |e::es,_,_,hb,h=>by
  simp only [cQ,ae] at hb
  simp only [RelE] at h ⊢
  obtain ⟨⟨h1,vs,h2,h3⟩,h4⟩:=h
  exact ⟨⟨h1,vs,RelL.agree g hb.1 h2,by rw [g.w];exact h3⟩,RelE.agree g hb.2 h4⟩
end
def aG (p:Nat->Bool):ARow->Bool
 | .cells _ cs=>aP p cs
 | .map ks vs=>aP p ks&&aP p vs
 | .iter ks vs _ _=>aP p ks&&aP p vs
 | .loop _ _ fr _ _ _=>aP p fr
 |_=>true
theorem lT {p:Nat->Bool}:∀ {l:List AV},aP p l=true->∀ t,aI p (l.getD t .undef)=true
 | [],_,t=>by simp [aI]
 |c::cs,h,0=>by simp only [aP,ae] at h;simpa using h.1
 |c::cs,h,t+1=>by simp only [aP,ae] at h;simpa using lT h.2 t
theorem Sim.gc [i6] {G:Nat->Option (List AV)} {n:Nat} {s:AS} {E:En} {a:Act} (i:Sim G n s E a) (m:Nat) (hg:∀ g cs,G g=some cs->aP (fun r=>decide (r<m)) cs=true) (h1:aP (fun r=>decide (r<m)) s.fr=true) (h2:(s.h.take m).all (aG (fun r=>decide (r<m)))=true):
  ∃ E',E'.w=E.w/\(∀ k,k<=m->ExtK k E E')/\Sim G n ⟨s.fr,s.h.take m⟩ E' a:=by
 let E':En:=⟨E.w,E.S,E.ρ,fun r=>if r<m then E.rows r else .none⟩
 have hrow:∀ r,r<m->E'.rows r=E.rows r:=fun r hr=>by simp [E',hr]
 have hnone:∀ r,¬ r<m->E'.rows r=.none:=fun r hr=>by simp [E',hr]
 have g:eY (fun r=>decide (r<m)) E E':=⟨rfl,fun _ h=>h,fun r hr=>.inl (hrow r (by simpa using hr)),fun r _ _=>rfl⟩
 have hlive:∀ r,(E'.rows r).live=true->r<m/\(E.rows r).live=true:=fun r hr=>by
  by_cases hm:r<m
  .rw [hrow r hm] at hr;exact ⟨hm,hr⟩
  .rw [hnone r hm] at hr;cases hr
 refine ⟨E',rfl,fun k hk=>⟨rfl,rfl,rfl,ap _,fun _ h=>h,fun _ _ _=>⟨rfl,id⟩,fun r hr h=>by rw [hrow r (by omega)];exact h,
  fun r hr ver cs h=>.inr ⟨ver,cs,by rw [hrow r (by omega)];exact h,ap _,fun _=>⟨rfl,fun cur e fz hc=>⟨cur,e,hc,rfl⟩⟩⟩,
  fun r hr h=>.inr ⟨by rw [hrow r (by omega)];exact h,rfl⟩,fun r hr=>.inl ⟨(hlive r hr).2,rfl⟩⟩,?_⟩
 refine ⟨⟨fun r=>?_,fun r r' h h' hne=>i.inv.inj r r' (hlive r h).2 (hlive r' h').2 hne,i.inv.sb,fun q cs hq=>?_⟩,?_,i.sz,fun t=>(i.tm t).agree g (lT h1 t),DefOK.of (E:=E) (E':=E') (ap _) (fun _ _ _=>⟨rfl,id⟩) (fun r hr=>.inl ⟨(hlive r hr).2,rfl⟩) i.df⟩
 .by_cases hm:r<m
  .have h0:=i.inv.row r
   unfold RowOK at h0 ⊢
   rw [hrow r hm]
   have hb:aG (fun r=>decide (r<m)) (E.rows r)=true:=by
    rw [i.rows]
    unfold AS.row
    rw [bc]
    cases hh:s.h[r]? with
    |none=>rfl
    |some x=>
     have:x∈s.h.take m:=aj (i:=r) (by rw [ep,if_pos hm];exact hh)
     exact cl.1 h2 x this
   cases hrr:E.rows r with
   |none=>trivial
   |dead=>trivial
   |cells ver cs=>
    rw [hrr] at h0 hb
    obtain ⟨cur,e,vs,a1,a2,a3,a4⟩:=h0
    exact ⟨cur,e,vs,a1,a2,a3.agree g hb,a4⟩
   |map ks vs=>
    rw [hrr] at h0 hb
    simp only [aG,ae] at hb
    obtain ⟨es,clock,a1,a2,a3,a4,a5⟩:=h0
    exact ⟨es,clock,a1,a2,a3,a4.agree g hb.1,a5.agree g hb.2⟩
   |iter ks vs l j=>
    rw [hrr] at h0 hb
    simp only [aG,ae] at hb
    obtain ⟨mb,es,clock,since,seen,a1,a2,a3,a4,a5,a6,a7,a8,a9⟩:=h0
    exact ⟨mb,es,clock,since,seen,a1,a2,a3,a4,a5,a6,a7.agree g hb.1,a8.agree g hb.2,a9⟩
   |loop st pend fr ps asg body=>
    rw [hrr] at h0 hb
    obtain ⟨fn,tm,D,a1,a2,a3⟩:=h0
    exact ⟨fn,tm,D,a1,a2,a3.agree g hb⟩
  .unfold RowOK
   rw [hnone r hm]
   trivial
 .obtain ⟨vs,a1,a2,a3⟩:=i.inv.glob q cs hq
  exact ⟨vs,a1,a2.agree g (hg q cs hq),a3⟩
 .funext r
  by_cases hm:r<m
  .rw [hrow r hm,i.rows]
   simp [AS.row,ep,hm]
  .rw [hnone r hm]
   simp [AS.row,ep,hm]
theorem Sim.forget [i6] {G:Nat->Option (List AV)} {n:Nat} {s:AS} {E:En} {a:Act} (i:Sim G n s E a) (fr:List AV) (h:∀ t,fr.getD t .undef=.undef\/fr.getD t .undef=s.get t):Sim G n ⟨fr,s.h⟩ E a:=
 ⟨i.inv,i.rows,i.sz,fun t=>by
  rcases h t with e|e
  .show Rel E (fr.getD t .undef) _
   rw [e];simp [Rel]
  .show Rel E (fr.getD t .undef) _
   rw [e];exact i.tm t,i.df⟩
def eJ:List (Nat × AV)->List AV
 | []=>[]
 |(t,v)::l=>nR (eJ l) t v
theorem iA (t:Nat) (v:AV) (l:List (Nat × AV)) (i:Nat):(eJ ((t,v)::l)).getD i .undef=if i=t then v else (eJ l).getD i .undef:=mS _ _ _ _
theorem j8 (i:Nat):(eJ []).getD i .undef=.undef:=by simp [eJ]
theorem JD:∀ (l:List (Nat × AV)) (g:Nat->AV),(∀ p∈l,g p.1=p.2)->∀ t,(eJ l).getD t .undef=.undef\/(eJ l).getD t .undef=g t
 | [],g,_,t=>.inl (j8 t)
 |(t',v)::l,g,h,t=>by
  rw [iA]
  by_cases e:t=t'
  .subst e;rw [if_pos rfl];exact .inr (h (t,v) (by simp)).symm
  .rw [if_neg e];exact JD l g (fun p hp=>h p (by simp [hp])) t
theorem zK {p:Nat->Bool}:∀ {l:List AV} {t:Nat} {v:AV},aP p l=true->aI p v=true->aP p (nR l t v)=true
 | [],0,v,_,h=>by simp [nR,aP,h]
 | [],t+1,v,_,h=>by simp only [nR,aP,aI,ac];exact zK (by simp [aP]) h
 |c::cs,0,v,g,h=>by simp only [aP,ae] at g;simp [nR,aP,h,g.2]
 |c::cs,t+1,v,g,h=>by
  simp only [aP,ae] at g
  simp only [nR,aP,ae]
  exact ⟨g.1,zK g.2 h⟩
theorem wV {p:Nat->Bool}:∀ {l:List (Nat × AV)},(∀ q∈l,aI p q.2=true)->aP p (eJ l)=true
 | [],_=>by simp [eJ,aP]
 |(t,v)::l,h=>zK (wV fun q hq=>h q (by simp [hq])) (h (t,v) (by simp))
def mG:List (Nat × AV)->(Nat->AV)->Prop
 | [],_=>True
 |p::l,g=>g p.1=p.2/\mG l g
theorem zR:∀ {l:List (Nat × AV)} {g:Nat->AV},mG l g->∀ p∈l,g p.1=p.2
 | [],_,_,p,hp=>by cases hp
 |q::l,g,h,p,hp=>by
  rcases bn.1 hp with rfl|hp
  .exact h.1
  .exact zR h.2 p hp
structure Weak (G:Nat->Option (List AV)) (k:Nat) (s:AS) (l:List (Nat × AV)) (h:List ARow):Prop where
 fr:mG l s.get
 rows:s.h=h\/(k<=h.length/\s.h.take h.length=h/\(∀ g cs,G g=some cs->aP (fun r=>decide (r<h.length)) cs=true)/\(∀ p∈l,aI (fun r=>decide (r<h.length)) p.2=true)/\h.all (aG (fun r=>decide (r<h.length)))=true)
theorem Sim.weak [i6] {G:Nat->Option (List AV)} {n k:Nat} {s:AS} {E:En} {a:Act} {l:List (Nat × AV)} {h:List ARow} (i:Sim G n s E a) (w:Weak G k s l h):∃ E',E'.w=E.w/\ExtK k E E'/\Sim G n ⟨eJ l,h⟩ E' a:=by
 have i1:=i.forget (eJ l) (JD l s.get (zR w.fr))
 rcases w.rows with e|⟨h1,h2,h3,h4,h5⟩
 .subst e
  exact ⟨E,rfl,(Ext.refl E).toK k,i1⟩
 .obtain ⟨E',e1,e2,e3⟩:=i1.gc h.length h3 (wV h4) (by rw [h2];exact h5)
  refine ⟨E',e1,e2 k h1,?_⟩
  rw [h2] at e3
  exact e3
section
variable [i6] {P:Program} {G:Nat->Option (List AV)} {n k:Nat} {Q:Exit->AS->Prop} {s:AS}
theorem VY {α:Type} {c:Code} (fr: α->List (Nat × AV)) (h: α->List ARow) (μ: α->Nat) (x₀: α) (w₀:Weak G k s (fr x₀) (h x₀))
  (round:∀ x,cG P G n k c (mY (fun s'=>∃ y,Weak G k s' (fr y) (h y)/\μ y< μ x) Q) ⟨eJ (fr x),h x⟩):cG P G n k (.loop c) Q s:=fun E a i=>by
 obtain ⟨E₀,e1,e2,e3⟩:=i.weak w₀
 rw [<- e1]
 refine wpIn_mono (Q:=fun e a' w'=>∃ s' E',w'=E'.w/\ExtK k E₀ E'/\Sim G n s' E' a'/\Q e s') ?_ ?_
 .refine wpIn_loop_ghost (fun m a' w'=>∃ x E',μ x=m/\w'=E'.w/\ExtK k E₀ E'/\Sim G n ⟨eJ (fr x),h x⟩ E' a') (μ x₀) ⟨x₀,E₀,rfl,rfl,(Ext.refl _).toK k,e3⟩ ?_
  rintro m a' w' ⟨x,E',rfl,rfl,hx,hs⟩
  refine wpIn_mono (round x E' a' hs) ?_
  rintro e a'' w'' ⟨s',E'',rfl,h2,h3,h4⟩
  cases e with
  |normal=>
   obtain ⟨y,hy,hlt⟩:=h4
   obtain ⟨E3,f1,f2,f3⟩:=h3.weak hy
   exact ⟨μ y,hlt,y,E3,rfl,f1.symm,(hx.trans h2).trans f2,f3⟩
  |exit id=>exact ⟨s',E'',rfl,hx.trans h2,h3,h4⟩
  |goto l=>exact ⟨s',E'',rfl,hx.trans h2,h3,h4⟩
  |ret=>exact ⟨s',E'',rfl,hx.trans h2,h3,h4⟩
  |panic ch=>exact ⟨s',E'',rfl,hx.trans h2,h3,h4⟩
  |outgrown=>exact ⟨s',E'',rfl,hx.trans h2,h3,h4⟩
 .rintro e a' w' ⟨s',E',rfl,h2,h3,h4⟩
  exact ⟨s',E',rfl,e2.trans h2,h3,h4⟩
end
end Go.AM
namespace Go.AM
mutual
def wk:AV->AV
 | .undef=>.undef
 | .bool b=>.bool b
 | .int k n=>.int k n
 | .str s=>.str s
 | .agg cs=>.agg (wkL cs)
 | .tup cs=>.tup (wkL cs)
 | .sl _ es=>.sl false (QA es)
 | .osl r ver off n sz full=>.osl r ver off n sz full
 | .rsl r ver off n sz=>.rsl r ver off n sz
 | .rsv r=>.rsv r
 | .ptr r ver off=>.ptr r ver off
 | .imm cs=>.imm (wkL cs)
 | .nilptr=>.nilptr
 | .mp ks vs=>.mp ks (wkL vs)
 | .omp r=>.omp r
 | .yld r=>.yld r
 | .fn f a b=>.fn f (wkL a) (wkL b)
 | .nilfn=>.nilfn
 | .iface t v=>.iface t (wk v)
 | .niliface=>.niliface
 | .anyb=>.anyb
def wkL:List AV->List AV
 | []=>[]
 |c::cs=>wk c::wkL cs
def QA:List (List AV)->List (List AV)
 | []=>[]
 |e::es=>wkL e::QA es
end
theorem S0:∀ (l:List AV),wkL l=l.map wk
 | []=>rfl
 |c::cs=>by simp only [wkL,ay,S0 cs]
theorem gS:∀ (l:List (List AV)),QA l=l.map wkL
 | []=>rfl
 |c::cs=>by simp only [QA,ay,gS cs]
mutual
theorem Rel.wk {E:En}:∀ {c:AV} {v:Value},Rel E c v->Rel E (AM.wk c) v
 | .undef,_,h=>by simp [AM.wk,Rel]
 | .bool _,_,h=>by simpa only [AM.wk] using h
 | .int _ _,_,h=>by simpa only [AM.wk] using h
 | .str _,_,h=>by simpa only [AM.wk] using h
 | .agg cs,_,h=>by
  simp only [AM.wk,Rel] at h ⊢
  obtain ⟨vs,h1,h2,h3⟩:=h
  exact ⟨vs,h1,RelL.wk h2,h3⟩
 | .tup cs,_,h=>by
  simp only [AM.wk,Rel] at h ⊢
  obtain ⟨vs,h1,h2⟩:=h
  exact ⟨vs,h1,RelL.wk h2⟩
 | .sl full es,_,h=>by
  simp only [AM.wk,Rel] at h ⊢
  obtain ⟨q,cap,h1,h2,h3,h4,h5,b,off,sz,h6,h7⟩:=h
  have hl:(QA es).length=es.length:=by rw [gS];simp
  refine ⟨q,cap,by rw [hl];exact h1,by rw [hl];exact h2,h3,by simp,h5,b,off,sz,h6.imp (fun e=>by rw [e];rfl) id,RelE.wk h7⟩
 | .osl _ _ _ _ _ _,_,h=>by simpa only [AM.wk] using h
 | .rsl _ _ _ _ _,_,h=>by simpa only [AM.wk] using h
 | .rsv _,_,h=>by simpa only [AM.wk] using h
 | .ptr _ _ _,_,h=>by simpa only [AM.wk] using h
 | .imm cs,_,h=>by
  simp only [AM.wk,Rel] at h ⊢
  obtain ⟨b,off,vs,h1,h2,h3,h4⟩:=h
  exact ⟨b,off,vs,h1,h2,RelL.wk h3,h4⟩
 | .nilptr,_,h=>by simpa only [AM.wk] using h
 | .mp ks vs,_,h=>by
  simp only [AM.wk,Rel] at h ⊢
  rcases h with ⟨h1,h2,h3⟩|⟨b,es,clock,h1,h2,h3,h4,el,h7,h5,h6⟩
  .exact .inl ⟨h1,by rw [h2];rfl,h3⟩
  .exact .inr ⟨b,es,clock,h1,h2,h3,h4,el,h7,h5,RelL.wk h6⟩
 | .omp _,_,h=>by simpa only [AM.wk] using h
 | .yld _,_,h=>by simpa only [AM.wk] using h
 | .fn f a b,_,h=>by
  simp only [AM.wk,Rel] at h ⊢
  obtain ⟨x,y,h1,h2,h3⟩:=h
  exact ⟨x,y,h1,RelL.wk h2,RelL.wk h3⟩
 | .nilfn,_,h=>by simpa only [AM.wk] using h
 | .iface t x,_,h=>by
  simp only [AM.wk,Rel] at h ⊢
  obtain ⟨u,h1,h2⟩:=h
  exact ⟨u,h1,Rel.wk h2⟩
 | .niliface,_,h=>by simpa only [AM.wk] using h
 | .anyb,_,h=>by simpa only [AM.wk] using h
theorem RelL.wk {E:En}:∀ {cs:List AV} {vs:List Value},RelL E cs vs->RelL E (wkL cs) vs
 | [],_,h=>by simpa only [wkL] using h
 |c::cs,_,h=>by
  simp only [wkL,RelL] at h ⊢
  obtain ⟨v,rest,h1,h2,h3⟩:=h
  exact ⟨v,rest,h1,Rel.wk h2,RelL.wk h3⟩
theorem RelE.wk {E:En} {b:Nat}:∀ {es:List (List AV)} {off sz:Nat},RelE E es b off sz->RelE E (QA es) b off sz
 | [],_,_,_=>by simp [QA,RelE]
 |e::es,off,sz,h=>by
  simp only [QA,RelE] at h ⊢
  obtain ⟨⟨h1,vs,h2,h3⟩,h4⟩:=h
  exact ⟨⟨by rw [S0];simpa using h1,vs,RelL.wk h2,h3⟩,RelE.wk h4⟩
end
mutual
theorem uS {p:Nat->Bool}:∀ (c:AV),aI p (wk c)=aI p c
 | .undef=>by simp [wk]
 | .bool _=>by simp [wk]
 | .int _ _=>by simp [wk]
 | .str _=>by simp [wk]
 | .agg cs=>by simp only [wk,aI,pI cs]
 | .tup cs=>by simp only [wk,aI,pI cs]
 | .sl _ es=>by simp only [wk,aI,US es]
 | .osl _ _ _ _ _ _=>by simp [wk]
 | .rsl _ _ _ _ _=>by simp [wk]
 | .rsv _=>by simp [wk]
 | .ptr _ _ _=>by simp [wk]
 | .imm cs=>by simp only [wk,aI,pI cs]
 | .nilptr=>by simp [wk]
 | .mp ks vs=>by simp only [wk,aI,pI vs]
 | .omp _=>by simp [wk]
 | .yld _=>by simp [wk]
 | .fn f a b=>by simp only [wk,aI,pI a,pI b]
 | .nilfn=>by simp [wk]
 | .iface t v=>by simp only [wk,aI,uS v]
 | .niliface=>by simp [wk]
 | .anyb=>by simp [wk]
theorem pI {p:Nat->Bool}:∀ (cs:List AV),aP p (wkL cs)=aP p cs
 | []=>by simp [wkL]
 |c::cs=>by simp only [wkL,aP,uS c,pI cs]
theorem US {p:Nat->Bool}:∀ (es:List (List AV)),cQ p (QA es)=cQ p es
 | []=>by simp [QA]
 |e::es=>by simp only [QA,cQ,pI e,US es]
end
end Go.AM
namespace Go.AM
def kC (P:Program) (s:AS):ResultVar->Option AV
 | .tmp t=>some (s.get t)
 | .cell a t=>iC P t (s.get a) s.row
def fF (P:Program) (s:AS):List ResultVar->Option (List AV)
 | []=>some []
 |r::rs=>match kC P s r,fF P s rs with
  |some v,some vs=>some (v::vs)
  |_,_=>none
def dF (P:Program) (fn:Func) (s:AS):Option AV:=
 match fF P s fn.results.toList with
 |some [v]=>some v
 |some vs=>some (.tup vs)
 |none=>none
def FI (tmps:Array Value):ResultVar->Sem Value
 | .tmp t=>pure (tmps.getD t undef)
 | .cell b t=>do loadVar t (<- asAddr (tmps.getD b undef))
theorem yE [i6] {P:Program} {G:Nat->Option (List AV)} {n:Nat} {s:AS} {E:En} {a:Act} (i:Sim G n s E a):∀ (rs:List ResultVar) (vs:List AV),fF P s rs=some vs->
  ∃ us,(rs.mapM (FI a.tmps)).run P E.w=.ok us E.w/\RelL E vs us
 | [],vs,h=>by
  simp only [fF,ao] at h
  subst h
  exact ⟨[],by simp,by simp [RelL]⟩
 | r :: rs, vs, h => by
  simp only [fF] at h
  split at h
  .rename_i v vs' hv hvs
   injection h with h
   subst h
   obtain ⟨us,h1,h2⟩:=yE i rs vs' hvs
   have key:∃ y,(FI a.tmps r).run P E.w=.ok y E.w/\Rel E v y:=by
    cases r with
    |tmp t=>
     simp only [kC,ao] at hv
     subst hv
     exact ⟨_,rfl,i.tm t⟩
    |cell b t=>
     simp only [kC] at hv
     rw [<- i.rows] at hv
     obtain ⟨ad,y,h3,h4,h5⟩:=LD (P:=P) i.inv hv (i.tm b)
     refine ⟨y,?_,h5⟩
     simp only [FI,h3,asAddr,Sem.run_bind,Sem.run_pure,Result.andThen_ok,h4]
   obtain ⟨y,k1,k2⟩:=key
   refine ⟨y::us,?_,by simp only [RelL];exact ⟨_,_,rfl,k2,h2⟩⟩
   simp only [List.mapM_cons,Sem.run_bind,k1,Result.andThen_ok,h1,Sem.run_pure]
  .cases h
theorem kX [i6] {P:Program} {G:Nat->Option (List AV)} {n:Nat} {s:AS} {E:En} {a:Act} {fn:Func} {v:AV} (i:Sim G n s E a) (h:dF P fn s=some v):∃ u,(results fn a.tmps).run P E.w=.ok u E.w/\Rel E v u:=by
 unfold dF at h
 have run:∀ vs,fF P s fn.results.toList=some vs->∃ us,(results fn a.tmps).run P E.w=.ok (if h:us.toArray.size=1 then us.toArray[0] else .tuple us.toArray) E.w/\RelL E vs us:=by
  intro vs hvs
  obtain ⟨us,h1,h2⟩:=yE (P:=P) i _ _ hvs
  refine ⟨us,?_,h2⟩
  have e:results fn a.tmps=(fn.results.mapM (FI a.tmps) >>= fun vs=>pure (if h:vs.size=1 then vs[0] else .tuple vs)):=rfl
  rw [e,Array.mapM_eq_mapM_toList]
  simp only [Sem.run_bind,Sem.run_map,h1,Result.andThen_ok,Sem.run_pure]
 split at h
 .rename_i v' hvs
  injection h with h
  subst h
  obtain ⟨us,h1,h2⟩:=run _ hvs
  simp only [RelL] at h2
  obtain ⟨u,rest,rfl,h3,rfl⟩:=h2
  exact ⟨u,by simpa using h1,h3⟩
 .rename_i vs hne hvs
  injection h with h
  subst h
  obtain ⟨us,h1,h2⟩:=run _ hvs
  have hl:us.length≠1:=by
   intro e
   have:=h2.length
   rw [e] at this
   match vs,this,hne,hvs with
   | [v],_,hne,hvs=>exact hne v rfl
  exact ⟨.tuple us.toArray,by simpa [hl] using h1,by simp only [Rel];exact ⟨us,rfl,h2⟩⟩
 .cases h
def eR (P:Program) (fn:Func) (R:AV->AS->Prop):Exit->AS->Prop
 | .normal,s=>∃ v,dF P fn s=some v/\R v s
 | .ret,s=>∃ v,dF P fn s=some v/\R v s
 |_,_=>False
def aK:Nat->List AV->List (Nat × AV)
 |_,[]=>[]
 |k,x::xs=>(k,x)::aK (k+1) xs
theorem jB:∀ (xs:List AV) (k t:Nat),(eJ (aK k xs)).getD t .undef=if k<=t then xs.getD (t - k) .undef else .undef
 | [],k,t=>by simp [aK,eJ]
 |x::xs,k,t=>by
  simp only [aK]
  rw [iA,jB xs (k+1) t]
  by_cases h:t=k
  .subst h;simp
  .rw [if_neg h]
   by_cases h1:k+1<=t
   .rw [if_pos h1,if_pos (by omega),show t - k=t - (k+1)+1 by omega]
    simp
   .rw [if_neg h1,if_neg (by omega)]
theorem gW:∀ (l:List (Nat × ARow)) (rows:Nat->ARow) (r:Nat),(∀ p∈l,p.1≠r)->upd rows l r=rows r
 | [],_,_,_=>rfl
 |p::l,rows,r,h=>by
  simp only [upd]
  rw [gW l _ r fun q hq=>h q (by simp [hq])]
  rw [if_neg fun e=>h p (by simp) e.symm]
theorem dA:∀ (l:List (Nat × ARow)) (rows rows':Nat->ARow) (r:Nat),rows r=rows' r->upd rows l r=upd rows' l r
 | [],_,_,_,h=>h
 |p::l,rows,rows',r,h=>by
  simp only [upd]
  refine dA l _ _ r ?_
  by_cases e:r=p.1
  .simp [e]
  .simp [e,h]
mutual
theorem gE {p q:Nat->Bool} (h:∀ r,p r=true->q r=true):∀ {c:AV},aI p c=true->aI q c=true
 | .undef,_=>by simp [aI]
 | .bool _,_=>by simp [aI]
 | .int _ _,_=>by simp [aI]
 | .str _,_=>by simp [aI]
 | .agg cs,hi=>by simp only [aI] at hi ⊢;exact b7 h hi
 | .tup cs,hi=>by simp only [aI] at hi ⊢;exact b7 h hi
 | .sl f es,hi=>by simp only [aI] at hi ⊢;exact eN h hi
 | .osl r _ _ _ _ _,hi=>by simp only [aI] at hi ⊢;exact h _ hi
 | .rsl r _ _ _ _,hi=>by simp only [aI] at hi ⊢;exact h _ hi
 | .rsv _,_=>by simp [aI]
 | .ptr r _ _,hi=>by simp only [aI] at hi ⊢;exact h _ hi
 | .imm cs,hi=>by simp only [aI] at hi ⊢;exact b7 h hi
 | .nilptr,_=>by simp [aI]
 | .mp ks vs,hi=>by simp only [aI,ae] at hi ⊢;exact ⟨b7 h hi.1,b7 h hi.2⟩
 | .omp r,hi=>by simp only [aI] at hi ⊢;exact h _ hi
 | .yld r,hi=>by simp only [aI] at hi ⊢;exact h _ hi
 | .fn f a b,hi=>by simp only [aI,ae] at hi ⊢;exact ⟨b7 h hi.1,b7 h hi.2⟩
 | .nilfn,_=>by simp [aI]
 | .iface t v,hi=>by simp only [aI] at hi ⊢;exact gE h hi
 | .niliface,_=>by simp [aI]
 | .anyb,_=>by simp [aI]
theorem b7 {p q:Nat->Bool} (h:∀ r,p r=true->q r=true):∀ {cs:List AV},aP p cs=true->aP q cs=true
 | [],_=>by simp [aP]
 |c::cs,hi=>by simp only [aP,ae] at hi ⊢;exact ⟨gE h hi.1,b7 h hi.2⟩
theorem eN {p q:Nat->Bool} (h:∀ r,p r=true->q r=true):∀ {es:List (List AV)},cQ p es=true->cQ q es=true
 | [],_=>by simp [cQ]
 |e::es,hi=>by simp only [cQ,ae] at hi ⊢;exact ⟨b7 h hi.1,eN h hi.2⟩
end
def aE:Nat->Bool:=fun _=>false
theorem bT {P:Program} {G:Nat->Option (List AV)} {f:FuncId} {fn:Func} {c:Code} {args:List AV} {rows:Nat->ARow} {fp:List Nat} {eff:eL} (H:List ARow)
  (hG:∀ g cs,G g=some cs->aP aE cs=true) (hf:P.funcs[f]? =some fn) (hb:fn.body=some c) (hgo:fR P f=true) (hn:args.length<=fn.ntmps)
  (hfp:∀ r∈fp,H.getD r .none=rows r) (hdead:∀ r,r ∉ fp->H.getD r .none=if r<H.length then .dead else .none)
  (hargs:aP (fun r=>decide (r<H.length)) args=true) (hrows:∀ r∈fp,aG (fun r=>decide (r<H.length)) (rows r)=true) (hnew:∀ r∈fp,H.length<=r->rows r=.none) (hwr:∀ p∈eff.wr,p.1∈fp)
  (hbody:cG P G fn.ntmps H.length c (eR P fn fun v s=>(v=eff.val\/wk v=eff.val)/\aI (fun r=>fp.contains r) v=true/\∀ r∈fp,s.row r=upd rows eff.wr r/\aG (fun r=>fp.contains r) (s.row r)=true) ⟨eJ (aK 0 args),H⟩):
  c8 P G f args rows fp eff:=by
 refine ⟨hgo,hwr,fun E us i hE hus=>?_⟩
 let Ec:En:=⟨E.w,E.S,E.ρ,fun r=>H.getD r .none⟩
 have hrowfp:∀ r∈fp,Ec.rows r=E.rows r:=fun r hr=>by simp only [Ec];rw [hfp r hr,hE r hr]
 have hrowno:∀ r,r ∉ fp->Ec.rows r=if r<H.length then .dead else .none:=fun r hr=>hdead r hr
 have hcl:∀ r,(Ec.rows r).live=true->r∈fp/\(E.rows r).live=true:=fun r hr=>by
  by_cases hm:r∈fp
  .exact ⟨hm,by rw [<- hrowfp r hm];exact hr⟩
  .rw [hrowno r hm] at hr;split at hr<;>cases hr
 have agc:eY (fun r=>decide (r<H.length)) E Ec:=⟨rfl,fun _ h=>h,fun r hr=>by
   by_cases hm:r∈fp
   .exact .inl (hrowfp r hm)
   .exact .inr (.inl (by rw [hrowno r hm,if_pos (by simpa using hr)])),fun r _ _=>rfl⟩
 have agG:eY aE E Ec:=⟨rfl,fun _ h=>h,fun r hr=>(by cases hr),fun r hr=>(by cases hr)⟩
 have ic:Inv G Ec:=by
  refine ⟨fun r=>?_,fun r r' h h' hne=>i.inj r r' (hcl r h).2 (hcl r' h').2 hne,i.sb,fun g cs hg=>?_⟩
  .by_cases hm:r∈fp
   .have h0:=i.row r
    unfold RowOK at h0 ⊢
    rw [hrowfp r hm]
    have hin:=hrows r hm
    rw [<- hE r hm] at hin
    cases hrr:E.rows r with
    |none=>trivial
    |dead=>trivial
    |cells ver cs=>
     rw [hrr] at h0 hin
     obtain ⟨cur,e,vs,a1,a2,a3,a4⟩:=h0
     exact ⟨cur,e,vs,a1,a2,a3.agree agc hin,a4⟩
    |map ks vs=>
     rw [hrr] at h0 hin
     simp only [aG,ae] at hin
     obtain ⟨es,clock,a1,a2,a3,a4,a5⟩:=h0
     exact ⟨es,clock,a1,a2,a3,a4.agree agc hin.1,a5.agree agc hin.2⟩
    |iter ks vs l j=>
     rw [hrr] at h0 hin
     simp only [aG,ae] at hin
     obtain ⟨mb,es,clock,since,seen,a1,a2,a3,a4,a5,a6,a7,a8,a9⟩:=h0
     exact ⟨mb,es,clock,since,seen,a1,a2,a3,a4,a5,a6,a7.agree agc hin.1,a8.agree agc hin.2,a9⟩
    |loop st pend fr ps asg body=>
     rw [hrr] at h0 hin
     obtain ⟨fn,tm,D,a1,a2,a3⟩:=h0
     exact ⟨fn,tm,D,a1,a2,a3.agree agc hin⟩
   .unfold RowOK
    rw [hrowno r hm]
    by_cases hlt:r<H.length
    .rw [if_pos hlt];trivial
    .rw [if_neg hlt];trivial
  .obtain ⟨vs,a1,a2,a3⟩:=i.glob g cs hg
   exact ⟨vs,a1,a2.agree agG (hG g cs hg),a3⟩
 have hlen:=hus.length
 have sim:Sim G fn.ntmps ⟨eJ (aK 0 args),H⟩ Ec { tmps:=us.toArray++Array.replicate (fn.ntmps - us.toArray.size) undef,defers:=[] }:=by
  refine ⟨ic,rfl,by simp;omega,fun t=>?_,DefOK.nil⟩
  show Rel Ec ((eJ (aK 0 args)).getD t .undef) _
  rw [jB]
  simp only [az,if_true,dm]
  rw [bc]
  cases hx:args[t]? with
  |none=>simp [Rel]
  |some x=>
   obtain ⟨v,h1,h2⟩:=hus.get hx
   have hlt:=(aq.1 h1).1
   have:(us.toArray++Array.replicate (fn.ntmps - us.toArray.size) undef).getD t undef=v:=by
    rw [dt,jp,if_pos (by simpa using hlt)]
    simp only [ii,h1,eu]
   rw [this]
   have hin:aI (fun r=>decide (r<H.length)) x=true:=by
    have:=lT hargs t
    rw [bc,hx] at this
    simpa using this
   exact h2.agree agc hin
 refine calls_of_wp hf hb (wpIn_wide.1 (wpIn_mono (hbody Ec _ sim) ?_))
 rintro e a' w' ⟨s',Ec',rfl,xk,sim',q⟩
 have fin : ∀ v, dF P fn s' = some v -> ((v = eff.val \/ wk v = eff.val) /\ aI (fun r => fp.contains r) v = true /\ ∀ r ∈ fp, s'.row r = upd rows eff.wr r /\ aG (fun r => fp.contains r) (s'.row r) = true) ->
   ∃ u,(results fn a'.tmps).run P Ec'.w=.ok u Ec'.w/\∃ v E',Ending.returned u=.returned v/\Ec'.w=E'.w/\Rel E' eff.val v/\Ext E E'/\Inv G E'/\E'.rows=upd E.rows eff.wr:=by
  rintro v hv ⟨hval,hin,hend⟩
  obtain ⟨u,hu,ru⟩:=kX (P:=P) sim' hv
  replace ru:Rel Ec' eff.val u:=by
   rcases hval with rfl|e
   .exact ru
   .rw [<- e];exact ru.wk
  replace hin:aI (fun r=>fp.contains r) eff.val=true:=by
   rcases hval with rfl|e
   .exact hin
   .rw [<- e,uS];exact hin
  refine ⟨u,hu,u,⟨Ec'.w,Ec'.S,fun r=>if fp.contains r then Ec'.ρ r else E.ρ r,upd E.rows eff.wr⟩,rfl,rfl,?_⟩
  have hw1:∀ r∈fp,upd E.rows eff.wr r=Ec'.rows r:=fun r hr=>by
   rw [dA eff.wr E.rows rows r (hE r hr),<- (hend r hr).1,sim'.rows]
  have hw2:∀ r,r ∉ fp->upd E.rows eff.wr r=E.rows r:=fun r hr=>gW _ _ _ fun p hp e=>hr (e ▸ hwr p hp)
  have hmem:∀ r,fp.contains r=true↔r∈fp:=fun r=>by simp
  have hblk:∀ r,r ∉ fp->(E.rows r).live=true->Ec'.w.heap[E.ρ r]? =E.w.heap[E.ρ r]?/\(Ec'.S (E.ρ r)->E.S (E.ρ r)):=fun r hr hl=>by
   refine xk.out (E.ρ r) (i.live hl).1 fun q hq e=>?_
   obtain ⟨hq1,hq2⟩:=hcl q hq
   exact i.inj q r hq2 hl (fun e=>hr (e ▸ hq1)) e
  have x:Ext E ⟨Ec'.w,Ec'.S,fun r=>if fp.contains r then Ec'.ρ r else E.ρ r,upd E.rows eff.wr⟩:=by
   refine ⟨xk.os,xk.tape,xk.output,xk.sz,xk.sub,fun b hlt hl=>xk.out b hlt fun r hr=>hl r (hcl r hr).2,fun r hr=>?_,fun r ver cs hr=>?_,fun r hr=>?_,fun r hr=>?_⟩
   .by_cases hm:r∈fp
    .simp only [hw1 r hm]
     have hlt:r<H.length:=Nat.lt_of_not_le fun h=>by have:=hnew r hm h;rw [<- hE r hm,hr] at this;cases this
     exact xk.dead r hlt (by rw [hrowfp r hm];exact hr)
    .simp only [hw2 r hm];exact hr
   .by_cases hm:r∈fp
    .simp only [hw1 r hm,(hmem r).2 hm,if_true]
     have hlt:r<H.length:=Nat.lt_of_not_le fun h=>by have:=hnew r hm h;rw [<- hE r hm,hr] at this;cases this
     exact xk.cells r hlt ver cs (by rw [hrowfp r hm];exact hr)
    .have hc:fp.contains r=false:=by simpa using hm
     simp only [hw2 r hm,hc,aw,if_false]
     refine .inr ⟨ver,cs,hr,ap _,fun _=>⟨trivial,fun cur e fz hcur=>⟨cur,e,?_,rfl⟩⟩⟩
     rw [(hblk r hm (by rw [hr];rfl)).1]
     exact hcur
   .by_cases hm:r∈fp
    .simp only [hw1 r hm,(hmem r).2 hm,if_true]
     have hlt:r<H.length:=Nat.lt_of_not_le fun h=>by have:=hnew r hm h;rw [<- hE r hm] at this;rw [this] at hr;cases hr
     exact xk.map r hlt (by rw [hrowfp r hm];exact hr)
    .have hc:fp.contains r=false:=by simpa using hm
     simp only [hw2 r hm,hc,aw,if_false]
     exact .inr ⟨hr,trivial⟩
   .by_cases hm:r∈fp
    .simp only [hw1 r hm] at hr
     simp only [(hmem r).2 hm,if_true]
     rcases xk.fresh r hr with ⟨h1,h2⟩|h1
     .exact .inl ⟨(hcl r h1).2,h2⟩
     .exact .inr h1
    .have hc:fp.contains r=false:=by simpa using hm
     simp only [hw2 r hm] at hr
     simp only [hc,aw,if_false]
     exact .inl ⟨hr,trivial⟩
  have agf:eY (fun r=>fp.contains r) Ec' ⟨Ec'.w,Ec'.S,fun r=>if fp.contains r then Ec'.ρ r else E.ρ r,upd E.rows eff.wr⟩:=
   ⟨rfl,fun _ h=>h,fun r hr=>.inl (hw1 r ((hmem r).1 hr)),fun r hr _=>by simp only [hr,if_true]⟩
  refine ⟨ru.agree agf hin,x,⟨fun r=>?_,fun r r' h h' hne=>?_,sim'.inv.sb,fun g cs hg=>?_⟩,rfl⟩
  .by_cases hm:r∈fp
   .have h0:=sim'.inv.row r
    unfold RowOK at h0 ⊢
    have hri:=(hend r hm).2
    rw [<- sim'.rows] at hri
    simp only [hw1 r hm,(hmem r).2 hm,if_true]
    cases hrr:Ec'.rows r with
    |none=>trivial
    |dead=>trivial
    |cells ver cs=>
     rw [hrr] at h0 hri
     obtain ⟨cur,e,vs,a1,a2,a3,a4⟩:=h0
     exact ⟨cur,e,vs,a1,a2,a3.agree agf hri,a4⟩
    |map ks vs=>
     rw [hrr] at h0 hri
     simp only [aG,ae] at hri
     obtain ⟨es,clock,a1,a2,a3,a4,a5⟩:=h0
     exact ⟨es,clock,a1,a2,a3,a4.agree agf hri.1,a5.agree agf hri.2⟩
    |iter ks vs l j=>
     rw [hrr] at h0 hri
     simp only [aG,ae] at hri
     obtain ⟨mb,es,clock,since,seen,a1,a2,a3,a4,a5,a6,a7,a8,a9⟩:=h0
     exact ⟨mb,es,clock,since,seen,a1,a2,a3,a4,a5,a6,a7.agree agf hri.1,a8.agree agf hri.2,a9⟩
    |loop st pend fr ps asg body=>
     rw [hrr] at h0 hri
     obtain ⟨fn,tm,D,a1,a2,a3⟩:=h0
     exact ⟨fn,tm,D,a1,a2,a3.agree agf hri⟩
   .have hc:fp.contains r=false:=by simpa using hm
    cases hl:(E.rows r).live with
    |false=>
     unfold RowOK
     simp only [hw2 r hm]
     cases hq:E.rows r with
     |cells=>rw [hq] at hl;cases hl
     |map=>rw [hq] at hl;cases hl
     |iter=>rw [hq] at hl;cases hl
     |loop=>rw [hq] at hl;cases hl
     |none=>trivial
     |dead=>trivial
    |true=>
     have hbk:=hblk r hm hl
     exact RowOK.ext i x (by simp only [hc,aw,if_false]) (hw2 r hm) (fun _=>hbk.1) hbk.2 (i.row r)
  .by_cases hm:r∈fp
   .have hc:=(hmem r).2 hm
    simp only [hw1 r hm] at h
    by_cases hm':r'∈fp
    .have hc':=(hmem r').2 hm'
     simp only [hw1 r' hm'] at h'
     simp only [hc,hc',if_true]
     exact sim'.inv.inj r r' h h' hne
    .have hc':fp.contains r'=false:=by simpa using hm'
     simp only [hw2 r' hm'] at h'
     simp only [hc,hc',if_true,aw,if_false]
     rcases xk.fresh r h with ⟨h1,h2⟩|h1
     .rw [h2];exact i.inj r r' (hcl r h1).2 h' hne
     .have:=(i.live h').1
      have h1':E.w.heap.size<=Ec'.ρ r:=h1
      omega
   .have hc:fp.contains r=false:=by simpa using hm
    simp only [hw2 r hm] at h
    by_cases hm':r'∈fp
    .have hc':=(hmem r').2 hm'
     simp only [hw1 r' hm'] at h'
     simp only [hc,hc',if_true,aw,if_false]
     rcases xk.fresh r' h' with ⟨h1,h2⟩|h1
     .rw [h2];exact i.inj r r' h (hcl r' h1).2 hne
     .have:=(i.live h).1
      have h1':E.w.heap.size<=Ec'.ρ r':=h1
      omega
    .have hc':fp.contains r'=false:=by simpa using hm'
     simp only [hw2 r' hm'] at h'
     simp only [hc,hc',aw,if_false]
     exact i.inj r r' h h' hne
  .obtain ⟨vs,a1,a2,a3⟩:=sim'.inv.glob g cs hg
   exact ⟨vs,a1,a2.agree agf (b7 (fun r hr=>by cases hr) (hG g cs hg)),a3⟩
 cases e with
 |normal=>
  obtain ⟨v,h1,h2⟩:=q
  obtain ⟨u,h3,h4⟩:=fin v h1 h2
  exact ⟨sim'.df,u,h3,h4⟩
 |ret=>
  obtain ⟨v,h1,h2⟩:=q
  obtain ⟨u,h3,h4⟩:=fin v h1 h2
  exact ⟨sim'.df,u,h3,h4⟩
 |exit id=>exact q.elim
 |goto l=>exact q.elim
 |panic ch=>exact q.elim
 |outgrown=>exact q.elim
end Go.AM
namespace Go.AM
def Pure (P:Program) (G:Nat->Option (List AV)) (f:FuncId) (args:List AV) (res:AV):Prop:=
 aI aE res=true/\∀ rows,c8 P G f args rows [] ⟨res,[]⟩
theorem aL {P:Program} {G:Nat->Option (List AV)} {f:FuncId} {fn:Func} {c:Code} {args:List AV} {res:AV}
  (hG:∀ g cs,G g=some cs->aP aE cs=true) (hf:P.funcs[f]? =some fn) (hb:fn.body=some c) (hgo:fR P f=true) (hn:args.length<=fn.ntmps)
  (hargs:aP aE args=true) (hres:aI aE res=true)
  (hbody:cG P G fn.ntmps 0 c (eR P fn fun v _=>v=res) ⟨eJ (aK 0 args),[]⟩):Pure P G f args res:=by
 refine ⟨hres,fun rows=>?_⟩
 refine bT [] hG hf hb hgo hn (by simp) (by simp) (b7 (fun r hr=>by cases hr) hargs) (by simp) (by simp) (by simp) ?_
 refine jR hbody fun e s q=>?_
 have key:∀ v,v=res->(v=(eL.mk res []).val\/wk v=(eL.mk res []).val)/\aI (fun r=>([]:List Nat).contains r) v=true/\∀ r∈([]:List Nat),s.row r=upd rows (eL.mk res []).wr r/\aG (fun r=>([]:List Nat).contains r) (s.row r)=true:=by
  rintro v rfl
  exact ⟨.inl rfl,gE (fun r hr=>by cases hr) hres,by simp⟩
 cases e with
 |normal=>obtain ⟨v,h1,h2⟩:=q;exact ⟨v,h1,key v h2⟩
 |ret=>obtain ⟨v,h1,h2⟩:=q;exact ⟨v,h1,key v h2⟩
 |exit id=>exact q.elim
 |goto l=>exact q.elim
 |panic ch=>exact q.elim
 |outgrown=>exact q.elim
theorem bH {P:Program} {G:Nat->Option (List AV)} {f:FuncId} {fn:Func} {c:Code} {args:List AV} {res:AV}
  (hG:∀ g cs,G g=some cs->aP aE cs=true) (hf:P.funcs[f]? =some fn) (hb:fn.body=some c) (hgo:fR P f=true) (hn:args.length<=fn.ntmps)
  (hargs:aP aE args=true) (hres:aI aE res=true)
  (hbody:cG P G fn.ntmps 0 c (eR P fn fun v _=>wk v=res) ⟨eJ (aK 0 args),[]⟩):Pure P G f args res:=by
 refine ⟨hres,fun rows=>?_⟩
 refine bT [] hG hf hb hgo hn (by simp) (by simp) (b7 (fun r hr=>by cases hr) hargs) (by simp) (by simp) (by simp) ?_
 refine jR hbody fun e s q=>?_
 have key:∀ v,wk v=res->(v=(eL.mk res []).val\/wk v=(eL.mk res []).val)/\aI (fun r=>([]:List Nat).contains r) v=true/\∀ r∈([]:List Nat),s.row r=upd rows (eL.mk res []).wr r/\aG (fun r=>([]:List Nat).contains r) (s.row r)=true:=by
  rintro v rfl
  have h0:aI aE v=true:=by rw [<- uS];exact hres
  exact ⟨.inr rfl,gE (p:=aE) (fun r hr=>by cases hr) h0,by simp⟩
 cases e with
 |normal=>obtain ⟨v,h1,h2⟩:=q;exact ⟨v,h1,key v h2⟩
 |ret=>obtain ⟨v,h1,h2⟩:=q;exact ⟨v,h1,key v h2⟩
 |exit id=>exact q.elim
 |goto l=>exact q.elim
 |panic ch=>exact q.elim
 |outgrown=>exact q.elim
mutual
inductive Lend (rows:Nat->ARow) (fp:List Nat):AV->AV->Prop
 |same {v:AV} (h:aI aE v=true):Lend rows fp v v
 |full {b:Bool} {es:List (List AV)} (h:cQ aE es=true):Lend rows fp (.sl b es) (.sl false es)
 |osl {r ver off n sz:Nat} {b:Bool} {cs:List AV} {es:List (List AV)} (hr:r∈fp) (hc:aU rows r ver=some cs) (hn:es.length=n) (hsz:∀ e∈es,e.length=sz)
   (he:(cs.drop off).take (n*sz)=es.flatten) (ht:cQ aE es=true):Lend rows fp (.osl r ver off n sz b) (.sl false es)
 |rsv {r:Nat}:Lend rows fp (.rsv r) (.sl false [])
 |toRsv {r:Nat}:Lend rows fp (.sl true []) (.rsv r)
 |ptr {r ver off:Nat} {cs cs':List AV} (hr:r∈fp) (hc:aU rows r ver=some cs) (hl:LendL rows fp (cs.drop off) cs'):Lend rows fp (.ptr r ver off) (.imm cs')
 |omp {r:Nat} {ks vs:List AV} (hr:r∈fp) (hc:rows r=.map ks vs) (hk:aP aE ks=true) (hv:aP aE vs=true):Lend rows fp (.omp r) (.mp ks vs)
 |fn {f:Fn} {a b a' b':List AV} (ha:LendL rows fp a a') (hb:LendL rows fp b b'):Lend rows fp (.fn f a b) (.fn f a' b')
 |agg {cs cs':List AV} (h:LendL rows fp cs cs'):Lend rows fp (.agg cs) (.agg cs')
 |weak {a b:AV} (h:Lend rows fp a b):Lend rows fp a (wk b)
 |sle {b:Bool} {es es':List (List AV)} (h:LendE rows fp es es'):Lend rows fp (.sl b es) (.sl b es')
inductive LendL (rows:Nat->ARow) (fp:List Nat):List AV->List AV->Prop
 |nil:LendL rows fp [] []
 |cons {c c':AV} {cs cs':List AV} (h:Lend rows fp c c') (hs:LendL rows fp cs cs'):LendL rows fp (c::cs) (c'::cs')
inductive LendE (rows:Nat->ARow) (fp:List Nat):List (List AV)->List (List AV)->Prop
 |nil:LendE rows fp [] []
 |cons {e e':List AV} {es es':List (List AV)} (h:LendL rows fp e e') (hs:LendE rows fp es es'):LendE rows fp (e::es) (e'::es')
end
theorem LendL.len {rows:Nat->ARow} {fp:List Nat}:∀ {a b:List AV},LendL rows fp a b->b.length=a.length
 |_,_,.nil=>rfl
 |_,_,.cons _ hs=>by rw [af,af,LendL.len hs]
theorem LendE.len {rows:Nat->ARow} {fp:List Nat}:∀ {a b:List (List AV)},LendE rows fp a b->b.length=a.length
 |_,_,.nil=>rfl
 |_,_,.cons _ hs=>by rw [af,af,LendE.len hs]
theorem j2 {E:En} {b sz:Nat}:∀ {es:List (List AV)} {off:Nat} {vs:List Value},RelL E es.flatten vs->CellsAt E.w b off vs->(∀ e∈es,e.length=sz)->RelE E es b off sz
 | [],_,_,_,_,_=>by simp [RelE]
 |e::es,off,vs,r,c,h=>by
  simp only [cw] at r
  have he:=h e (by simp)
  have r1:=r.take sz
  have r2:=r.drop sz
  rw [<- he,jg] at r1
  rw [<- he,List.drop_left] at r2
  simp only [RelE]
  refine ⟨⟨he,vs.take sz,by rw [<- he];exact r1,c.take sz⟩,?_⟩
  have:=j2 (b:=b) (off:=off+sz) (vs:=vs.drop sz) (by rw [<- he];exact r2) (c.drop sz) fun e' h'=>h e' (by simp [h'])
  exact this
def mF (E:En) (fp:List Nat):En:=⟨E.w,fun b=>E.S b\/∃ r∈fp,(E.rows r).live=true/\b=E.ρ r,E.ρ,fun _=>.none⟩
theorem jE (E:En) (fp:List Nat):eY aE E (mF E fp):=⟨rfl,fun _ h=>.inl h,fun r hr=>(by cases hr),fun r hr=>(by cases hr)⟩
mutual
theorem Lend.rel {G:Nat->Option (List AV)} {E:En} {fp:List Nat} (i:Inv G E) {rows:Nat->ARow} (hE:∀ r∈fp,E.rows r=rows r):∀ {a b:AV} {u:Value},Lend rows fp a b->Rel E a u->Rel (mF E fp) b u
 |_,_,_,.same h,hr=>hr.agree (jE E fp) h
 |_,_,_,.full h,hr=>by
  simp only [Rel] at hr ⊢
  obtain ⟨p,cap,h1,h2,h3,h4,h5,b,off,sz,h6,h7⟩:=hr
  exact ⟨p,cap,h1,h2,h3,by simp,h5,b,off,sz,h6.imp id fun ⟨a,s⟩=>⟨a,.inl s⟩,h7.agree (jE E fp) h⟩
 |_,_,_,.rsv,hr=>by
  simp only [Rel] at hr ⊢
  obtain ⟨p,rfl⟩:=hr
  exact ⟨p,0,rfl,by simp,by simp [maxLen],by simp,by simp,0,0,0,.inl trivial,by simp [RelE]⟩
 |_,_,_,.toRsv,hr=>by
  simp only [Rel] at hr ⊢
  obtain ⟨p,cap,rfl,_,_,h3,_⟩:=hr
  exact ⟨p,by rw [h3 trivial];rfl⟩
 |_,_,_,.osl (r:=r) (ver:=ver) (off:=off) (n:=n) (sz:=sz) (cs:=cs) (es:=es) hm hc hn hsz he ht,hr=>by
  have hrow:E.rows r=rows r:=hE r hm
  have hc':aU E.rows r ver=some cs:=by unfold aU at hc ⊢;rw [hrow];exact hc
  obtain ⟨cap,cur,e,rfl,a1,a2,a3,a4,a5⟩:=kZ hc' hr
  obtain ⟨cur',e',vs,k1,k2,k3,k4,k5⟩:=kV i hc'
  have r1:=(k2.drop off).take (n*sz)
  rw [he] at r1
  have c1:=(k5.drop off).take (n*sz)
  rw [cp] at c1
  have hin:aP aE es.flatten=true:=by
   clear he hsz hn r1
   induction es with
   |nil=>simp [aP]
   |cons x xs ih=>
    simp only [cQ,ae] at ht
    simp only [cw]
    have:=ih ht.2
    have h1:=ht.1
    clear ih ht
    induction x with
    |nil=>simpa using this
    |cons y ys ih2=>
     simp only [aP,ae] at h1
     simp only [ar,aP,ae]
     exact ⟨h1.1,ih2 h1.2⟩
  simp only [Rel]
  refine ⟨some ⟨E.ρ r,off,none⟩,cap,by rw [hn],by omega,a2,by simp,by simp,E.ρ r,off,sz,.inr ⟨rfl,.inr ⟨r,hm,?_,rfl⟩⟩,j2 (r1.agree (jE E fp) hin) c1 hsz⟩
  rw [dN hc'];rfl
 |_,_,_,.ptr (r:=r) (ver:=ver) (off:=off) (cs:=cs) hm hc hl,hr=>by
  have hrow:E.rows r=rows r:=hE r hm
  have hc':aU E.rows r ver=some cs:=by unfold aU at hc ⊢;rw [hrow];exact hc
  have:=rP hc' hr
  subst this
  obtain ⟨cur',e',vs,k1,k2,k3,k4,k5⟩:=kV i hc'
  have c1:=k5.drop off
  rw [cp] at c1
  simp only [Rel]
  refine ⟨E.ρ r,off,vs.drop off,rfl,.inr ⟨r,hm,by rw [dN hc'];rfl,rfl⟩,LendL.rel i hE hl (k2.drop off),c1⟩
 |_,_,_,.omp (r:=r) hm hc hk hv,hr=>by
  have hrow:E.rows r=rows r:=hE r hm
  rw [<- hrow] at hc
  have:=yU hc hr
  subst this
  obtain ⟨es,clock,k1,k2,k3,k4⟩:=zA i hc
  simp only [Rel]
  exact .inr ⟨_,es,clock,rfl,.inr ⟨r,hm,by rw [hc];rfl,rfl⟩,k1,k2,es.toList,List.Perm.refl _,k3.agree (jE E fp) hk,k4.agree (jE E fp) hv⟩
 |_,_,_,.fn ha hb,hr=>by
  simp only [Rel] at hr ⊢
  obtain ⟨x,y,h1,h2,h3⟩:=hr
  exact ⟨x,y,h1,LendL.rel i hE ha h2,LendL.rel i hE hb h3⟩
 |_,_,_,.agg h,hr=>by
  simp only [Rel] at hr ⊢
  obtain ⟨vs,h1,h2,h3⟩:=hr
  exact ⟨vs,h1,LendL.rel i hE h h2,h3⟩
 |_,_,_,.weak h,hr=>(Lend.rel i hE h hr).wk
 |_,_,_,.sle h,hr=>by
  simp only [Rel] at hr ⊢
  obtain ⟨p,cap,h1,h2,h3,h4,h5,b,off,sz,h6,h7⟩:=hr
  have hl:=h.len
  refine ⟨p,cap,by rw [hl];exact h1,by rw [hl];exact h2,h3,by rw [hl];exact h4,h5,b,off,sz,h6.imp (fun e=>?_) fun ⟨a,s⟩=>⟨a,.inl s⟩,LendE.rel i hE h h7⟩
  rw [e] at hl
  exact cu hl
theorem LendL.rel {G:Nat->Option (List AV)} {E:En} {fp:List Nat} (i:Inv G E) {rows:Nat->ARow} (hE:∀ r∈fp,E.rows r=rows r):∀ {a b:List AV} {us:List Value},LendL rows fp a b->RelL E a us->RelL (mF E fp) b us
 |_,_,_,.nil,hr=>by simpa only [RelL] using hr
 |_,_,_,.cons h hs,hr=>by
  simp only [RelL] at hr ⊢
  obtain ⟨v,rest,h1,h2,h3⟩:=hr
  exact ⟨v,rest,h1,Lend.rel i hE h h2,LendL.rel i hE hs h3⟩
theorem LendE.rel {G:Nat->Option (List AV)} {E:En} {fp:List Nat} (i:Inv G E) {rows:Nat->ARow} (hE:∀ r∈fp,E.rows r=rows r):∀ {a b:List (List AV)} {bk off sz:Nat},LendE rows fp a b->RelE E a bk off sz->RelE (mF E fp) b bk off sz
 |_,_,_,_,_,.nil,_=>by simp only [RelE]
 |_,_,_,_,_,.cons h hs,hr=>by
  simp only [RelE] at hr ⊢
  obtain ⟨⟨h1,vs,h2,h3⟩,h4⟩:=hr
  exact ⟨⟨by rw [h.len];exact h1,vs,LendL.rel i hE h h2,h3⟩,LendE.rel i hE hs h4⟩
end
def uM:AV->Bool
 | .bool _| .int _ _| .str _| .undef| .nilptr| .nilfn| .niliface| .anyb=>true
 |_=>false
def tE:AV->Bool
 | .tup vs=>vs.all uM
 | .agg vs=>vs.all uM
 |v=>uM v
theorem yF {E E':En} {v:AV} {u:Value} (h:uM v=true) (r:Rel E v u):Rel E' v u:=by
 cases v<;>first|(simp [uM] at h;done)|(simp only [Rel] at r ⊢;try exact r)
theorem pB {E E':En}:∀ {vs:List AV} {us:List Value},vs.all uM=true->RelL E vs us->RelL E' vs us
 | [],_,_,r=>by simpa only [RelL] using r
 |v::vs,_,h,r=>by
  simp only [bg,ae] at h
  simp only [RelL] at r ⊢
  obtain ⟨u,rest,h1,h2,h3⟩:=r
  exact ⟨u,rest,h1,yF h.1 h2,pB h.2 h3⟩
theorem FK {E E':En} {v:AV} {u:Value} (h:tE v=true) (r:Rel E v u):Rel E' v u:=by
 cases v<;>simp only [tE] at h
 case tup vs=>simp only [Rel] at r ⊢;obtain ⟨us,h1,h2⟩:=r;exact ⟨us,h1,pB h h2⟩
 case agg vs=>simp only [Rel] at r ⊢;obtain ⟨us,h1,h2,h3⟩:=r;exact ⟨us,h1,pB h h2,h3⟩
 all_goals exact yF h r
theorem AT {P:Program} {G:Nat->Option (List AV)} {f:FuncId} {args targs:List AV} {res:AV} {rows:Nat->ARow} {fp:List Nat} (hG:∀ g cs,G g=some cs->aP aE cs=true) (h:Pure P G f targs res) (hl:LendL rows fp args targs) (hs:fp=[]\/tE res=true):
  c8 P G f args rows fp ⟨res,[]⟩:=by
 obtain ⟨hres,hc⟩:=h
 obtain ⟨hgo,_,hcall⟩:=hc fun _=>.none
 refine ⟨hgo,by simp,fun E us i hE hus=>?_⟩
 have hl':=hl.rel i hE hus
 have il:Inv G (mF E fp):=by
  refine ⟨fun r=>(by simp [RowOK,mF]),fun r r' h=>(by cases h),fun b hb=>?_,fun g cs hg=>?_⟩
  .rcases hb with hb|⟨r,_,h1,rfl⟩
   .exact i.sb b hb
   .exact (i.live h1).1
  .obtain ⟨vs,a1,a2,a3⟩:=i.glob g cs hg
   exact ⟨vs,.inl a1,a2.agree (jE E fp) (hG g cs hg),a3⟩
 refine (hcall (mF E fp) us il (by simp) hl').mono fun e w' hr=>?_
 obtain ⟨v,E1,rfl,rfl,h3,h4,h5,h6⟩:=hr
 have hblk:∀ b,b<E.w.heap.size->E1.w.heap[b]? =E.w.heap[b]?/\(E1.S b->(mF E fp).S b):=fun b hb=>h4.out b hb fun r hr=>by cases hr
 have hst:=oX i E1.w (fun b=>E.S b\/(E.w.heap.size<=b/\E1.S b)) h4.os h4.tape h4.output h4.sz (fun b hb=>(hblk b hb).1) (fun b hb=>.inl hb)
  (fun b hb=>hb.imp id fun ⟨h1,h2⟩=>⟨h1,h5.sb b h2⟩)
 refine ⟨v,⟨E1.w,fun b=>E.S b\/(E.w.heap.size<=b/\E1.S b),E.ρ,E.rows⟩,rfl,rfl,?_,hst.1,hst.2,rfl⟩
 rcases hs with rfl|hs
 .have ag:eY aE E1 ⟨E1.w,fun b=>E.S b\/(E.w.heap.size<=b/\E1.S b),E.ρ,E.rows⟩:=⟨rfl,fun b hb=>by
   rcases Nat.lt_or_ge b E.w.heap.size with hlt|hge
   .have:=(hblk b hlt).2 hb
    rcases this with h|⟨r,hr,_⟩
    .exact .inl h
    .cases hr
   .exact .inr ⟨hge,hb⟩,fun r hr=>(by cases hr),fun r hr=>(by cases hr)⟩
  exact h3.agree ag hres
 .exact FK hs h3
end Go.AM
