import Derived.Test.YtggflhbigolakaaGreatDoorAE
import Derived.Test.YtggflhbigolakaaGreatDoorAH
import Derived.Test.YtggflhbigolakaaGreatDoorF1
import Derived.Test.YtggflhbigolakaaGreatDoorM1
set_option linter.unusedVariables false
set_option linter.unusedSimpArgs false
namespace Go.Proofs.YtggflhbigolakaaGreatDoor
open Go.AM
attribute [local irreducible] AWp aY bC bI bU bW aN aS bL
set_option maxRecDepth 100000
namespace T
mutual
def enc:T→List AV|mk k n m es=>[.int .i64 k,.int .i64 n,.int .i64 m,.sl false (encs es)]
def encs:List T→List (List AV)
 | []=>[]
 |e::es=>enc e::encs es
end
theorem encs_map (es:List T):encs es=es.map enc:=by induction es<;>simp_all [encs]
mutual
theorem enc_tree:∀ t:T,inL aC (enc t)=true
 |mk k n m es=>by simp only [enc,inL,inR,encs_tree es,Bool.and_self]
theorem encs_tree:∀ es:List T,inE aC (encs es)=true
 | []=>rfl
 |e::es=>by simp only [encs,inE,enc_tree e,encs_tree es,Bool.and_self]
end
theorem encs_len (es:List T):(encs es).length=es.length:=by rw [encs_map,List.length_map]
theorem encs_get {es:List T} {i:Nat} {e:T} (h:es[i]? =some e):(encs es)[i]? =some (enc e):=by rw [encs_map,List.getElem?_map,h];rfl
theorem sizes_take {es:List T} {i:Nat} {e:T} (h:es[i]? =some e):sizes (es.take (i+1))=sizes (es.take i)+size e:=by
 rw [List.take_add_one,h,m7];simp [sizes]
theorem sizes_take_le:∀ (es:List T) (i:Nat),sizes (es.take i)≤sizes es
 | [],i=>by simp
 |e::es,0=>by simp [sizes]
 |e::es,i+1=>by
  have:=sizes_take_le es i
  simp only [List.take_succ_cons,sizes];omega
theorem len_sizes:∀ es:List T,es.length≤sizes es
 | []=>by simp
 |e::es=>by
  have h1:=len_sizes es
  have h2:=size_pos e
  simp only [List.length_cons,sizes];omega
end T
theorem bV {P:Program} {fn:Func} {Rp:AV→AS→Prop} {s:AS} {t:Tmp} {ty:TypeId} {v:AV} (h:fn.results= #[.cell t ty]) (hl:gO P ty (s.get t) s.row=some v) (hR:Rp v s):dR P fn Rp .ret s:=⟨v,by simp [cR,eK,jE,h,hl],hR⟩
theorem lZ [Rnd] {n k:Nat} {s:AS}:Ref G0 n k s s:=fun E a i=>⟨E,rfl,(Ext.refl E).toK k,i⟩
mutual
theorem T.wk_enc:∀ t:T,wkL (T.enc t)=T.enc t
 | .mk k n m es=>by
  have h:=T.wk_encs es
  simp only [T.enc,wkL,AM.wk,dI,h]
theorem T.wk_encs:∀ es:List T,(T.encs es).map wkL=T.encs es
 | []=>rfl
 |e::es=>by rw [T.encs,List.map_cons,T.wk_enc e,T.wk_encs es]
end
theorem T.enc_len (t:T):(T.enc t).length=4:=by cases t;rfl
theorem eY {α:Type} {f: α→List AV} {es:List α} {i:Nat} {e: α} (h:es[i]? =some e):(es.take (i+1)).map f=(es.take i).map f++[f e]:=by
 rw [List.take_add_one,h,List.map_append];rfl
theorem aX {P:Program} {fn:Func} {Rp:AV→AS→Prop} {s:AS} {t u:Tmp} {ty:TypeId} {v:AV} (h:fn.results= #[.cell t ty,.tmp u]) (hl:gO P ty (s.get t) s.row=some v) (hR:Rp (.tup [v,s.get u]) s):dR P fn Rp .ret s:=⟨_,by simp [cR,eK,jE,h,hl],hR⟩
namespace T
def sub:T→List Int→Option T
 |t,[]=>some t
 |t,i::p=>if 0≤i then (match t.kids[i.toNat]? with|some e=>sub e p|none=>none) else none
end T
theorem T7:∀ (p:List Int) (b:Bool) (t t':T),p.length≤1000000000000→T.sub t p=some t'→Pure Tryz.prog G0 42 [.agg (T.enc t),.sl b (p.map fun x=>[AV.int .i64 x])] (.tup [.agg (T.enc t'),.bool true]):=by
 intro p
 induction p with
 |nil=>
  intro b t t' _ h
  simp only [T.sub,Option.some.injEq] at h
  subst h
  have htr:=T.enc_tree t
  cases t with
  |mk k n m es=>
  refine aQ hG0 Tryz.func42 rfl (by kernel_rfl) (by simp [Tryz.ntmps42]) (by simp only [inL,inR,htr,List.map_nil,inE,Bool.and_self]) (by simp only [inR,inL,htr,Bool.and_self]) ?_
  simp only [Tryz.ntmps42,aH,Nat.reduceAdd,T.enc,List.map_nil]
  repeat' (first|(refine u'S ?_;simp only [wS,simprocAttr])|refine u'Q fun _ _=>?_|refine aV ?_|refine aR (fun hg=>?_) fun hg=>?_|fail)
  refine aX (v:=.agg (T.enc (.mk k n m es))) rfl (by simp only [wS,simprocAttr,T.enc];try exact rfl) u'p
 |cons i p ih=>
  intro b t t' hl h
  simp only [T.sub] at h
  split at h
  ·rename_i hi
   split at h
   ·rename_i e he
    have htr:=T.enc_tree t
    have htr':=T.enc_tree t'
    have htp:inE aC ((i::p).map fun x=>[AV.int .i64 x])=true:=aW _
    cases t with
    |mk k n m es=>
    obtain ⟨j,rfl⟩:∃ j:Nat,i=j:=⟨i.toNat,(Int.toNat_of_nonneg hi).symm⟩
    simp only [Int.toNat_natCast,T.kids] at he
    have hlt:j<es.length:=(List.getElem?_eq_some_iff.1 he).1
    have hg:=T.encs_get he
    have hln:=T.encs_len es
    simp only [List.length_cons] at hl
    have hih:=fun b=>ih b e t' (by omega) h
    have hee:∃ a b c d,T.enc e=[.int .i64 a,.int .i64 b,.int .i64 c,.sl false d]:=by cases e;exact ⟨_,_,_,_,rfl⟩
    have hee':∃ a b c d,T.enc t'=[.int .i64 a,.int .i64 b,.int .i64 c,.sl false d]:=by cases t';exact ⟨_,_,_,_,rfl⟩
    obtain ⟨ek,en,em,ees,hee⟩:=hee
    obtain ⟨fk,fn,fm,fes,hee'⟩:=hee'
    rw [hee] at hg hih
    rw [hee'] at hih htr' ⊢
    refine aQ hG0 Tryz.func42 rfl (by kernel_rfl) (by simp [Tryz.ntmps42]) (by simp only [inL,inR,htr,htp,Bool.and_self]) (by simp only [inR,inL,Bool.and_true,Bool.true_and] at htr' ⊢;exact htr') ?_
    simp only [Tryz.ntmps42,aH,Nat.reduceAdd,T.enc,List.map_cons]
    have hltE:j<(T.encs es).length:=by omega
    have e1:(((p.length+1:Nat):Int)==0)=false:=by simp;omega
    have e2:decide (((j:Nat):Int)<0)=false:=by simp
    have e3:decide (((j:Nat):Int) ≥ ((T.encs es).length:Int))=false:=by simp;omega
    have hsl:(p.map fun x=>[AV.int .i64 x]).all (fun e=>decide (e.length=1))=true:=by simp
    have htk:(p.map fun x=>[AV.int .i64 x]).take p.length=p.map fun x=>[AV.int .i64 x]:=List.take_of_length_le (by simp)
    have hle:(p.length≤p.length)=True:=by simp
    repeat' (first|(refine u'S ?_;simp only [wS,simprocAttr,e1,e2,e3,hg,hltE,List.length_cons,hle,if_true,hsl,htk,Nat.add_sub_cancel,List.drop_succ_cons,List.drop_zero,decide_true,Bool.true_and])|refine u'Q fun _ _=>?_|refine aV ?_|refine aR (fun hg=>?_) fun hg=>?_|fail)
    refine bH hG0 (hih _) ?_
    simp only [wS,simprocAttr]
    refine ⟨by kernel_rfl,?_⟩
    repeat' (first|(refine u'S ?_;simp only [wS,simprocAttr])|refine u'Q fun _ _=>?_|refine aV ?_|refine aR (fun hg=>?_) fun hg=>?_|fail)
    refine aX (v:=.agg [.int .i64 fk,.int .i64 fn,.int .i64 fm,.sl false fes]) rfl u'p u'p
   ·cases h
  ·cases h
def szN:Nat→Nat
 |0=>0
 |D+1=>1+6*szN D
theorem sZ:∀ {d D:Nat},d≤D→szN d≤szN D
 |0,_,_=>Nat.zero_le _
 |d+1,0,h=>absurd h (by omega)
 |d+1,D+1,h=>by
  have:=sZ (d:=d) (D:=D) (by omega)
  simp only [szN];omega
theorem T.of_node {D:Nat} {c:List AV} (h:NodeV D c):∃ t:T,wkL c=T.enc t∧T.size t≤szN D:=by
 induction h with
 | @mk D d hd k n m b es hl hh ih=>
  have key:∀ l:List (List AV),(∀ e∈l,∃ t:T,wkL e=T.enc t∧T.size t≤szN d)→∃ ts:List T,l.map wkL=T.encs ts∧T.sizes ts≤l.length*szN d:=by
   intro l
   induction l with
   |nil=>intro _;exact ⟨[],rfl,by simp [T.sizes]⟩
   |cons e l ie=>
    intro hx
    obtain ⟨t,h1,h2⟩:=hx e (by simp)
    obtain ⟨ts,h3,h4⟩:=ie fun x hx'=>hx x (by simp [hx'])
    refine ⟨t::ts,by rw [List.map_cons,h1,h3,T.encs],?_⟩
    simp only [T.sizes,List.length_cons,Nat.add_mul,Nat.one_mul];omega
  obtain ⟨ts,h1,h2⟩:=key es ih
  refine ⟨.mk k n m ts,?_,?_⟩
  ·simp only [wkL,AM.wk,dI]
   rw [T.enc,← h1]
  ·have h3:es.length*szN d≤6*szN d:=Nat.mul_le_mul_right _ hl
   have h4:=sZ (d:=d+1) (D:=D) hd
   simp only [T.size,szN] at h4 ⊢;omega
theorem aI (t:T):∃ a b c d,T.enc t=[.int .i64 a,.int .i64 b,.int .i64 c,.sl false d]:=by cases t;exact ⟨_,_,_,_,rfl⟩
theorem aM {r v sz:Nat} {app:List (List AV)}:bZ (rv r v sz app)=[r]:=by
 unfold rv;split<;>rfl
theorem aF {r v sz:Nat} {app:List (List AV)}:AV.toCells (rv r v sz app)=some [rv r v sz app]:=by
 unfold rv;split<;>rfl
namespace T
mutual
def paths:T→List (List Int)|mk _ _ _ es=>[]::pathss es 0
def pathss:List T→Nat→List (List Int)
 | [],_=>[]
 |e::es,i=>(paths e).map (fun p=>(i:Int)::p)++pathss es (i+1)
end
mutual
theorem paths_len:∀ t:T,(paths t).length=size t
 |mk k n m es=>by rw [paths,size,List.length_cons,pathss_len es 0];omega
theorem pathss_len:∀ (es:List T) (i:Nat),(pathss es i).length=sizes es
 | [],_=>rfl
 |e::es,i=>by rw [pathss,sizes,List.length_append,List.length_map,paths_len e,pathss_len es (i+1)]
end
theorem pathss_take {es:List T} {j:Nat} {e:T} (h:es[j]? =some e):∀ i:Nat,pathss (es.take (j+1)) i=pathss (es.take j) i++(paths e).map (fun p=>((i+j:Nat):Int)::p):=by
 induction es generalizing j with
 |nil=>simp at h
 |cons x es ih=>
  intro i
  cases j with
  |zero=>
   obtain rfl:x=e:=by simpa using h
   simp [pathss]
  |succ j=>
   have:=ih (by simpa using h) (i+1)
   simp only [List.take_succ_cons,pathss,this,List.append_assoc]
   rw [show i+1+j=i+(j+1) by omega]
mutual
theorem paths_sub:∀ (t:T) (p:List Int),p∈paths t→p.length<size t∧∃ t',sub t p=some t'∧size t'≤size t
 |mk k n m es,p,h=>by
  rw [paths] at h
  rcases List.mem_cons.1 h with rfl|h
  ·exact ⟨by simp only [List.length_nil,size];omega,mk k n m es,rfl,Nat.le_refl _⟩
  ·obtain ⟨j,q,e,rfl,h1,h2,h3,_,h6⟩:=t4 es 0 p h
   refine ⟨by simp only [List.length_cons,size];omega,?_⟩
   obtain ⟨t',h7,h8⟩:=h6
   refine ⟨t',?_,by simp only [size];omega⟩
   rw [sub,if_pos (by omega)]
   have:((0+j:Nat):Int).toNat=j:=by omega
   simp only [kids,this,h1]
   exact h7
theorem t4:∀ (es:List T) (i:Nat) (p:List Int),p∈pathss es i→∃ (j:Nat) (q:List Int) (e:T),p=((i+j:Nat):Int)::q∧es[j]? =some e∧size e≤sizes es∧q.length<size e∧True∧∃ t',sub e q=some t'∧size t'≤size e
 | [],i,p,h=>by cases h
 |e::es,i,p,h=>by
  rw [pathss] at h
  rcases List.mem_append.1 h with h|h
  ·obtain ⟨q,hq,rfl⟩:=List.mem_map.1 h
   obtain ⟨h1,h2⟩:=paths_sub e q hq
   exact ⟨0,q,e,rfl,rfl,by simp only [sizes];omega,h1,trivial,h2⟩
  ·obtain ⟨j,q,e',h1,h2,h3,h4,_,h6⟩:=t4 es (i+1) p h
   refine ⟨j+1,q,e',by rw [h1];congr 2;omega,by simpa using h2,by simp only [sizes];omega,h4,trivial,h6⟩
end
end T
def aE (p:List Int):List (List AV):=p.map fun x=>[AV.int .i64 x]
def PE (l:List (List Int)):List (List AV):=l.map fun p=>[AV.sl false (aE p)]
theorem l5 (l:List (List Int)):(PE l).length=l.length:=List.length_map ..
theorem OK (l:List (List Int)):∀ e∈PE l,e.length=1:=fun e he=>by
 obtain ⟨p,_,rfl⟩:=List.mem_map.1 he
 rfl
theorem IE (p:List Int):(aE p).flatten.length=p.length:=by
 rw [cG (sz:=1) (fun e he=>by obtain ⟨y,_,rfl⟩:=List.mem_map.1 he;rfl),aE,List.length_map,Nat.mul_one]
theorem nC:∀ l:List (List Int),inE aC (PE l)=true
 | []=>rfl
 |p::l=>by
  have h:=nC l
  simp only [PE,aE,List.map_cons,inE,inL,inR,Bool.and_true,Bool.and_eq_true] at h ⊢
  exact ⟨aW p,h⟩
theorem AD {l:List (List Int)} {i:Nat} {p:List Int} (h:l[i]? =some p):(PE l)[i]? =some [.sl false (aE p)]:=by rw [PE,List.getElem?_map,h];rfl
theorem D3 (l:List (List Int)):(PE l).map wkL=PE l:=by
 induction l with
 |nil=>rfl
 |cons p l ih=>
  have hp:wkE (aE p)=aE p:=by
   induction p with
   |nil=>rfl
   |cons x p ihp=>
    simp only [aE,List.map_cons,wkE,wkL,AM.wk] at ihp ⊢
    rw [ihp]
  simp only [PE,List.map_cons,wkL,AM.wk,hp] at ih ⊢
  rw [ih]
theorem GR (l:List (List Int)) (p:List Int):PE (l++[p])=PE l++[[.sl false (aE p)]]:=by simp [PE]
theorem y9 (L:List (List Int)):(([AV.sl true []]::PE L:List (List AV)).flatten).length=(L.length+1)*1:=by
 rw [cG (sz:=1) (fun e he=>by
  rcases List.mem_cons.1 he with rfl|he
  ·rfl
  ·exact OK L e he),List.length_cons,l5]
theorem nK (L:List (List Int)):inE aC ([[AV.sl true []]]++PE L)=true:=by simp only [List.cons_append,List.nil_append,inE,inL,inR,nC,Bool.and_self]
theorem HK (L:List (List Int)):∀ e∈([[AV.sl true []]]++PE L:List (List AV)),e.length=1:=fun e he=>by
 rcases List.mem_cons.1 he with rfl|he
 ·rfl
 ·exact OK L e he
theorem DX {rows:Nat→ARow} {fp:List Nat} (l:List AV) {a b:AV} (h:Lend rows fp a b):j8 rows fp (l++[a]) (l++[b]):=fQ (hU l) ⟨.inr h,trivial⟩
theorem v8 {H:List ARow} {base app:List (List AV)} {r sz j:Nat} (h:app.length=j+1):gD base r sz app=.osl r j 0 (base.length+j+1) sz false∧dO H base app=H++[.cells j (base++app).flatten]:=by
 have hne:app≠[]:=fun e=>by rw [e] at h;cases h
 refine ⟨?_,?_⟩
 ·rw [gD,if_neg hne,h];simp [Nat.add_assoc]
 ·rw [dO,if_neg hne,dT,h];simp
set_option maxHeartbeats 8000000 in
theorem GS : ∀ (N : Nat) (t : T), T.size t ≤ N → N ≤ 100000000000 → Pure Tryz.prog G0 71 [.agg (T.enc t)] (.sl false (PE (T.paths t))) := by
 intro N
 induction N with
 |zero=>intro t h;have:=T.size_pos t;omega
 | succ N ih =>
  intro t ht hN
  obtain ⟨k,n,m,es⟩:=t
  have ih2:∀ e∈es,Pure Tryz.prog G0 71 [.agg (T.enc e)] (.sl false (PE (T.paths e))):=fun e he=>ih e (by have:=T.size_mem he;simp only [T.size] at ht;omega) (by omega)
  have htr:=T.enc_tree (.mk k n m es)
  have hls:=T.len_sizes es
  simp only [T.size] at ht
  have hwk:=D3 (T.paths (.mk k n m es))
  have hPL:=T.paths_len (.mk k n m es)
  refine aU hG0 Tryz.func71 rfl (by kernel_rfl) (by simp [Tryz.ntmps71]) (by simp only [inL,inR,htr,Bool.and_self]) (by simp only [inR];exact nC _) ?_
  simp only [Tryz.ntmps71,aH,Nat.reduceAdd,T.enc]
  have hgt:=fun (i:Nat) (e:T)=>T.encs_get (es:=es) (i:=i) (e:=e)
  have hln:=T.encs_len es
  have hte:=T.encs_tree es
  generalize T.encs es=EE at hgt hln hte
  repeat' (first|(refine u'S ?_;simp only [wS,simprocAttr])|refine u'Q fun _ _=>?_|refine aV ?_|refine aR (fun hg=>?_) fun hg=>?_|fail)
  refine aJ (α:={i:Nat // i≤es.length}) (fun i=>[(1,.ptr 0 0 0),(3,gD [[AV.sl true []]] 1 1 (PE (T.pathss (es.take i.1) 0))),(4,.int .i64 (i.1:Nat))]) (fun i=>dO [.cells 0 [.int .i64 k,.int .i64 n,.int .i64 m,.sl false EE]] [[AV.sl true []]] (PE (T.pathss (es.take i.1) 0))) (fun i=>es.length - i.1) ⟨0,Nat.zero_le _⟩ (Weak.ref ⟨?_,.inl ?_⟩) ?_
  ·simp only [wS,simprocAttr,List.take_zero,T.pathss,PE,List.map_nil,iS];try exact rfl
  ·simp only [wS,simprocAttr,List.take_zero,T.pathss,PE,List.map_nil,dO,if_true];try exact rfl
  ·rintro ⟨i, hi⟩ K2 hK2
   repeat' (first|(refine u'S ?_;simp only [wS,simprocAttr,cN])|refine u'Q fun _ _=>?_|refine aV ?_|refine aR (fun hg=>?_) fun hg=>?_|fail)
   refine ⟨fun h=>?_,fun h=>?_⟩
   ·have hlt : i < es.length := by simp at h; omega
    have hltE:i<EE.length:=by omega
    obtain ⟨e,he⟩:∃ e,es[i]? =some e:=⟨_,List.getElem?_eq_getElem hlt⟩
    have hg:=hgt i e he
    have ke:=ih2 e (List.mem_of_getElem? he)
    have hsz:=T.size_mem (List.mem_of_getElem? he)
    have hpl:=T.paths_len e
    have hst:=T.sizes_take he
    have hsl:=T.sizes_take_le es (i+1)
    have hpt:=T.pathss_take he 0
    rw [Nat.zero_add] at hpt
    have hql:=T.pathss_len (es.take i) 0
    have e1:=aL (k:=i) hlt (by omega)
    obtain ⟨ek,en,em,ees,hee⟩:∃ a b c d,T.enc e=[.int .i64 a,.int .i64 b,.int .i64 c,.sl false d]:=by cases e;exact ⟨_,_,_,_,rfl⟩
    have hp0:(T.paths e)[0]? =some []:=by cases e;rfl
    rw [hee] at hg ke
    obtain ⟨Q,hQ⟩:∃ x,x=T.pathss (es.take i) 0:=⟨_,rfl⟩
    rw [← hQ] at hpt hql
    have hQ':=hQ.symm
    obtain ⟨B,hB⟩:∃ x,x=T.paths e:=⟨_,rfl⟩
    rw [← hB] at hpt hpl ke hp0
    have hbl:=l5 B
    have hbg:=fun (j:Nat) (p:List Int)=>AD (l:=B) (i:=j) (p:=p)
    have hbt:=nC B
    generalize PE B=PB at hbl hbg ke hbt
    repeat' (first|(refine u'S ?_;simp only [wS,simprocAttr,hg,hltE,hlt,cN,hQ'])|refine u'Q fun _ _=>?_|refine aV ?_|refine aR (fun hg=>?_) fun hg=>?_|fail)
    refine bH hG0 ke ?_
    simp only [wS,simprocAttr]
    repeat' (first|(refine u'S ?_;simp only [wS,simprocAttr])|refine u'Q fun _ _=>?_|refine aV ?_|refine aR (fun hg=>?_) fun hg=>?_|fail)
    rename_i Ka hKa Kb hKb
    refine aJ (α:={j:Nat // j≤B.length}) (fun j=>[(1,.ptr 0 0 0),(3,gD [[AV.sl true []]] 1 1 (PE (Q++(B.take j.1).map fun p=>(i:Int)::p))),(4,.int .i64 (i:Nat)),(5,.sl false PB),(6,.int .i64 (j.1:Nat))]) (fun j=>dO [.cells 0 [.int .i64 k,.int .i64 n,.int .i64 m,.sl false EE]] [[AV.sl true []]] (PE (Q++(B.take j.1).map fun p=>(i:Int)::p))) (fun j=>B.length - j.1) ⟨0,Nat.zero_le _⟩ (Weak.ref ⟨?_,.inl ?_⟩) ?_
    ·simp only [wS,simprocAttr,List.take_zero,List.map_nil,List.append_nil];try exact rfl
    ·simp only [wS,simprocAttr,List.take_zero,List.map_nil,List.append_nil];try exact rfl
    ·rintro ⟨j,hj⟩ K4 hK4
     obtain ⟨L,hL⟩:∃ x,x=Q++(B.take j).map fun p=>(i:Int)::p:=⟨_,rfl⟩
     have hLl:L.length=Q.length+j:=by rw [hL,List.length_append,List.length_map,List.length_take];omega
     have hL':=hL.symm
     simp only [hL']
     repeat' (first|(refine u'S ?_;simp only [wS,simprocAttr,hbl,hL'])|refine u'Q fun _ _=>?_|refine aV ?_|refine aR (fun hg=>?_) fun hg=>?_|fail)
     refine ⟨fun h2=>?_,fun h2=>?_⟩
     ·have hjl:j<B.length:=by simpa using h2
      have hjE:j<PB.length:=by omega
      obtain ⟨p,hp⟩:∃ p,B[j]? =some p:=⟨_,List.getElem?_eq_getElem hjl⟩
      have hg2:=hbg j p hp
      have e4:=aL (k:=j) hjl (by omega)
      have hL1:(Q++(B.take (j+1)).map fun p=>(i:Int)::p)=L++[(i:Int)::p]:=by rw [hL,List.take_add_one,hp];simp
      have hpm:p.length<T.size e:=(T.paths_sub e p (hB ▸ List.mem_of_getElem? hp)).1
      have hle:=l5 L
      by_cases hpn:p=[]
      ·subst hpn
       simp only [aE,List.map_nil] at hg2
       repeat' (first|(refine u'S ?_;simp only [wS,simprocAttr,hg2,hjE,hjl])|refine u'Q fun _ _=>?_|refine aV ?_|refine aR (fun hg=>?_) fun hg=>?_|fail)
       refine mO (sz:=1) (by':=8) (es:=[[.int .i64 (i:Int)]]) (new:=[]) (by kernel_rfl) (by simp) (by simp [cJ]) (by simp) ?_
       simp only [wS,simprocAttr]
       refine sK (H:=[.cells 0 [.int .i64 k,.int .i64 n,.int .i64 m,.sl false EE]]) (base:=[[AV.sl true []]]) (app:=PE L) (e:=[.sl true [[.int .i64 (i:Int)]]]) (sz:=1) (by':=24) (by kernel_rfl) rfl rfl rfl (HK L) (by simp [cJ]) (by simp only [List.length_cons,List.length_nil];omega) ?_
       have hac:=j6 [.cells 0 [.int .i64 k,.int .i64 n,.int .i64 m,.sl false EE]] [[AV.sl true []]] (PE L) [.sl true [[.int .i64 (i:Int)]]]
       simp only [List.length_cons,List.length_nil,Nat.reduceAdd] at hac
       simp only [wS,simprocAttr]
       repeat' (first|(refine u'S ?_;simp only [wS,simprocAttr,e4])|refine u'Q fun _ _=>?_|refine aV ?_|refine aR (fun hg=>?_) fun hg=>?_|fail)
       obtain ⟨hv,hh⟩:=v8 (H:=[.cells 0 [.int .i64 k,.int .i64 n,.int .i64 m,.sl false EE]]) (base:=[[AV.sl true []]]) (r:=1) (sz:=1) (app:=PE L++[[AV.sl true [[.int .i64 (i:Int)]]]]) (j:=L.length) (by simp [hle])
       obtain ⟨hv2,hh2⟩:=v8 (H:=[.cells 0 [.int .i64 k,.int .i64 n,.int .i64 m,.sl false EE]]) (base:=[[AV.sl true []]]) (r:=1) (sz:=1) (app:=PE (L++[[(i:Int)]])) (j:=L.length) (by rw [l5];simp)
       refine hK4.go ⟨j+1,hjl⟩ ?_ (by simp only;omega)
       simp only [hL1]
       rw [hv2,hh2]
       refine bN [] (kp [0,1]) hG0 (fun r hr=>absurd hr (Nat.not_lt_zero r)) ?_ ?_ ?_
       ·simp only [wS,simprocAttr,hv,cS,Frz,true_or,true_and,and_true]
       ·simp only [List.all_cons,List.all_nil,Bool.and_true,inR,aA hbt];rfl
       ·simp only [wS,simprocAttr,hac,hh]
        simp only [ToH]
        refine ⟨.inr ⟨rfl,by simp only [aG,inL,inR,aA hte,Bool.and_self],.inr ⟨.inl (by simp),.inl rfl⟩⟩,.inr ⟨rfl,?_,.inr ⟨.inl (by simp),.inr ⟨_,_,_,rfl,rfl,?_⟩⟩⟩,trivial⟩
        ·exact cF (aA (nK _))
        ·rw [GR]
         simp only [List.cons_append,List.nil_append,List.flatten_cons,List.flatten_append,List.flatten_nil,List.append_nil]
         exact DX (AV.sl true []::(PE L).flatten) (.full rfl)
      ·have hLn:L≠[]:=fun hn=>by
        rw [hn] at hLl
        have:j=0:=by simp at hLl;omega
        subst this
        rw [hp0] at hp
        injection hp with hp
        exact hpn hp.symm
       obtain ⟨q,hq⟩:∃ q,L.length=q+1:=⟨L.length - 1,by
        have:L.length≠0:=by simpa using hLn
        omega⟩
       obtain ⟨hv,hh⟩:=v8 (H:=[.cells 0 [.int .i64 k,.int .i64 n,.int .i64 m,.sl false EE]]) (base:=[[AV.sl true []]]) (r:=1) (sz:=1) (app:=PE L) (j:=q) (by rw [hle,hq])
       obtain ⟨hv2,hh2⟩:=v8 (H:=[.cells 0 [.int .i64 k,.int .i64 n,.int .i64 m,.sl false EE]]) (base:=[[AV.sl true []]]) (r:=1) (sz:=1) (app:=PE (L++[(i:Int)::p])) (j:=q+1) (by rw [l5];simp [hq])
       have e5:1+(q+1)+1=1+q+1+1:=by omega
       simp only [List.length_cons,List.length_nil,Nat.reduceAdd,e5,Nat.zero_add] at hv2
       have hpl2:(aE p).length=p.length:=List.length_map ..
       have hp0':p.length≠0:=by simpa using hpn
       have hia:(aE p).all (fun e=>decide (e.length=1))=true:=by simp [aE]
       simp only [List.length_cons,List.length_nil,Nat.reduceAdd,List.cons_append,List.nil_append] at hv hh
       repeat' (first|(refine u'S ?_;simp only [wS,simprocAttr,hv,hh,hg2,hjE,hjl])|refine u'Q fun _ _=>?_|refine aV ?_|refine aR (fun hg=>?_) fun hg=>?_|fail)
       refine f8 (sz:=1) (by':=8) (es:=[[.int .i64 (i:Int)]]) (nb:=2) (mm:=p.length) (new:=(aE p).flatten) (by kernel_rfl) rfl (by simp) (by rw [← hpl2];exact lR hia) hp0' (by simp only [List.length_cons,List.length_nil];omega) ?_
       simp only [wS,simprocAttr]
       repeat' (first|(refine u'S ?_;simp only [wS,simprocAttr])|refine u'Q fun _ _=>?_|refine aV ?_|refine aR (fun hg=>?_) fun hg=>?_|fail)
       refine f7 (r:=1) (ver:=q) (len:=1+q+1) (sz:=1) (by':=24) (mm:=1) (new:=[.osl 2 0 0 (1+p.length) 1 false]) (cs:=([AV.sl true []]::PE L).flatten) (by kernel_rfl) rfl (by rw [y9,hq];omega) rfl (by omega) ?_
       simp only [wS,simprocAttr]
       repeat' (first|(refine u'S ?_;simp only [wS,simprocAttr,e4])|refine u'Q fun _ _=>?_|refine aV ?_|refine aR (fun hg=>?_) fun hg=>?_|fail)
       refine hK4.go ⟨j+1,hjl⟩ ?_ (by simp only;omega)
       simp only [hL1]
       rw [hv2,hh2]
       refine bN [2] (kp [0,1]) hG0 (fun r hr=>absurd hr (Nat.not_lt_zero r)) ?_ ?_ ?_
       ·simp only [wS,simprocAttr,cS,Frz,true_or,true_and,and_true,List.length_cons,List.length_nil]
        try (first|exact .inl (by congr 1;omega)|skip)
       ·simp only [List.all_cons,List.all_nil,Bool.and_true,inR,aA hbt];rfl
       ·simp only [wS,simprocAttr]
        simp only [ToH,List.cons_append,List.nil_append]
        refine ⟨.inr ⟨rfl,by simp only [aG,inL,inR,aA hte,Bool.and_self],.inr ⟨.inl (by simp),.inl rfl⟩⟩,.inr ⟨rfl,?_,.inr ⟨.inl (by simp),.inr ⟨_,_,_,rfl,rfl,?_⟩⟩⟩,rfl,trivial⟩
        ·exact cF (aA (nK _))
        ·rw [GR,← List.cons_append,List.flatten_append]
         refine DX _ (.osl (cs:=[.int .i64 (i:Int)]++(aE p).flatten) (by simp) u'p (by simp [aE];omega) (by
          intro e he
          obtain ⟨y,_,rfl⟩:=List.mem_map.1 he
          rfl) ?_ (aW _))
         rw [List.drop_zero,List.take_of_length_le]
         ·rfl
         ·rw [List.length_append,IE]
          simp
     ·have hjb:j=B.length:=by simp [hbl] at h2;omega
      repeat' (first|(refine u'S ?_;simp only [wS,simprocAttr,e1])|refine u'Q fun _ _=>?_|refine aV ?_|refine aR (fun hg=>?_) fun hg=>?_|fail)
      refine hK2.go ⟨i+1,hlt⟩ (Weak.ref ⟨?_,.inl ?_⟩) (by simp only;omega)
      ·simp only [hpt,hL,hjb,List.take_length]
       exact u'p
      ·simp only [hpt,hL,hjb,List.take_length]
       exact u'p
   ·have hge:i=es.length:=by simp at h;omega
    have hta:es.take i=es:=by rw [hge,List.take_length]
    obtain ⟨L,hL⟩:∃ x,x=T.pathss (es.take i) 0:=⟨_,rfl⟩
    have hL':=hL.symm
    have hpp:T.paths (.mk k n m es)=[]::L:=by rw [T.paths,hL,hta]
    have hle:=l5 L
    by_cases hLn:L=[]
    ·repeat' (first|(refine u'S ?_;simp only [wS,simprocAttr,hL',hLn,PE,List.map_nil,iS])|refine u'Q fun _ _=>?_|refine aV ?_|refine aR (fun hg=>?_) fun hg=>?_|fail)
     refine aB rfl ?_
     simp only [wS,simprocAttr]
     rw [hpp,hLn];rfl
    ·obtain ⟨q,hq⟩:∃ q,L.length=q+1:=⟨L.length - 1,by
      have:L.length≠0:=by simpa using hLn
      omega⟩
     obtain ⟨hv,hh⟩:=v8 (H:=[.cells 0 [.int .i64 k,.int .i64 n,.int .i64 m,.sl false EE]]) (base:=[[AV.sl true []]]) (r:=1) (sz:=1) (app:=PE L) (j:=q) (by rw [hle,hq])
     simp only [List.length_cons,List.length_nil,Nat.reduceAdd,List.cons_append,List.nil_append,Nat.zero_add] at hv hh
     repeat' (first|(refine u'S ?_;simp only [wS,simprocAttr,hL',hv,hh])|refine u'Q fun _ _=>?_|refine lM ?_|refine aR (fun hg=>?_) fun hg=>?_|fail)
     refine Cont.go (by assumption) (eH (bN [1] (kp []) (l:=[(3,.sl false ([[AV.sl true []]]++PE L))]) (h:=[]) hG0 (fun r hr=>absurd hr (Nat.not_lt_zero r)) ?_ ?_ ?_) ?_)
     ·simp only [wS,simprocAttr,hL',hv,hh,cS,Frz,and_true,false_or,reduceCtorEq]
      exact .osl (cs:=([AV.sl true []]::PE L).flatten) (by simp) u'p (by first|(simp [hle,hq];done)|(simp [hle,hq];omega)) (HK L) (by
       rw [List.drop_zero,List.take_of_length_le (by have:=y9 L;omega)]) (nK L)
     ·simp only [List.all_cons,List.all_nil,Bool.and_true,inR,aA (nK L)]
     ·simp only [wS,simprocAttr,hL',hh];simp only [ToH,and_true];exact ⟨rfl,rfl⟩
     repeat' (first|(refine u'S ?_;simp only [wS,simprocAttr])|refine u'Q fun _ _=>?_|refine aV ?_|refine aR (fun hg=>?_) fun hg=>?_|fail)
     refine aB rfl ?_
     simp only [wS,simprocAttr]
     rw [hpp] at hwk ⊢
     simp only [AM.wk,dI,List.cons_append,List.nil_append,List.map_cons,D3]
     rfl
end Go.Proofs.YtggflhbigolakaaGreatDoor
