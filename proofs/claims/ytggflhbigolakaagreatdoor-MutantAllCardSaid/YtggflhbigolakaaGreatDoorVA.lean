import Derived.Test.YtggflhbigolakaaGreatDoorG
import Derived.Test.YtggflhbigolakaaGreatDoorN1
set_option linter.unusedVariables false
set_option linter.unusedSimpArgs false
namespace Go.Proofs.YtggflhbigolakaaGreatDoor
open Go.AM
attribute [local irreducible] cG bG bI bL bW bZ aQ aV bN
theorem L9 {α:Type} {p q: α->Bool}:∀ {l:List α},(∀ x∈l,p x=q x)->l.all p=l.all q
 | [],_=>rfl
 |x::l,h=>by rw [bg,bg,h x (by simp),L9 fun y hy=>h y (by simp [hy])]
namespace T
def hole (t:T):Bool:=decide (t.kind=28)&&(decide (0<=t.num/\t.num<=7)&&(decide (t.low=0)&&t.kids.isEmpty))
mutual
def fine (root rest:Bool):T->Bool
 |mk k n m es=>(decide (0<=k/\k<=28)&&(!decide (k=28) || hole (mk k n m es)))&&((!decide (n= -100) || root)&&jN rest es)
def jN (rest:Bool):List T->Bool
 | []=>true
 |e::es=>fine rest rest e&&jN rest es
end
mutual
def nums:T->List Int
 |mk k n m es=>if k=28 then (if 0<=n/\n<=7 then [n] else []) else numss es
def numss:List T->List Int
 | []=>[]
 |e::es=>nums e++numss es
end
mutual
def depth:T->Nat|mk _ _ _ es=>depths es+1
def depths:List T->Nat
 | []=>0
 |e::es=>max (depth e) (depths es)
end
def chk (free put:Bool) (k n m:Int) (es:List T) (s:Bool × List Bool):Bool × List Bool:=
 if k=28/\(s.1&&(decide (0<=k/\k<=28)&&(free || !decide (n= -100))))=true then
  (if 0<=n/\n<=7/\m=0/\es=[] then (if put then s.2.getD n.toNat false else true,s.2.set n.toNat true) else (false,s.2))
 else (s.1&&(decide (0<=k/\k<=28)&&(free || !decide (n= -100))),s.2)
mutual
def vis (fr:Bool->Bool) (put root:Bool):T->Bool × List Bool->Bool × List Bool
 |mk k n m es,s=>viss fr put es (chk (fr root) put k n m es s)
def viss (fr:Bool->Bool) (put:Bool):List T->Bool × List Bool->Bool × List Bool
 | [],s=>s
 |e::es,s=>viss fr put es (vis fr put false e s)
end
theorem R9 (free put:Bool) (k n m:Int) (es:List T) (kn:List Bool):chk free put k n m es (false,kn)=(false,kn):=by
 simp [chk]
mutual
theorem C5 (fr:Bool->Bool) (put root:Bool):∀ (t:T) (kn:List Bool),vis fr put root t (false,kn)=(false,kn)
 |mk k n m es,kn=>by rw [vis,R9,fG fr put es kn]
theorem fG (fr:Bool->Bool) (put:Bool):∀ (es:List T) (kn:List Bool),viss fr put es (false,kn)=(false,kn)
 | [],_=>rfl
 |e::es,kn=>by rw [viss,C5 fr put false e kn,fG fr put es kn]
end
theorem UV {kn:List Bool} {i j:Nat} (h:i<kn.length):(kn.set i true).getD j false=(decide (i=j) || kn.getD j false):=by
 simp only [bc,List.getElem?_set]
 by_cases e:i=j
 .subst e;simp [h]
 .simp [e]
theorem chk_hole {free put:Bool} {n m:Int} {es:List T} {kn:List Bool} (hf:(free || !decide (n= -100))=true):chk free put 28 n m es (true,kn)=if 0<=n/\n<=7/\m=0/\es=[] then (if put then kn.getD n.toNat false else true,kn.set n.toNat true) else (false,kn):=by
 rw [chk,if_pos ⟨rfl,by simp [hf]⟩]
theorem pJ {n m:Int} {es:List T}:hole (mk 28 n m es)=true↔0<=n/\n<=7/\m=0/\es=[]:=by
 unfold hole
 rw [ae,ae,ae]
 constructor
 .rintro ⟨_,h2,h3,h4⟩
  have h2:=of_decide_eq_true h2
  have h3:=of_decide_eq_true h3
  exact ⟨h2.1,h2.2,h3,List.isEmpty_iff.1 h4⟩
 .rintro ⟨h1,h2,h3,h4⟩
  exact ⟨decide_eq_true rfl,decide_eq_true ⟨h1,h2⟩,decide_eq_true h3,List.isEmpty_iff.2 h4⟩
mutual
theorem HL (fr:Bool->Bool):∀ (root:Bool) (t:T) (kn:List Bool),kn.length=8->(vis fr false root t (true,kn)).1=fine (fr root) (fr false) t/\(fine (fr root) (fr false) t=true->(vis fr false root t (true,kn)).2.length=8/\∀ i:Nat,i<8->(vis fr false root t (true,kn)).2.getD i false=(kn.getD i false || (nums t).contains (i:Int)))
 |root,mk k n m es,kn,hl=>by
  by_cases hf:(fr root || !decide (n= -100))=true
  .by_cases hk:k=28
   .subst hk
    rw [vis,chk_hole hf]
    by_cases hh:0<=n/\n<=7/\m=0/\es=[]
    .have hho:=pJ.2 hh
     obtain ⟨h0,h1,h2,rfl⟩:=hh
     rw [if_pos ⟨h0,h1,h2,rfl⟩]
     have hn:n.toNat<kn.length:=by omega
     have hfi:fine (fr root) (fr false) (mk 28 n m [])=true:=by
      simp only [fine,hho,jN]
      simp
      rw [eg] at hf
      rcases hf with h|h
      .exact .inr h
      .exact .inl (by simpa using h)
     refine ⟨by rw [hfi];simp [viss],fun _=>⟨by simp [viss,hl],fun i hi=>?_⟩⟩
     simp only [viss]
     rw [UV hn,nums,if_pos rfl,if_pos ⟨h0,h1⟩,Bool.or_comm]
     congr 1
     have:(n.toNat=i)↔((i:Int)=n):=by omega
     simp [this]
    .rw [if_neg hh,fG]
     have hno:hole (mk 28 n m es)=false:=by
      cases h:hole (mk 28 n m es) with
      |false=>rfl
      |true=>exact absurd (pJ.1 h) hh
     have hfi:fine (fr root) (fr false) (mk 28 n m es)=false:=by simp [fine,hno]
     exact ⟨hfi.symm,fun h=>by rw [hfi] at h;cases h⟩
   .have hc:chk (fr root) false k n m es (true,kn)=(decide (0<=k/\k<=28),kn):=by
     rw [chk,if_neg fun h=>hk h.1]
     simp only [ac,hf,ab]
    have hfi:fine (fr root) (fr false) (mk k n m es)=(decide (0<=k/\k<=28)&&jN (fr false) es):=by
     rw [fine]
     rw [Bool.or_comm] at hf
     simp only [hf,hk,decide_false,be,gz,ab,ac]
    rw [vis,hc,hfi]
    by_cases hb:0<=k/\k<=28
    .obtain ⟨h1,h2⟩:=C4 fr es kn hl
     rw [decide_eq_true hb,ac]
     refine ⟨h1,fun h=>?_⟩
     obtain ⟨h3,h4⟩:=h2 h
     refine ⟨h3,fun i hi=>?_⟩
     rw [h4 i hi,nums,if_neg hk]
    .rw [decide_eq_false hb,fG]
     exact ⟨rfl,fun h=>by cases h⟩
  .have hf':(fr root || !decide (n= -100))=false:=by simpa using hf
   have hc:chk (fr root) false k n m es (true,kn)=(false,kn):=by
    rw [chk,if_neg fun h=>by rw [hf',da,da] at h;cases h.2]
    rw [hf',da,da]
   have hfi:fine (fr root) (fr false) (mk k n m es)=false:=by
    rw [Bool.or_comm] at hf'
    rw [fine,hf',dl,da]
   rw [vis,hc,fG,hfi]
   exact ⟨rfl,fun h=>by cases h⟩
theorem C4 (fr:Bool->Bool):∀ (es:List T) (kn:List Bool),kn.length=8->(viss fr false es (true,kn)).1=jN (fr false) es/\(jN (fr false) es=true->(viss fr false es (true,kn)).2.length=8/\∀ i:Nat,i<8->(viss fr false es (true,kn)).2.getD i false=(kn.getD i false || (numss es).contains (i:Int)))
 | [],kn,hl=>⟨rfl,fun _=>⟨hl,fun i _=>by simp [viss,numss]⟩⟩
 |e::es,kn,hl=>by
  obtain ⟨h1,h2⟩:=HL fr false e kn hl
  rw [viss,jN]
  cases he:fine (fr false) (fr false) e with
  |false=>
   rw [he] at h1
   have:vis fr false false e (true,kn)=(false,(vis fr false false e (true,kn)).2):=Prod.ext h1 rfl
   rw [this,fG]
   exact ⟨rfl,fun h=>by cases h⟩
  |true=>
   rw [he] at h1
   obtain ⟨h3,h4⟩:=h2 he
   have:vis fr false false e (true,kn)=(true,(vis fr false false e (true,kn)).2):=Prod.ext h1 rfl
   rw [this]
   obtain ⟨h5,h6⟩:=C4 fr es _ h3
   rw [ac]
   refine ⟨h5,fun h=>?_⟩
   obtain ⟨h7,h8⟩:=h6 h
   refine ⟨h7,fun i hi=>?_⟩
   rw [h8 i hi,h4 i hi,numss,Bool.or_assoc]
   congr 1
   simp [List.contains_eq_any_beq,List.any_append]
end
def vL (kn:List Bool) (u:Int):Bool:=kn.getD u.toNat false
mutual
theorem NU (fr:Bool->Bool):∀ (root:Bool) (t:T) (kn:List Bool),kn.length=8->(vis fr true root t (true,kn)).1=(fine (fr root) (fr false) t&&(nums t).all (vL kn))/\((fine (fr root) (fr false) t&&(nums t).all (vL kn))=true->(vis fr true root t (true,kn)).2=kn)
 |root,mk k n m es,kn,hl=>by
  by_cases hf:(fr root || !decide (n= -100))=true
  .by_cases hk:k=28
   .subst hk
    rw [vis,chk_hole hf]
    by_cases hh:0<=n/\n<=7/\m=0/\es=[]
    .have hho:=pJ.2 hh
     obtain ⟨h0,h1,h2,rfl⟩:=hh
     rw [if_pos ⟨h0,h1,h2,rfl⟩]
     have hfi:fine (fr root) (fr false) (mk 28 n m [])=true:=by
      simp only [fine,hho,jN]
      simp
      rw [eg] at hf
      rcases hf with h|h
      .exact .inr h
      .exact .inl (by simpa using h)
     have hnu:nums (mk 28 n m [])=[n]:=by rw [nums,if_pos rfl,if_pos ⟨h0,h1⟩]
     rw [hfi,hnu]
     simp only [viss,if_true,bg,bz,ab,ac]
     refine ⟨rfl,fun h=>?_⟩
     have hg:kn.getD n.toNat false=true:=h
     have hn:n.toNat<kn.length:=by omega
     refine List.ext_getElem? fun i=>?_
     rw [List.getElem?_set]
     by_cases e:n.toNat=i
     .subst e
      rw [if_pos rfl,if_pos hn]
      rw [bc,ah hn,eu] at hg
      rw [ah hn,hg]
     .rw [if_neg e]
    .rw [if_neg hh,fG]
     have hno:hole (mk 28 n m es)=false:=by
      cases h:hole (mk 28 n m es) with
      |false=>rfl
      |true=>exact absurd (pJ.1 h) hh
     have hfi:fine (fr root) (fr false) (mk 28 n m es)=false:=by simp [fine,hno]
     rw [hfi,dl]
     exact ⟨rfl,fun h=>by cases h⟩
   .have hc:chk (fr root) true k n m es (true,kn)=(decide (0<=k/\k<=28),kn):=by
     rw [chk,if_neg fun h=>hk h.1]
     simp only [ac,hf,ab]
    have hfi:fine (fr root) (fr false) (mk k n m es)=(decide (0<=k/\k<=28)&&jN (fr false) es):=by
     rw [fine]
     rw [Bool.or_comm] at hf
     simp only [hf,hk,decide_false,be,gz,ab,ac]
    have hnu:nums (mk k n m es)=numss es:=by rw [nums,if_neg hk]
    rw [vis,hc,hfi,hnu]
    by_cases hb:0<=k/\k<=28
    .rw [decide_eq_true hb,ac]
     exact HK fr es kn hl
    .rw [decide_eq_false hb,fG]
     exact ⟨rfl,fun h=>by cases h⟩
  .have hf':(fr root || !decide (n= -100))=false:=by simpa using hf
   have hc:chk (fr root) true k n m es (true,kn)=(false,kn):=by
    rw [chk,if_neg fun h=>by rw [hf',da,da] at h;cases h.2]
    rw [hf',da,da]
   have hfi:fine (fr root) (fr false) (mk k n m es)=false:=by
    rw [Bool.or_comm] at hf'
    rw [fine,hf',dl,da]
   rw [vis,hc,fG,hfi,dl]
   exact ⟨rfl,fun h=>by cases h⟩
theorem HK (fr:Bool->Bool):∀ (es:List T) (kn:List Bool),kn.length=8->(viss fr true es (true,kn)).1=(jN (fr false) es&&(numss es).all (vL kn))/\((jN (fr false) es&&(numss es).all (vL kn))=true->(viss fr true es (true,kn)).2=kn)
 | [],kn,hl=>⟨rfl,fun _=>rfl⟩
 |e::es,kn,hl=>by
  obtain ⟨h1,h2⟩:=NU fr false e kn hl
  rw [viss,jN,numss,List.all_append]
  cases he:(fine (fr false) (fr false) e&&(nums e).all (vL kn)) with
  |false=>
   rw [he] at h1
   have:vis fr true false e (true,kn)=(false,(vis fr true false e (true,kn)).2):=Prod.ext h1 rfl
   have hz:(fine (fr false) (fr false) e&&jN (fr false) es&&((nums e).all (vL kn)&&(numss es).all (vL kn)))=false:=by
    rw [Bool.and_eq_false_iff] at he
    rcases he with he|he<;>rw [he]<;>simp
   rw [this,fG,hz]
   exact ⟨rfl,fun h=>by cases h⟩
  |true=>
   rw [he] at h1
   have h3:=h2 he
   have:vis fr true false e (true,kn)=(true,kn):=Prod.ext h1 h3
   rw [ae] at he
   rw [this,he.1,he.2,ac,ac]
   exact HK fr es kn hl
end
def visits (f p:T):Bool:=(vis (fun _=>decide (f.num= -100)) true true p (vis (fun r=>r) false true f (true,List.replicate 8 false))).1
mutual
theorem yV:∀ (t:T),∀ u∈nums t,0<=u/\u<=7
 |mk k n m es,u,hu=>by
  rw [nums] at hu
  split at hu
  .split at hu
   .rw [bd.1 hu];assumption
   .cases hu
  .exact vJ es u hu
theorem vJ:∀ (es:List T),∀ u∈numss es,0<=u/\u<=7
 | [],u,hu=>by cases hu
 |e::es,u,hu=>by
  rw [numss] at hu
  rcases bo.1 hu with hu|hu
  .exact yV e u hu
  .exact vJ es u hu
end
theorem visits_eq (f p:T):visits f p=(fine true false f&&(fine (decide (f.num= -100)) (decide (f.num= -100)) p&&(nums p).all fun u=>(nums f).contains u)):=by
 unfold visits
 obtain ⟨h1,h2⟩:=HL (fun r=>r) true f (List.replicate 8 false) rfl
 cases hf:fine true false f with
 |false=>
  rw [hf] at h1
  have:vis (fun r=>r) false true f (true,List.replicate 8 false)=(false,(vis (fun r=>r) false true f (true,List.replicate 8 false)).2):=Prod.ext h1 rfl
  rw [this,C5,dl]
 |true=>
  rw [hf] at h1
  obtain ⟨h3,h4⟩:=h2 hf
  have:vis (fun r=>r) false true f (true,List.replicate 8 false)=(true,(vis (fun r=>r) false true f (true,List.replicate 8 false)).2):=Prod.ext h1 rfl
  rw [this,ac]
  obtain ⟨h5,_⟩:=NU (fun _=>decide (f.num= -100)) true p _ h3
  rw [h5]
  congr 1
  refine L9 fun u hu=>?_
  obtain ⟨u0,u7⟩:=yV p u hu
  unfold vL
  rw [h4 u.toNat (by omega)]
  have:((u.toNat:Nat):Int)=u:=by omega
  have hr:(List.replicate 8 false).getD u.toNat false=false:=by
   rw [bc,List.getElem?_replicate]
   split<;>rfl
  rw [this,hr,ej]
end T
set_option maxRecDepth 100000
theorem T.depths_app:∀ (a b:List T),T.depths (a++b)=max (T.depths a) (T.depths b)
 | [],b=>by simp [T.depths]
 |e::a,b=>by rw [ar,T.depths,T.depths,T.depths_app a b,Nat.max_assoc]
theorem T.depths_take {es:List T} {i:Nat} {e:T} (h:es[i]? =some e):T.depths (es.take (i+1))=max (T.depths (es.take i)) (T.depth e):=by
 rw [dh,h,T.depths_app];simp [T.depths]
mutual
theorem T.depth_size:∀ t:T,T.depth t<=T.size t
 | .mk k n m es=>by
  have:=T.depths_sizes es
  rw [T.depth,T.size];omega
theorem T.depths_sizes:∀ es:List T,T.depths es<=T.sizes es
 | []=>ap _
 |e::es=>by
  have h1:=T.depth_size e
  have h2:=T.depths_sizes es
  rw [T.depths,T.sizes];omega
end
theorem T.depths_take_le (es:List T) (j:Nat):T.depths (es.take j)<=T.sizes es:=dj (T.depths_sizes _) (T.sizes_take_le es j)
theorem CH:∀ (N:Nat) (t:T),T.size t<=N->N<=1000000000000->Pure Tryz.prog G0 90 [.agg (T.enc t)] (.int .i64 (T.size t:Nat)):=by
 intro N
 induction N with
 |zero=>intro t h;have:=T.size_pos t;omega
 |succ N ih=>
  intro t ht hN
  cases t with
  |mk k n m es=>
  have ih2:∀ e∈es,Pure Tryz.prog G0 90 [.agg (T.enc e)] (.int .i64 (T.size e:Nat)):=fun e he=>ih e (by have:=T.size_mem he;simp only [T.size] at ht;omega) (by omega)
  have htr:=T.enc_tree (.mk k n m es)
  have hls:=T.len_sizes es
  simp only [T.size] at ht
  have hB:∀ j:Nat,T.sizes (es.take j)<=N:=fun j=>dj (T.sizes_take_le es j) (by omega)
  refine aL bX Tryz.func90 rfl (by kernel_rfl) (by simp [Tryz.ntmps90]) (by simp only [aP,aI,htr,ai]) rfl ?_
  simp only [Tryz.ntmps90,aK,Nat.reduceAdd,T.enc]
  have hgt:=fun (i:Nat) (e:T)=>T.encs_get (es:=es) (i:=i) (e:=e)
  have hln:=T.encs_len es
  have hte:=T.encs_tree es
  generalize T.encs es=EE at hgt hln hte
  refine aF
  refine aJ (α:={i:Nat // i<=es.length}) (fun i=>[(1,.ptr 0 0 0),(3,.int .i64 (1+T.sizes (es.take i.1):Nat)),(7,.sl false EE),(8,.int .i64 (es.length:Nat)),(9,.int .i64 (i.1:Nat))]) (fun i=>[.cells 0 [.int .i64 k,.int .i64 n,.int .i64 m,.sl false EE]]) (fun i=>es.length - i.1) ⟨0,az _⟩ (Weak.ref ⟨?_,.inl ?_⟩) ?_
  .simp only [wS,simprocAttr,hln,T.sizes,ci];try exact rfl
  .exact aZ
  .rintro ⟨i,hi⟩ K2 hK2
   refine aF
   refine ⟨fun h=>?_,fun h=>?_⟩
   .have hlt:i<es.length:=by simpa [hln] using h
    have hltE:i<EE.length:=by omega
    obtain ⟨e,he⟩:∃ e,es[i]? =some e:=⟨_,ah hlt⟩
    have hg:=hgt i e he
    have hs:=T.sizes_take he
    have hsl:=hB (i+1)
    have hsl0:=hB i
    have ke:=ih2 e (aj he)
    have e1:=aO (k:=i) hlt (by omega)
    have e2:IntKind.i64.wrap (((1+T.sizes (es.take i):Nat):Int)+((T.size e:Nat):Int))=((1+T.sizes (es.take (i+1)):Nat):Int):=by rw [dP (by omega) (by omega)];omega
    obtain ⟨ek,en,em,ees,hee⟩:=aN e
    rw [hee] at hg ke
    repeat' (first|(refine cC ?_;simp only [wS,simprocAttr,hg,hltE,hlt])|refine aH|fail)
    refine bO bX ke ?_
    simp only [wS,simprocAttr,e2]
    refine aR (bF e1 e2)
    refine hK2.go ⟨i+1,hlt⟩ (Weak.ref ⟨?_,.inr ⟨az _,?_,fun g cs hg=>bE (bX g cs hg),?_,?_⟩⟩) (by simp only;omega)
    .exact aZ
    .exact aZ
    .intro z hz
     replace hz:=aC hz
     rcases hz with rfl|rfl|rfl|rfl|rfl<;>first|rfl|exact aB hte
    .simp only [bg,bz,ab,aG,aP,aI,ac]
     exact aB hte
   .have hge:i=es.length:=by simp [hln] at h;omega
    refine aF
    refine aD rfl ?_
    refine aA
    rw [hge,bi];simp only [T.size]
theorem AB:∀ (N:Nat) (t:T),T.size t<=N->N<=1000000000000->Pure Tryz.prog G0 91 [.agg (T.enc t)] (.int .i64 (T.depth t:Nat)):=by
 intro N
 induction N with
 |zero=>intro t h;have:=T.size_pos t;omega
 |succ N ih=>
  intro t ht hN
  cases t with
  |mk k n m es=>
  have ih2:∀ e∈es,Pure Tryz.prog G0 91 [.agg (T.enc e)] (.int .i64 (T.depth e:Nat)):=fun e he=>ih e (by have:=T.size_mem he;simp only [T.size] at ht;omega) (by omega)
  have htr:=T.enc_tree (.mk k n m es)
  have hls:=T.len_sizes es
  simp only [T.size] at ht
  have hB:∀ j:Nat,T.depths (es.take j)<=N:=fun j=>dj (T.depths_take_le es j) (by omega)
  refine aL bX Tryz.func91 rfl (by kernel_rfl) (by simp [Tryz.ntmps91]) (by simp only [aP,aI,htr,ai]) rfl ?_
  simp only [Tryz.ntmps91,aK,Nat.reduceAdd,T.enc]
  have hgt:=fun (i:Nat) (e:T)=>T.encs_get (es:=es) (i:=i) (e:=e)
  have hln:=T.encs_len es
  have hte:=T.encs_tree es
  generalize T.encs es=EE at hgt hln hte
  refine aF
  refine aJ (α:={i:Nat // i<=es.length}) (fun i=>[(1,.ptr 0 0 0),(3,.int .i64 (T.depths (es.take i.1):Nat)),(7,.sl false EE),(8,.int .i64 (es.length:Nat)),(9,.int .i64 (i.1:Nat))]) (fun i=>[.cells 0 [.int .i64 k,.int .i64 n,.int .i64 m,.sl false EE]]) (fun i=>es.length - i.1) ⟨0,az _⟩ (Weak.ref ⟨?_,.inl ?_⟩) ?_
  .simp only [wS,simprocAttr,hln,T.depths,ci];try exact rfl
  .exact aZ
  .rintro ⟨i,hi⟩ K2 hK2
   refine aF
   refine ⟨fun h=>?_,fun h=>?_⟩
   .have hlt:i<es.length:=by simpa [hln] using h
    have hltE:i<EE.length:=by omega
    obtain ⟨e,he⟩:∃ e,es[i]? =some e:=⟨_,ah hlt⟩
    have hg:=hgt i e he
    have hs:=T.depths_take he
    have hsl:=hB (i+1)
    have hsl0:=hB i
    have ke:=ih2 e (aj he)
    have e1:=aO (k:=i) hlt (by omega)
    have e2:(if ((T.depth e:Nat):Int) > ((T.depths (es.take i):Nat):Int) then ((T.depth e:Nat):Int) else ((T.depths (es.take i):Nat):Int))=((T.depths (es.take (i+1)):Nat):Int):=by
     rw [hs];split<;>omega
    obtain ⟨ek,en,em,ees,hee⟩:=aN e
    rw [hee] at hg ke
    repeat' (first|(refine cC ?_;simp only [wS,simprocAttr,hg,hltE,hlt])|refine aH|fail)
    refine bO bX ke ?_
    simp only [wS,simprocAttr,e2]
    refine aR (bF e1 e2)
    refine hK2.go ⟨i+1,hlt⟩ (Weak.ref ⟨?_,.inr ⟨az _,?_,fun g cs hg=>bE (bX g cs hg),?_,?_⟩⟩) (by simp only;omega)
    .exact aZ
    .exact aZ
    .intro z hz
     replace hz:=aC hz
     rcases hz with rfl|rfl|rfl|rfl|rfl<;>first|rfl|exact aB hte
    .simp only [bg,bz,ab,aG,aP,aI,ac]
     exact aB hte
   .have hge:i=es.length:=by simp [hln] at h;omega
    have hb:=hB es.length
    rw [bi] at hb
    have ew:IntKind.i64.wrap (((T.depths es:Nat):Int)+1)=((T.depths es+1:Nat):Int):=by rw [dP (by omega) (by omega)];omega
    subst hge
    repeat' (first|(refine cC ?_;simp only [wS,simprocAttr,bi,ew])|refine aH|fail)
    refine aD rfl ?_
    simp only [wS,simprocAttr,T.depth]
theorem DW:∀ (N:Nat) (t:T),T.size t<=N->N<=1000000000000->Pure Tryz.prog G0 109 [.agg (T.enc t)] (.int .i64 (T.depth t:Nat)):=by
 intro N
 induction N with
 |zero=>intro t h;have:=T.size_pos t;omega
 |succ N ih=>
  intro t ht hN
  cases t with
  |mk k n m es=>
  have ih2:∀ e∈es,Pure Tryz.prog G0 109 [.agg (T.enc e)] (.int .i64 (T.depth e:Nat)):=fun e he=>ih e (by have:=T.size_mem he;simp only [T.size] at ht;omega) (by omega)
  have htr:=T.enc_tree (.mk k n m es)
  have hls:=T.len_sizes es
  simp only [T.size] at ht
  have hB:∀ j:Nat,T.depths (es.take j)<=N:=fun j=>dj (T.depths_take_le es j) (by omega)
  refine aL bX Tryz.func109 rfl (by kernel_rfl) (by simp [Tryz.ntmps109]) (by simp only [aP,aI,htr,ai]) rfl ?_
  simp only [Tryz.ntmps109,aK,Nat.reduceAdd,T.enc]
  have hgt:=fun (i:Nat) (e:T)=>T.encs_get (es:=es) (i:=i) (e:=e)
  have hln:=T.encs_len es
  have hte:=T.encs_tree es
  generalize T.encs es=EE at hgt hln hte
  refine aF
  refine aJ (α:={i:Nat // i<=es.length}) (fun i=>[(1,.ptr 0 0 0),(3,.int .i64 (T.depths (es.take i.1):Nat)),(4,.int .i64 (i.1:Nat))]) (fun i=>[.cells 0 [.int .i64 k,.int .i64 n,.int .i64 m,.sl false EE]]) (fun i=>es.length - i.1) ⟨0,az _⟩ (Weak.ref ⟨?_,.inl ?_⟩) ?_
  .simp only [wS,simprocAttr,hln,T.depths,ci];try exact rfl
  .exact aZ
  .rintro ⟨i,hi⟩ K2 hK2
   refine aF
   refine ⟨fun h=>?_,fun h=>?_⟩
   .have hlt:i<es.length:=by simpa [hln] using h
    have hltE:i<EE.length:=by omega
    obtain ⟨e,he⟩:∃ e,es[i]? =some e:=⟨_,ah hlt⟩
    have hg:=hgt i e he
    have hs:=T.depths_take he
    have hsl:=hB (i+1)
    have hsl0:=hB i
    have ke:=ih2 e (aj he)
    have e1:=aO (k:=i) hlt (by omega)
    have e2:(if ((T.depth e:Nat):Int) > ((T.depths (es.take i):Nat):Int) then ((T.depth e:Nat):Int) else ((T.depths (es.take i):Nat):Int))=((T.depths (es.take (i+1)):Nat):Int):=by
     rw [hs];split<;>omega
    obtain ⟨ek,en,em,ees,hee⟩:=aN e
    rw [hee] at hg ke
    repeat' (first|(refine cC ?_;simp only [wS,simprocAttr,hg,hltE,hlt])|refine aH|fail)
    refine bO bX ke ?_
    simp only [wS,simprocAttr,e2]
    refine aR (bF e1 e2)
    refine hK2.go ⟨i+1,hlt⟩ (Weak.ref ⟨?_,.inr ⟨az _,?_,fun g cs hg=>bE (bX g cs hg),?_,?_⟩⟩) (by simp only;omega)
    .exact aZ
    .exact aZ
    .intro z hz
     replace hz:=aC hz
     rcases hz with rfl|rfl|rfl<;>first|rfl|exact aB hte
    .simp only [bg,bz,ab,aG,aP,aI,ac]
     exact aB hte
   .have hge:i=es.length:=by simp [hln] at h;omega
    have hb:=hB es.length
    rw [bi] at hb
    have ew:IntKind.i64.wrap (((T.depths es:Nat):Int)+1)=((T.depths es+1:Nat):Int):=by rw [dP (by omega) (by omega)];omega
    subst hge
    repeat' (first|(refine cC ?_;simp only [wS,simprocAttr,bi,ew])|refine aH|fail)
    refine aD rfl ?_
    simp only [wS,simprocAttr,T.depth]
def sF (nm:ByteArray) (f p:T) (b:Int):List AV:=.str nm::(T.enc f++(T.enc p++[.int .i64 b]))
def LL (kn:List Bool):ARow:=.cells 0 (kn.map .bool)
def MB (ok:Bool):ARow:=.cells 0 [.bool ok]
def VQ:ARow:=.cells 0 [.fn (.func 92) [] [.ptr 2 0 0,.ptr 1 0 0]]
theorem jL (nm:ByteArray) (f p:T) (b:Int):aP aE (sF nm f p b)=true:=by
 cases f;cases p
 simp only [sF,T.enc,ar,ba,aP,aI,T.encs_tree,ai]
theorem UK (p:Nat->Bool) (kn:List Bool):aG p (LL kn)=true:=by
 simp only [LL,aG]
 induction kn with
 |nil=>rfl
 |cons b kn ih=>simp only [ay,aP,aI,ih,ai]
def BT:Nat->Bool:=fun r=>([0,1,2,3]:List Nat).contains r
structure VR (OC:List AV) (rows:Nat->ARow) (s:Bool × List Bool):Prop where
 r0:rows 0=.cells 0 OC
 r1:rows 1=LL s.2
 r2:rows 2=MB s.1
 r3:rows 3=VQ
theorem VR.get {OC:List AV} {rows:Nat->ARow} {s:Bool × List Bool} (h:VR OC rows s):∀ r∈([0,1,2,3]:List Nat),[ARow.cells 0 OC,LL s.2,MB s.1,VQ].getD r .none=rows r:=by
 intro r hr
 replace hr:=aC hr
 rcases hr with rfl|rfl|rfl|rfl
 .exact h.r0.symm
 .exact h.r1.symm
 .exact h.r2.symm
 .exact h.r3.symm
theorem VR.ins {OC:List AV} {rows:Nat->ARow} {s:Bool × List Bool} (ho:aP aE OC=true) (h:VR OC rows s):∀ r∈([0,1,2,3]:List Nat),aG BT (rows r)=true:=by
 intro r hr
 replace hr:=aC hr
 rcases hr with rfl|rfl|rfl|rfl
 .rw [h.r0];exact bE ho
 .rw [h.r1];exact UK _ _
 .rw [h.r2];rfl
 .rw [h.r3];rfl
def VC (OC:List AV) (f:FuncId) (args:List AV) (s s':Bool × List Bool):Prop:=∀ rows,VR OC rows s->c8 Tryz.prog G0 f args rows [0,1,2,3] ⟨.tup [],[(1,LL s'.2),(2,MB s'.1)]⟩
theorem GI {m:Nat} (hm:4<=m):∀ r,BT r=true->decide (r<m)=true:=fun r h=>by simp [BT] at h ⊢;omega
theorem nD {OC:List AV} {f:FuncId} {fn:Func} {c:Code} {args:List AV} {s s':Bool × List Bool} (ho:aP aE OC=true) (hf:Tryz.prog.funcs[f]? =some fn) (hb:fn.body=some c) (hgo:fR Tryz.prog f=true) (hn:args.length<=fn.ntmps) (hargs:aP BT args=true)
  (hbody:cG Tryz.prog G0 fn.ntmps 4 c (eR Tryz.prog fn fun v t=>v=.tup []/\VR OC t.row s') ⟨eJ (aK 0 args),[.cells 0 OC,LL s.2,MB s.1,VQ]⟩):VC OC f args s s':=by
 intro rows h
 refine bT [.cells 0 OC,LL s.2,MB s.1,VQ] bX hf hb hgo hn h.get ?_ (b7 (GI (by simp)) hargs) (fun r hr=>bJ (GI (by simp)) (h.ins ho r hr)) ?_ ?_ ?_
 .intro r hr
  match r,hr with
  |0,hr=>exact absurd (by simp) hr
  |1,hr=>exact absurd (by simp) hr
  |2,hr=>exact absurd (by simp) hr
  |3,hr=>exact absurd (by simp) hr
  |r+4,_=>simp
 .intro r hr h2
  replace hr:=aC hr
  simp only [af,ak] at h2
  omega
 .intro p hp
  simp at hp
  rcases hp with rfl|rfl<;>simp
 .refine jR hbody (mX fun v t=>?_)
  rintro ⟨rfl,g⟩
  refine ⟨.inl rfl,rfl,fun r hr=>⟨?_,g.ins ho r hr⟩⟩
  replace hr:=aC hr
  rcases hr with rfl|rfl|rfl|rfl
  .rw [g.r0];simp [upd,h.r0]
  .rw [g.r1];simp [upd]
  .rw [g.r2];simp [upd]
  .rw [g.r3];simp [upd,h.r3]
theorem aA0 {kn:List Bool} {i:Nat} (h:i<kn.length):(kn.map AV.bool).drop i=.bool (kn.getD i false)::(kn.map AV.bool).drop (i+1):=by
 rw [cg (by simpa using h)]
 simp [bc,ah h]
theorem aAZ {kn:List Bool} {i:Nat} (h:i<kn.length):List.take i (kn.map AV.bool)++[.bool true]++List.drop (i+1) (kn.map AV.bool)=(kn.set i true).map AV.bool:=by
 rw [List.map_set,List.set_eq_take_append_cons_drop,if_pos (by simpa using h)]
 simp
set_option maxHeartbeats 8000000 in
theorem ZM {OC:List AV} (ho:aP aE OC=true) (free put:Bool) (t:T) (s:Bool × List Bool) (hl:s.2.length=8):VC OC 92 [.agg (T.enc t),.bool free,.bool put,.ptr 2 0 0,.ptr 1 0 0] s (T.chk free put t.kind t.num t.low t.kids s):=by
 have htr:=T.enc_tree t
 obtain ⟨k,n,m,es⟩:=t
 obtain ⟨ok,kn⟩:=s
 simp only at hl
 refine nD ho Tryz.func92 rfl (by kernel_rfl) (by simp [Tryz.ntmps92]) (by simp only [aP,aI,bE htr,ai];rfl) ?_
 simp only [Tryz.ntmps92,aK,Nat.reduceAdd,T.enc,T.kind,T.num,T.low,T.kids,LL,MB]
 have hln:=T.encs_len es
 have hE:(es=[])↔(T.encs es).length=0:=by rw [hln,List.length_eq_zero_iff]
 generalize T.encs es=EE at hln hE
 rw [hln] at hE
 have b1:(!true)=false:=rfl
 have b2:(!false)=true:=rfl
 have fin:∀ (s:AS) (ok':Bool) (kn':List Bool),s.row 0=.cells 0 OC->s.row 1=.cells 0 (kn'.map .bool)->s.row 2=.cells 0 [.bool ok']->s.row 3=VQ->eR Tryz.prog Tryz.f92 (fun v t=>v=.tup []/\VR OC t.row (ok',kn')) .ret s:=fun s ok' kn' h0 h1 h2 h3=>RD rfl ⟨rfl,⟨h0,h1,h2,h3⟩⟩
 have fin2:∀ (s:AS) (ok':Bool) (kn':List Bool),s.row 0=.cells 0 OC->s.row 1=.cells 0 (kn'.map .bool)->s.row 2=.cells 0 [.bool ok']->s.row 3=VQ->eR Tryz.prog Tryz.f92 (fun v t=>v=.tup []/\VR OC t.row (ok',kn')) .normal s:=fun s ok' kn' h0 h1 h2 h3=>jC rfl ⟨rfl,⟨h0,h1,h2,h3⟩⟩
 by_cases hk:k=28
 .subst hk
  have e28:((28:Int)==28)=true:=rfl
  by_cases hg:(ok&&(free || !decide (n= -100)))=true
  .rw [ae] at hg
   obtain ⟨rfl,hf⟩:=hg
   rw [T.chk_hole hf]
   have hf':free=true\/(n != -100)=true:=by
    rw [eg] at hf
    rcases hf with h|h
    .exact .inl h
    .exact .inr (by simpa using h)
   by_cases hh:0<=n/\n<=7/\m=0/\es=[]
   .rw [if_pos hh]
    obtain ⟨h0,h1,rfl,hes⟩:=hh
    have d1:decide (n >= 0)=true:=decide_eq_true h0
    have d2:decide (n<=7)=true:=decide_eq_true h1
    have d4:(((EE.length:Nat):Int)==0)=true:=by rw [hln,hE.1 hes];rfl
    obtain ⟨i,rfl⟩:∃ i:Nat,n=i:=⟨n.toNat,(dc h0).symm⟩
    have hi:i<kn.length:=by omega
    have hi8:i<8:=by omega
    have hkg:=aA0 hi
    have hs:=aAZ hi
    have m0:((0:Int)==0)=true:=rfl
    have hml:(kn.map AV.bool).length=8:=by simpa using hl
    have hle:i+1<=8:=by omega
    have hn:True:=trivial
    rcases hf' with rfl|hn<;>cases put
    all_goals
     refine bB (S9 e28 b1 b2 d1 d2 d4 m0 hi8 hi hkg hs hml hle @Nat.mul_one @fy @ax hn)
    all_goals (first|refine fin _ _ _ ?_ ?_ ?_ ?_|refine fin2 _ _ _ ?_ ?_ ?_ ?_)<;>(simp only [wS,simprocAttr,ax,hs];try exact rfl)
   .rw [if_neg hh]
    have hn:True:=trivial
    have d2:True:=trivial
    have d3:True:=trivial
    have d4:True:=trivial
    have hs:True:=trivial
    have hc:n<0\/(0<=n/\7<n)\/(0<=n/\n<=7/\m≠0)\/(0<=n/\n<=7/\m=0/\es≠[]):=by
     by_cases h0:0<=n
     .by_cases h1:n<=7
      .by_cases h2:m=0
       .exact .inr (.inr (.inr ⟨h0,h1,h2,fun h=>hh ⟨h0,h1,h2,h⟩⟩))
       .exact .inr (.inr (.inl ⟨h0,h1,h2⟩))
      .exact .inr (.inl ⟨h0,by omega⟩)
     .exact .inl (by omega)
    rcases hc with h0|⟨h0,h1⟩|⟨h0,h1,h2⟩|⟨h0,h1,h2,h3⟩
    .have d1:decide (n >= 0)=false:=decide_eq_false (by omega)
     rcases hf' with rfl|hn
     all_goals
      refine bB (f7 e28 b1 b2 d1 d2 d3 d4 hn)
     all_goals (first|refine fin _ _ _ ?_ ?_ ?_ ?_|refine fin2 _ _ _ ?_ ?_ ?_ ?_)<;>(simp only [wS,simprocAttr,ax,hs];try exact rfl)
    .have d1:decide (n >= 0)=true:=decide_eq_true h0
     have d2:decide (n<=7)=false:=decide_eq_false (by omega)
     rcases hf' with rfl|hn
     all_goals
      refine bB (f7 e28 b1 b2 d1 d2 d3 d4 hn)
     all_goals (first|refine fin _ _ _ ?_ ?_ ?_ ?_|refine fin2 _ _ _ ?_ ?_ ?_ ?_)<;>(simp only [wS,simprocAttr,ax,hs];try exact rfl)
    .have d1:decide (n >= 0)=true:=decide_eq_true h0
     have d2:decide (n<=7)=true:=decide_eq_true h1
     have d3:(m==0)=false:=by simp [h2]
     rcases hf' with rfl|hn
     all_goals
      refine bB (f7 e28 b1 b2 d1 d2 d3 d4 hn)
     all_goals (first|refine fin _ _ _ ?_ ?_ ?_ ?_|refine fin2 _ _ _ ?_ ?_ ?_ ?_)<;>(simp only [wS,simprocAttr,ax,hs];try exact rfl)
    .have d1:decide (n >= 0)=true:=decide_eq_true h0
     have d2:decide (n<=7)=true:=decide_eq_true h1
     have d3:(m==0)=true:=by simp [h2]
     have d4:(((EE.length:Nat):Int)==0)=false:=by
      have:es.length≠0:=fun h=>h3 (hE.2 h)
      exact beq_false_of_ne (by omega)
     rcases hf' with rfl|hn
     all_goals
      refine bB (f7 e28 b1 b2 d1 d2 d3 d4 hn)
     all_goals (first|refine fin _ _ _ ?_ ?_ ?_ ?_|refine fin2 _ _ _ ?_ ?_ ?_ ?_)<;>(simp only [wS,simprocAttr,ax,hs];try exact rfl)
  .have hc:T.chk free put 28 n m es (ok,kn)=(false,kn):=by
    have hg':(ok&&(decide ((0:Int)<=28/\(28:Int)<=28)&&(free || !decide (n= -100))))=false:=by
     rw [show decide ((0:Int)<=28/\(28:Int)<=28)=true from rfl,ac]
     simpa using hg
    rw [T.chk,if_neg (fun h=>by rw [hg'] at h;cases h.2),hg']
   rw [hc]
   have hn:True:=trivial
   have hs:True:=trivial
   cases ok with
   |false=>
    refine bB (dV e28 b1 b2 hn)
    all_goals (first|refine fin _ _ _ ?_ ?_ ?_ ?_|refine fin2 _ _ _ ?_ ?_ ?_ ?_)<;>(simp only [wS,simprocAttr,ax,hs];try exact rfl)
   |true=>
    have hfr:free=false:=by cases free<;>simp at hg ⊢
    subst hfr
    have hn:(n != -100)=false:=by simpa using hg
    refine bB (dV e28 b1 b2 hn)
    all_goals (first|refine fin _ _ _ ?_ ?_ ?_ ?_|refine fin2 _ _ _ ?_ ?_ ?_ ?_)<;>(simp only [wS,simprocAttr,ax,hs];try exact rfl)
 .have e28:(k==28)=false:=by simp [hk]
  have hc:T.chk free put k n m es (ok,kn)=(ok&&(decide (0<=k/\k<=28)&&(free || !decide (n= -100))),kn):=by rw [T.chk,if_neg fun h=>hk h.1]
  rw [hc]
  obtain ⟨x,hx⟩:∃ x,x=(ok&&(decide (0<=k/\k<=28)&&(free || !decide (n= -100)))):=⟨_,rfl⟩
  rw [<- hx]
  have hs:True:=trivial
  have fin3:∀ y,y=x->ARow.cells 0 [.bool y]=.cells 0 [.bool x]:=fun y h=>by rw [h]
  refine bB (dV e28 b1 b2 hs)
  all_goals (first|refine fin _ _ _ ?_ ?_ ?_ ?_|refine fin2 _ _ _ ?_ ?_ ?_ ?_)<;>(simp only [wS,simprocAttr]<;>first|exact rfl|(refine fin3 _ ?_;rw [hx];by_cases hnn:n= -100<;>first|(simp_all;done)|(simp_all<;>omega)))
theorem pP {n:Nat} {d:Option Tmp} {rest:List nA} {m:Option eV} {s:AS} {K:Option eV->AS->Prop} {OC:List AV} {f:FuncId} {args:List AV} {q q':Bool × List Bool} (h:VC OC f args q q') (hr:VR OC s.row q)
  (hk:bG Tryz.prog G0 n K rest (lM m [0,1,2,3] [1,2]) ((s.wr [(1,LL q'.2),(2,MB q'.1)]).put d (.tup []))):bI Tryz.prog G0 n K d rest m s f args:=by
 unfold bI
 exact ⟨_,_,h s.row hr,hk⟩
theorem T.chk_len {free put:Bool} {k n m:Int} {es:List T} {s:Bool × List Bool} (h:s.2.length=8):(T.chk free put k n m es s).2.length=8:=by
 unfold T.chk
 split
 .split
  .simpa using h
  .exact h
 .exact h
mutual
theorem T.vis_len (fr:Bool->Bool) (put root:Bool):∀ (t:T) (s:Bool × List Bool),s.2.length=8->(T.vis fr put root t s).2.length=8
 | .mk k n m es,s,h=>by rw [T.vis];exact T.viss_len fr put es _ (T.chk_len h)
theorem T.viss_len (fr:Bool->Bool) (put:Bool):∀ (es:List T) (s:Bool × List Bool),s.2.length=8->(T.viss fr put es s).2.length=8
 | [],s,h=>h
 |e::es,s,h=>by rw [T.viss];exact T.viss_len fr put es _ (T.vis_len fr put false e s h)
end
theorem T.viss_take {fr:Bool->Bool} {put:Bool} {e:T}:∀ {es:List T} {i:Nat} {s:Bool × List Bool},es[i]? =some e->T.viss fr put (es.take (i+1)) s=T.vis fr put false e (T.viss fr put (es.take i) s)
 | [],_,_,h=>by simp at h
 |x::es,0,s,h=>by
  obtain rfl:x=e:=by simpa using h
  simp [T.viss]
 |x::es,i+1,s,h=>by
  have:=T.viss_take (fr:=fr) (put:=put) (e:=e) (es:=es) (i:=i) (s:=T.vis fr put false x s) (by simpa using h)
  simp only [di,T.viss,this]
theorem aA5 {OC:List AV} (ho:aP aE OC=true) (t:T) (root:Bool) (s:Bool × List Bool) (hl:s.2.length=8):VC OC 94 [.agg (T.enc t),.bool root,.ptr 3 0 0] s (T.chk root false t.kind t.num t.low t.kids s):=by
 have hc:=ZM ho root false t s hl
 have htr:=T.enc_tree t
 obtain ⟨a,b,c,e,hte⟩:=aN t
 rw [hte] at htr hc ⊢
 have hin:cQ aE e=true:=by simpa only [aP,aI,ac,ab] using htr
 generalize T.chk root false t.kind t.num t.low t.kids s=s' at hc
 refine nD ho Tryz.func94 rfl (by kernel_rfl) (by simp [Tryz.ntmps94]) (by simp only [aP,aI,aB hin,ai];rfl) ?_
 simp only [Tryz.ntmps94,aK,Nat.reduceAdd]
 repeat' (first|(refine cC ?_;simp only [wS,simprocAttr,VQ])|refine aH|fail)
 refine pP hc ⟨aZ,aZ,aZ,aZ⟩ ?_
 refine aA
 refine aF
 refine jC rfl ⟨rfl,⟨aZ,aZ,aZ,aZ⟩⟩
theorem aB8 {nm:ByteArray} {f p:T} {b:Int} (t:T) (root:Bool) (s:Bool × List Bool) (hl:s.2.length=8):VC (sF nm f p b) 95 [.agg (T.enc t),.bool root,.ptr 3 0 0,.ptr 0 0 0] s (T.chk (decide (f.num= -100)) true t.kind t.num t.low t.kids s):=by
 have ho:=jL nm f p b
 have hc:=ZM ho (decide (f.num= -100)) true t s hl
 have hf:(f.num== -100)=decide (f.num= -100):=by by_cases h:f.num= -100<;>simp [h]
 have htr:=T.enc_tree t
 obtain ⟨a,b',c,e,hte⟩:=aN t
 obtain ⟨fk,fn,fm,fs⟩:=f
 obtain ⟨pk,pn,pm,ps⟩:=p
 simp only [T.num] at hf hc
 rw [hte] at htr hc ⊢
 have hin:cQ aE e=true:=by simpa only [aP,aI,ac,ab] using htr
 generalize T.chk (decide (fn= -100)) true t.kind t.num t.low t.kids s=s' at hc ⊢
 refine nD ho Tryz.func95 rfl (by kernel_rfl) (by simp [Tryz.ntmps95]) (by simp only [aP,aI,aB hin,ai];rfl) ?_
 simp only [Tryz.ntmps95,aK,Nat.reduceAdd]
 repeat' (first|(refine cC ?_;simp only [wS,simprocAttr,VQ,sF,T.enc,ar,ba,hf])|refine aH|fail)
 refine pP hc ⟨aZ,aZ,aZ,aZ⟩ ?_
 refine aA
 refine aF
 refine jC rfl ⟨rfl,⟨aZ,aZ,aZ,aZ⟩⟩
end Go.Proofs.YtggflhbigolakaaGreatDoor
