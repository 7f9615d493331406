import Derived.Test.YtggflhbigolakaaGreatDoorT0
import Derived.Test.YtggflhbigolakaaGreatDoorVA
set_option linter.unusedVariables false
set_option linter.unusedSimpArgs false
namespace Go.Proofs.YtggflhbigolakaaGreatDoor
open Go.AM
attribute [local irreducible] AWp aY bC bI bU bW aN aS bL
set_option maxRecDepth 100000
theorem T.depths_app:∀ (a b:List T),T.depths (a++b)=max (T.depths a) (T.depths b)
 | [],b=>by simp [T.depths]
 |e::a,b=>by rw [List.cons_append,T.depths,T.depths,T.depths_app a b,Nat.max_assoc]
theorem T.depths_take {es:List T} {i:Nat} {e:T} (h:es[i]? =some e):T.depths (es.take (i+1))=max (T.depths (es.take i)) (T.depth e):=by
 rw [List.take_add_one,h,T.depths_app];simp [T.depths]
mutual
theorem T.depth_size:∀ t:T,T.depth t≤T.size t
 | .mk k n m es=>by
  have:=T.depths_sizes es
  rw [T.depth,T.size];omega
theorem T.depths_sizes:∀ es:List T,T.depths es≤T.sizes es
 | []=>Nat.le_refl _
 |e::es=>by
  have h1:=T.depth_size e
  have h2:=T.depths_sizes es
  rw [T.depths,T.sizes];omega
end
theorem T.depths_take_le (es:List T) (j:Nat):T.depths (es.take j)≤T.sizes es:=Nat.le_trans (T.depths_sizes _) (T.sizes_take_le es j)
theorem xH:∀ (N:Nat) (t:T),T.size t≤N→N≤1000000000000→Pure Tryz.prog G0 90 [.agg (T.enc t)] (.int .i64 (T.size t:Nat)):=by
 intro N
 induction N with
 |zero=>intro t h;have:=T.size_pos t;omega
 |succ N ih=>
  intro t ht hN
  cases t with
  |mk k n m es=>
  have ih2:∀ e∈es,Pure Tryz.prog G0 90 [.agg (T.enc e)] (.int .i64 (T.size e:Nat)):=fun e he=>ih e (by have:=T.size_mem he;simp only [T.size] at ht;omega) (by omega)
  have htr:=T.enc_tree (.mk k n m es)
  have hls:=T.len_sizes es
  simp only [T.size] at ht
  have hB:∀ j:Nat,T.sizes (es.take j)≤N:=fun j=>Nat.le_trans (T.sizes_take_le es j) (by omega)
  refine aQ hG0 Tryz.func90 rfl (by kernel_rfl) (by simp [Tryz.ntmps90]) (by simp only [inL,inR,htr,Bool.and_self]) rfl ?_
  simp only [Tryz.ntmps90,aH,Nat.reduceAdd,T.enc]
  have hgt:=fun (i:Nat) (e:T)=>T.encs_get (es:=es) (i:=i) (e:=e)
  have hln:=T.encs_len es
  have hte:=T.encs_tree es
  generalize T.encs es=EE at hgt hln hte
  repeat' (first|(refine u'S ?_;simp only [wS,simprocAttr])|refine u'Q fun _ _=>?_|refine aV ?_|refine aR (fun hg=>?_) fun hg=>?_|fail)
  refine aJ (α:={i:Nat // i≤es.length}) (fun i=>[(1,.ptr 0 0 0),(3,.int .i64 (1+T.sizes (es.take i.1):Nat)),(7,.sl false EE),(8,.int .i64 (es.length:Nat)),(9,.int .i64 (i.1:Nat))]) (fun i=>[.cells 0 [.int .i64 k,.int .i64 n,.int .i64 m,.sl false EE]]) (fun i=>es.length - i.1) ⟨0,Nat.zero_le _⟩ (Weak.ref ⟨?_,.inl ?_⟩) ?_
  ·simp only [wS,simprocAttr,hln,T.sizes,List.take_zero];try exact rfl
  ·exact u'p
  ·rintro ⟨i,hi⟩ K2 hK2
   repeat' (first|(refine u'S ?_;simp only [wS,simprocAttr])|refine u'Q fun _ _=>?_|refine aV ?_|refine aR (fun hg=>?_) fun hg=>?_|fail)
   refine ⟨fun h=>?_,fun h=>?_⟩
   ·have hlt:i<es.length:=by simpa [hln] using h
    have hltE:i<EE.length:=by omega
    obtain ⟨e,he⟩:∃ e,es[i]? =some e:=⟨_,List.getElem?_eq_getElem hlt⟩
    have hg:=hgt i e he
    have hs:=T.sizes_take he
    have hsl:=hB (i+1)
    have hsl0:=hB i
    have ke:=ih2 e (List.mem_of_getElem? he)
    have e1:=aL (k:=i) hlt (by omega)
    have e2:IntKind.i64.wrap (((1+T.sizes (es.take i):Nat):Int)+((T.size e:Nat):Int))=((1+T.sizes (es.take (i+1)):Nat):Int):=by rw [cB (by omega) (by omega)];omega
    obtain ⟨ek,en,em,ees,hee⟩:=aI e
    rw [hee] at hg ke
    repeat' (first|(refine u'S ?_;simp only [wS,simprocAttr,hg,hltE,hlt])|refine u'Q fun _ _=>?_|refine aV ?_|refine aR (fun hg=>?_) fun hg=>?_|fail)
    refine bH hG0 ke ?_
    simp only [wS,simprocAttr,e2]
    repeat' (first|(refine u'S ?_;simp only [wS,simprocAttr,e1,e2])|refine u'Q fun _ _=>?_|refine aV ?_|refine aR (fun hg=>?_) fun hg=>?_|fail)
    refine hK2.go ⟨i+1,hlt⟩ (Weak.ref ⟨?_,.inr ⟨Nat.zero_le _,?_,fun g cs hg=>aD (hG0 g cs hg),?_,?_⟩⟩) (by simp only;omega)
    ·exact u'p
    ·exact u'p
    ·intro z hz
     simp only [List.mem_cons,List.not_mem_nil,or_false] at hz
     rcases hz with rfl|rfl|rfl|rfl|rfl<;>first|rfl|exact aA hte
    ·simp only [List.all_cons,List.all_nil,Bool.and_true,aG,inL,inR,Bool.true_and]
     exact aA hte
   ·have hge:i=es.length:=by simp [hln] at h;omega
    repeat' (first|(refine u'S ?_;simp only [wS,simprocAttr])|refine u'Q fun _ _=>?_|refine aV ?_|refine aR (fun hg=>?_) fun hg=>?_|fail)
    refine aB rfl ?_
    simp only [wS,simprocAttr]
    rw [hge,List.take_length];simp only [T.size]
theorem vI:∀ (N:Nat) (t:T),T.size t≤N→N≤1000000000000→Pure Tryz.prog G0 91 [.agg (T.enc t)] (.int .i64 (T.depth t:Nat)):=by
 intro N
 induction N with
 |zero=>intro t h;have:=T.size_pos t;omega
 |succ N ih=>
  intro t ht hN
  cases t with
  |mk k n m es=>
  have ih2:∀ e∈es,Pure Tryz.prog G0 91 [.agg (T.enc e)] (.int .i64 (T.depth e:Nat)):=fun e he=>ih e (by have:=T.size_mem he;simp only [T.size] at ht;omega) (by omega)
  have htr:=T.enc_tree (.mk k n m es)
  have hls:=T.len_sizes es
  simp only [T.size] at ht
  have hB:∀ j:Nat,T.depths (es.take j)≤N:=fun j=>Nat.le_trans (T.depths_take_le es j) (by omega)
  refine aQ hG0 Tryz.func91 rfl (by kernel_rfl) (by simp [Tryz.ntmps91]) (by simp only [inL,inR,htr,Bool.and_self]) rfl ?_
  simp only [Tryz.ntmps91,aH,Nat.reduceAdd,T.enc]
  have hgt:=fun (i:Nat) (e:T)=>T.encs_get (es:=es) (i:=i) (e:=e)
  have hln:=T.encs_len es
  have hte:=T.encs_tree es
  generalize T.encs es=EE at hgt hln hte
  repeat' (first|(refine u'S ?_;simp only [wS,simprocAttr])|refine u'Q fun _ _=>?_|refine aV ?_|refine aR (fun hg=>?_) fun hg=>?_|fail)
  refine aJ (α:={i:Nat // i≤es.length}) (fun i=>[(1,.ptr 0 0 0),(3,.int .i64 (T.depths (es.take i.1):Nat)),(7,.sl false EE),(8,.int .i64 (es.length:Nat)),(9,.int .i64 (i.1:Nat))]) (fun i=>[.cells 0 [.int .i64 k,.int .i64 n,.int .i64 m,.sl false EE]]) (fun i=>es.length - i.1) ⟨0,Nat.zero_le _⟩ (Weak.ref ⟨?_,.inl ?_⟩) ?_
  ·simp only [wS,simprocAttr,hln,T.depths,List.take_zero];try exact rfl
  ·exact u'p
  ·rintro ⟨i,hi⟩ K2 hK2
   repeat' (first|(refine u'S ?_;simp only [wS,simprocAttr])|refine u'Q fun _ _=>?_|refine aV ?_|refine aR (fun hg=>?_) fun hg=>?_|fail)
   refine ⟨fun h=>?_,fun h=>?_⟩
   ·have hlt:i<es.length:=by simpa [hln] using h
    have hltE:i<EE.length:=by omega
    obtain ⟨e,he⟩:∃ e,es[i]? =some e:=⟨_,List.getElem?_eq_getElem hlt⟩
    have hg:=hgt i e he
    have hs:=T.depths_take he
    have hsl:=hB (i+1)
    have hsl0:=hB i
    have ke:=ih2 e (List.mem_of_getElem? he)
    have e1:=aL (k:=i) hlt (by omega)
    have e2:(if ((T.depth e:Nat):Int) > ((T.depths (es.take i):Nat):Int) then ((T.depth e:Nat):Int) else ((T.depths (es.take i):Nat):Int))=((T.depths (es.take (i+1)):Nat):Int):=by
     rw [hs];split<;>omega
    obtain ⟨ek,en,em,ees,hee⟩:=aI e
    rw [hee] at hg ke
    repeat' (first|(refine u'S ?_;simp only [wS,simprocAttr,hg,hltE,hlt])|refine u'Q fun _ _=>?_|refine aV ?_|refine aR (fun hg=>?_) fun hg=>?_|fail)
    refine bH hG0 ke ?_
    simp only [wS,simprocAttr,e2]
    repeat' (first|(refine u'S ?_;simp only [wS,simprocAttr,e1,e2])|refine u'Q fun _ _=>?_|refine aV ?_|refine aR (fun hg=>?_) fun hg=>?_|fail)
    refine hK2.go ⟨i+1,hlt⟩ (Weak.ref ⟨?_,.inr ⟨Nat.zero_le _,?_,fun g cs hg=>aD (hG0 g cs hg),?_,?_⟩⟩) (by simp only;omega)
    ·exact u'p
    ·exact u'p
    ·intro z hz
     simp only [List.mem_cons,List.not_mem_nil,or_false] at hz
     rcases hz with rfl|rfl|rfl|rfl|rfl<;>first|rfl|exact aA hte
    ·simp only [List.all_cons,List.all_nil,Bool.and_true,aG,inL,inR,Bool.true_and]
     exact aA hte
   ·have hge:i=es.length:=by simp [hln] at h;omega
    have hb:=hB es.length
    rw [List.take_length] at hb
    have ew:IntKind.i64.wrap (((T.depths es:Nat):Int)+1)=((T.depths es+1:Nat):Int):=by rw [cB (by omega) (by omega)];omega
    subst hge
    repeat' (first|(refine u'S ?_;simp only [wS,simprocAttr,List.take_length,ew])|refine u'Q fun _ _=>?_|refine aV ?_|refine aR (fun hg=>?_) fun hg=>?_|fail)
    refine aB rfl ?_
    simp only [wS,simprocAttr,T.depth]
theorem yZ:∀ (N:Nat) (t:T),T.size t≤N→N≤1000000000000→Pure Tryz.prog G0 109 [.agg (T.enc t)] (.int .i64 (T.depth t:Nat)):=by
 intro N
 induction N with
 |zero=>intro t h;have:=T.size_pos t;omega
 |succ N ih=>
  intro t ht hN
  cases t with
  |mk k n m es=>
  have ih2:∀ e∈es,Pure Tryz.prog G0 109 [.agg (T.enc e)] (.int .i64 (T.depth e:Nat)):=fun e he=>ih e (by have:=T.size_mem he;simp only [T.size] at ht;omega) (by omega)
  have htr:=T.enc_tree (.mk k n m es)
  have hls:=T.len_sizes es
  simp only [T.size] at ht
  have hB:∀ j:Nat,T.depths (es.take j)≤N:=fun j=>Nat.le_trans (T.depths_take_le es j) (by omega)
  refine aQ hG0 Tryz.func109 rfl (by kernel_rfl) (by simp [Tryz.ntmps109]) (by simp only [inL,inR,htr,Bool.and_self]) rfl ?_
  simp only [Tryz.ntmps109,aH,Nat.reduceAdd,T.enc]
  have hgt:=fun (i:Nat) (e:T)=>T.encs_get (es:=es) (i:=i) (e:=e)
  have hln:=T.encs_len es
  have hte:=T.encs_tree es
  generalize T.encs es=EE at hgt hln hte
  repeat' (first|(refine u'S ?_;simp only [wS,simprocAttr])|refine u'Q fun _ _=>?_|refine aV ?_|refine aR (fun hg=>?_) fun hg=>?_|fail)
  refine aJ (α:={i:Nat // i≤es.length}) (fun i=>[(1,.ptr 0 0 0),(3,.int .i64 (T.depths (es.take i.1):Nat)),(4,.int .i64 (i.1:Nat))]) (fun i=>[.cells 0 [.int .i64 k,.int .i64 n,.int .i64 m,.sl false EE]]) (fun i=>es.length - i.1) ⟨0,Nat.zero_le _⟩ (Weak.ref ⟨?_,.inl ?_⟩) ?_
  ·simp only [wS,simprocAttr,hln,T.depths,List.take_zero];try exact rfl
  ·exact u'p
  ·rintro ⟨i,hi⟩ K2 hK2
   repeat' (first|(refine u'S ?_;simp only [wS,simprocAttr])|refine u'Q fun _ _=>?_|refine aV ?_|refine aR (fun hg=>?_) fun hg=>?_|fail)
   refine ⟨fun h=>?_,fun h=>?_⟩
   ·have hlt:i<es.length:=by simpa [hln] using h
    have hltE:i<EE.length:=by omega
    obtain ⟨e,he⟩:∃ e,es[i]? =some e:=⟨_,List.getElem?_eq_getElem hlt⟩
    have hg:=hgt i e he
    have hs:=T.depths_take he
    have hsl:=hB (i+1)
    have hsl0:=hB i
    have ke:=ih2 e (List.mem_of_getElem? he)
    have e1:=aL (k:=i) hlt (by omega)
    have e2:(if ((T.depth e:Nat):Int) > ((T.depths (es.take i):Nat):Int) then ((T.depth e:Nat):Int) else ((T.depths (es.take i):Nat):Int))=((T.depths (es.take (i+1)):Nat):Int):=by
     rw [hs];split<;>omega
    obtain ⟨ek,en,em,ees,hee⟩:=aI e
    rw [hee] at hg ke
    repeat' (first|(refine u'S ?_;simp only [wS,simprocAttr,hg,hltE,hlt])|refine u'Q fun _ _=>?_|refine aV ?_|refine aR (fun hg=>?_) fun hg=>?_|fail)
    refine bH hG0 ke ?_
    simp only [wS,simprocAttr,e2]
    repeat' (first|(refine u'S ?_;simp only [wS,simprocAttr,e1,e2])|refine u'Q fun _ _=>?_|refine aV ?_|refine aR (fun hg=>?_) fun hg=>?_|fail)
    refine hK2.go ⟨i+1,hlt⟩ (Weak.ref ⟨?_,.inr ⟨Nat.zero_le _,?_,fun g cs hg=>aD (hG0 g cs hg),?_,?_⟩⟩) (by simp only;omega)
    ·exact u'p
    ·exact u'p
    ·intro z hz
     simp only [List.mem_cons,List.not_mem_nil,or_false] at hz
     rcases hz with rfl|rfl|rfl<;>first|rfl|exact aA hte
    ·simp only [List.all_cons,List.all_nil,Bool.and_true,aG,inL,inR,Bool.true_and]
     exact aA hte
   ·have hge:i=es.length:=by simp [hln] at h;omega
    have hb:=hB es.length
    rw [List.take_length] at hb
    have ew:IntKind.i64.wrap (((T.depths es:Nat):Int)+1)=((T.depths es+1:Nat):Int):=by rw [cB (by omega) (by omega)];omega
    subst hge
    repeat' (first|(refine u'S ?_;simp only [wS,simprocAttr,List.take_length,ew])|refine u'Q fun _ _=>?_|refine aV ?_|refine aR (fun hg=>?_) fun hg=>?_|fail)
    refine aB rfl ?_
    simp only [wS,simprocAttr,T.depth]
set_option maxHeartbeats 8000000 in
theorem QA (t:T):Pure Tryz.prog G0 127 [.agg (T.enc t)] (.bool (T.hole t)):=by
 have htr:=T.enc_tree t
 obtain ⟨V,hV⟩:∃ V,V=T.hole t:=⟨_,rfl⟩
 rw [← hV]
 obtain ⟨k,n,m,es⟩:=t
 simp only [T.hole,T.kind,T.num,T.low,T.kids] at hV
 have hE:es.isEmpty=decide (es.length=0):=by cases es<;>rfl
 rw [hE] at hV
 refine aQ hG0 Tryz.func127 rfl (by kernel_rfl) (by simp [Tryz.ntmps127]) (by simp only [inL,inR,htr,Bool.and_self]) rfl ?_
 simp only [Tryz.ntmps127,aH,Nat.reduceAdd,T.enc]
 have hln:=T.encs_len es
 generalize T.encs es=EE at hln
 repeat' (first|(refine u'S ?_;simp only [wS,simprocAttr,Bool.not_true,Bool.not_false])|refine u'Q fun _ _=>?_|refine aO ?_|refine aP (fun hg=>?_) fun hg=>?_|fail)
 all_goals (refine aB rfl ?_;simp only [wS,simprocAttr];refine congrArg AV.bool ?_;rw [hV];by_cases h1:k=28<;>by_cases h2:0≤n<;>by_cases h5:n≤7<;>by_cases h3:m=0<;>by_cases h4:es.length=0<;>first|(simp_all;done)|(simp_all<;>omega))
namespace T
theorem fines_all (r:Bool):∀ es:List T,gK r es=es.all (fine r r)
 | []=>rfl
 |e::es=>by rw [gK,fines_all r es,List.all_cons]
end T
set_option maxHeartbeats 8000000 in
theorem LG : ∀ (N : Nat) (root rest : Bool) (t : T), T.size t ≤ N → N ≤ 1000000000000 → Pure Tryz.prog G0 110 [.agg (T.enc t), .bool root, .bool rest] (.bool (T.fine root rest t)) := by
 intro N
 induction N with
 |zero=>intro _ _ t h;have:=T.size_pos t;omega
 | succ N ih =>
  intro root rest t ht hN
  have kh:=QA t
  have htr:=T.enc_tree t
  obtain ⟨k,n,m,es⟩:=t
  have ih2:∀ e∈es,Pure Tryz.prog G0 110 [.agg (T.enc e),.bool rest,.bool rest] (.bool (T.fine rest rest e)):=fun e he=>ih rest rest e (by have:=T.size_mem he;simp only [T.size] at ht;omega) (by omega)
  have hls:=T.len_sizes es
  simp only [T.size] at ht
  obtain ⟨V,hV⟩:∃ V,V=T.fine root rest (.mk k n m es):=⟨_,rfl⟩
  rw [← hV]
  rw [T.fine,T.fines_all] at hV
  generalize T.hole (.mk k n m es)=hl at kh hV
  have ho:hl=hl:=rfl
  refine aQ hG0 Tryz.func110 rfl (by kernel_rfl) (by simp [Tryz.ntmps110]) (by simp only [inL,inR,htr,Bool.and_self]) rfl ?_
  simp only [Tryz.ntmps110,aH,Nat.reduceAdd]
  simp only [T.enc] at kh ⊢
  have hgt:=fun (i:Nat) (e:T)=>T.encs_get (es:=es) (i:=i) (e:=e)
  have hln:=T.encs_len es
  have hte:=T.encs_tree es
  generalize T.encs es=EE at hgt hln hte kh
  repeat' (first|(refine u'S ?_;simp only [wS,simprocAttr,Bool.not_true,Bool.not_false])|refine u'Q fun _ _=>?_|refine aO ?_|refine aP (fun hg=>?_) fun hg=>?_|refine u'G ?_|fail)
  all_goals first
   |(refine aB rfl ?_;simp only [wS,simprocAttr];refine congrArg AV.bool ?_;rw [hV];by_cases hkk:k=28<;>by_cases hk0:0≤k<;>by_cases hk1:k≤28<;>by_cases hnn:n= -100<;>first|(simp_all;done)|(simp_all<;>omega))
   | (have hV2 : V = es.all (T.fine rest rest) := by
       rw [hV];by_cases hkk:k=28<;>by_cases hk0:0≤k<;>by_cases hk1:k≤28<;>by_cases hnn:n= -100<;>first|(simp_all;done)|(simp_all<;>omega)
      clear hV kh
      refine aJ (α:={i:Nat // i≤es.length∧∀ e∈es.take i,T.fine rest rest e=true}) (fun i=>[(2,.bool rest),(3,.ptr 0 0 0),(7,.int .i64 (i.1:Nat))]) (fun i=>[.cells 0 [.int .i64 k,.int .i64 n,.int .i64 m,.sl false EE]]) (fun i=>es.length - i.1) ⟨0,Nat.zero_le _,by simp⟩ (Weak.ref ⟨?_,.inl ?_⟩) ?_
      ·exact u'p
      ·exact u'p
      ·rintro ⟨i,hi,hall⟩ K1 hK1
       by_cases hlt:i<es.length
       ·have hd:decide ((i:Int)<((EE.length:Nat):Int))=true:=by simp;omega
        have hlt':i<EE.length:=by omega
        obtain ⟨e,he⟩:∃ e,es[i]? =some e:=⟨_,List.getElem?_eq_getElem hlt⟩
        have hg1:=hgt i e he
        have ke:=ih2 e (List.mem_of_getElem? he)
        have e1:=aL (k:=i) hlt (by omega)
        have hee:=List.mem_of_getElem? he
        generalize hfe:T.fine rest rest e=fe at ke
        obtain ⟨ek,en,em,ees,hen⟩:=aI e
        rw [hen] at hg1 ke
        cases fe
        ·have hf2:V=false:=by rw [hV2];exact List.all_eq_false.2 ⟨e,hee,by rw [hfe];simp⟩
         repeat' (first|(refine u'S ?_;simp only [wS,simprocAttr,hg1,hlt',hd,e1,Bool.not_true,Bool.not_false])|refine u'Q fun _ _=>?_|refine aO ?_|refine aP (fun hg=>?_) fun hg=>?_|refine u'G ?_|fail)
         refine aB rfl ?_
         simp only [wS,simprocAttr];exact congrArg AV.bool hf2.symm
        ·repeat' (first|(refine u'S ?_;simp only [wS,simprocAttr,hg1,hlt',hd,e1,Bool.not_true,Bool.not_false])|refine u'Q fun _ _=>?_|refine aO ?_|refine aP (fun hg=>?_) fun hg=>?_|refine u'G ?_|fail)
         refine hK1.go ⟨i+1,hlt,fun x hx=>by rw [List.take_add_one,he] at hx;rcases List.mem_append.1 hx with h|h;exact hall x h;obtain rfl:x=e:=(by simpa using h);exact hfe⟩ (Weak.ref ⟨?_,.inr ⟨Nat.zero_le _,?_,fun g cs hg=>aD (hG0 g cs hg),?_,?_⟩⟩) (by simp only;omega)
         ·exact u'p
         ·exact u'p
         ·intro z hz
          simp only [List.mem_cons,List.not_mem_nil,or_false] at hz
          rcases hz with rfl|rfl|rfl<;>rfl
         ·simp only [List.all_cons,List.all_nil,Bool.and_true,aG,inL,inR,aA hte,Bool.and_self]
       ·have hd:decide ((i:Int)<((EE.length:Nat):Int))=false:=by simp;omega
        obtain rfl:i=es.length:=by omega
        rw [List.take_length] at hall
        have hf2:V=true:=by rw [hV2];exact List.all_eq_true.2 hall
        repeat' (first|(refine u'S ?_;simp only [wS,simprocAttr,hd])|refine u'Q fun _ _=>?_|refine aV ?_|refine aR (fun hg=>?_) fun hg=>?_|fail)
        refine aB rfl ?_
        simp only [wS,simprocAttr];exact congrArg AV.bool hf2.symm)
set_option maxHeartbeats 8000000 in
theorem S2 (l:List Int) (b:Bool) (x:Int) (hl:l.length≤1000000000000):Pure Tryz.prog G0 111 [.sl b (l.map fun z=>[AV.int .i64 z]),.int .i64 x] (.bool (l.contains x)):=by
 have hE:∀ (i:Nat) (z:Int),l[i]? =some z→(l.map fun z=>[AV.int .i64 z])[i]? =some [.int .i64 z]:=fun i z h=>by rw [List.getElem?_map,h];rfl
 have hln:(l.map fun z=>[AV.int .i64 z]).length=l.length:=List.length_map ..
 have hte:inE aC (l.map fun z=>[AV.int .i64 z])=true:=by
  clear hE hln hl
  induction l with
  |nil=>rfl
  |cons z l ih=>simp only [List.map_cons,inE,inL,inR,ih,Bool.and_self]
 generalize (l.map fun z=>[AV.int .i64 z])=EE at hE hln hte
 refine aQ hG0 Tryz.func111 rfl (by kernel_rfl) (by simp [Tryz.ntmps111]) (by simp only [inL,inR,hte,Bool.and_self]) rfl ?_
 simp only [Tryz.ntmps111,aH,Nat.reduceAdd]
 repeat' (first|(refine u'S ?_;simp only [wS,simprocAttr])|refine u'Q fun _ _=>?_|refine aV ?_|refine aR (fun hg=>?_) fun hg=>?_|fail)
 refine aJ (α:={i:Nat // i≤l.length∧(l.take i).contains x=false}) (fun i=>[(0,.sl b EE),(1,.int .i64 x),(5,.int .i64 (i.1:Nat))]) (fun i=>[]) (fun i=>l.length - i.1) ⟨0,Nat.zero_le _,by simp⟩ (Weak.ref ⟨?_,.inl ?_⟩) ?_
 ·exact u'p
 ·exact u'p
 ·rintro ⟨i,hi,hno⟩ K1 hK1
  by_cases hlt:i<l.length
  ·have hd:decide ((i:Int)<((EE.length:Nat):Int))=true:=by simp;omega
   have hlt':i<EE.length:=by omega
   obtain ⟨z,hz⟩:∃ z,l[i]? =some z:=⟨_,List.getElem?_eq_getElem hlt⟩
   have hg1:=hE i z hz
   have e1:=aL (k:=i) hlt (by omega)
   by_cases hx:z=x
   ·have dx:(z==x)=true:=by simp [hx]
    repeat' (first|(refine u'S ?_;simp only [wS,simprocAttr,hg1,hlt',hd,dx])|refine u'Q fun _ _=>?_|refine aV ?_|refine aR (fun hg=>?_) fun hg=>?_|fail)
    refine aB rfl ?_
    simp only [wS,simprocAttr];refine congrArg AV.bool ?_
    have:=List.mem_of_getElem? hz
    rw [hx] at this
    simpa using this
   ·have dx:(z==x)=false:=by simp [hx]
    repeat' (first|(refine u'S ?_;simp only [wS,simprocAttr,hg1,hlt',hd,dx,e1])|refine u'Q fun _ _=>?_|refine aV ?_|refine aR (fun hg=>?_) fun hg=>?_|fail)
    refine hK1.go ⟨i+1,hlt,by rw [List.take_add_one,hz];simp only [Option.toList_some,List.contains_eq_any_beq,List.any_append] at hno ⊢;rw [hno];simpa using fun h=>hx h.symm⟩ (Weak.ref ⟨?_,.inr ⟨Nat.zero_le _,?_,fun g cs hg=>aD (hG0 g cs hg),?_,?_⟩⟩) (by simp only;omega)
    ·exact u'p
    ·exact u'p
    ·intro z hz
     simp only [List.mem_cons,List.not_mem_nil,or_false] at hz
     rcases hz with rfl|rfl|rfl<;>first|rfl|(simp only [inR];exact aA hte)
    ·rfl
  ·have hd:decide ((i:Int)<((EE.length:Nat):Int))=false:=by simp;omega
   obtain rfl:i=l.length:=by omega
   rw [List.take_length] at hno
   repeat' (first|(refine u'S ?_;simp only [wS,simprocAttr,hd])|refine u'Q fun _ _=>?_|refine aV ?_|refine aR (fun hg=>?_) fun hg=>?_|fail)
   refine aB rfl ?_
   simp only [wS,simprocAttr];exact congrArg AV.bool hno.symm
def nE (l:List Int):List (List AV):=l.map fun z=>[AV.int .i64 z]
theorem AG (l:List Int):(nE l).length=l.length:=List.length_map ..
theorem KO (l:List Int):∀ e∈nE l,e.length=1:=fun e he=>by
 obtain ⟨p,_,rfl⟩:=List.mem_map.1 he
 rfl
theorem PX (l m:List Int):nE l++nE m=nE (l++m):=(List.map_append ..).symm
theorem kH (l:List Int):inE aC (nE l)=true:=by
 induction l with
 |nil=>rfl
 |cons z l ih=>
  rw [nE] at ih
  simp only [nE,List.map_cons,inE,inL,inR,ih,Bool.and_self]
theorem PY (l:List Int):(nE l).all (fun e=>decide (e.length=1))=true:=List.all_eq_true.2 fun e he=>by simpa using KO l e he
theorem RQ (l:List Int) (b:Bool):AM.wk (.sl b (nE l))=.sl false (nE l):=by
 have:∀ l:List Int,(nE l).map wkL=nE l:=fun l=>by
  induction l with
  |nil=>rfl
  |cons z l ih=>rw [nE] at ih ⊢;simp only [List.map_cons,ih];rfl
 simp only [AM.wk,dI,this]
namespace T
mutual
theorem nums_len:∀ t:T,(nums t).length≤size t
 |mk k n m es=>by
  have:=numss_len es
  rw [nums,size]
  split
  ·split<;>simp
  ·omega
theorem numss_len:∀ es:List T,(numss es).length≤sizes es
 | []=>by simp [numss]
 |e::es=>by
  have:=nums_len e
  have:=numss_len es
  rw [numss,sizes,List.length_append]
  omega
end
theorem numss_take {e:T}:∀ {es:List T} {i:Nat},es[i]? =some e→numss (es.take (i+1))=numss (es.take i)++nums e
 | [],_,h=>by simp at h
 |x::es,0,h=>by
  obtain rfl:x=e:=by simpa using h
  simp [numss]
 |x::es,i+1,h=>by
  have:=numss_take (e:=e) (es:=es) (i:=i) (by simpa using h)
  simp only [List.take_succ_cons,numss,this,List.append_assoc]
end T
set_option maxHeartbeats 8000000 in
theorem nD:∀ (N:Nat) (t:T),T.size t≤N→N≤1000000000000→Pure Tryz.prog G0 106 [.agg (T.enc t)] (.sl false (nE (T.nums t))):=by
 intro N
 induction N with
 |zero=>intro t h;have:=T.size_pos t;omega
 |succ N ih=>
  intro t ht hN
  have htr:=T.enc_tree t
  obtain ⟨k,n,m,es⟩:=t
  have ih2:∀ e∈es,Pure Tryz.prog G0 106 [.agg (T.enc e)] (.sl false (nE (T.nums e))):=fun e he=>ih e (by have:=T.size_mem he;simp only [T.size] at ht;omega) (by omega)
  have hls:=T.len_sizes es
  simp only [T.size] at ht
  obtain ⟨L,hL⟩:∃ L,L=T.nums (.mk k n m es):=⟨_,rfl⟩
  rw [← hL]
  rw [T.nums] at hL
  have hwk:=RQ L
  refine aU hG0 Tryz.func106 rfl (by kernel_rfl) (by simp [Tryz.ntmps106]) (by simp only [inL,inR,htr,Bool.and_self]) (by simp only [inR];exact kH _) ?_
  simp only [Tryz.ntmps106,aH,Nat.reduceAdd,T.enc]
  have hgt:=fun (i:Nat) (e:T)=>T.encs_get (es:=es) (i:=i) (e:=e)
  have hln:=T.encs_len es
  have hte:=T.encs_tree es
  generalize T.encs es=EE at hgt hln hte
  by_cases hk:k=28
  ·have dk:(k==28)=true:=by simp [hk]
   rw [if_pos hk] at hL
   repeat' (first|(refine u'S ?_;simp only [wS,simprocAttr,dk,Bool.not_true,Bool.not_false])|refine u'Q fun _ _=>?_|refine aO ?_|refine aP (fun hg=>?_) fun hg=>?_|fail)
   all_goals (refine aB rfl ?_;simp only [wS,simprocAttr];rw [hL];by_cases h1:0≤n<;>by_cases h2:n≤7<;>first|(simp_all;done)|(simp_all [nE];first|done|rfl|omega))
  ·have dk:(k==28)=false:=by simp [hk]
   rw [if_neg hk] at hL
   repeat' (first|(refine u'S ?_;simp only [wS,simprocAttr,dk])|refine u'Q fun _ _=>?_|refine aV ?_|refine aR (fun hg=>?_) fun hg=>?_|fail)
   refine aJ (α:={p:Nat × Nat // p.1≤es.length}) (fun p=>[(1,.ptr 0 0 0),(3,rv 1 p.1.2 1 (nE (T.numss (es.take p.1.1)))),(4,.int .i64 (p.1.1:Nat))]) (fun p=>[.cells 0 [.int .i64 k,.int .i64 n,.int .i64 m,.sl false EE],rvR p.1.2 (nE (T.numss (es.take p.1.1)))]) (fun p=>es.length - p.1.1) ⟨(0,0),Nat.zero_le _⟩ (bN [] (kp [0,1]) hG0 (fun r hr=>absurd hr (Nat.not_lt_zero r)) ?_ ?_ ?_) ?_
   ·simp only [wS,simprocAttr,cS,Frz,true_or,true_and,and_true,List.take_zero,T.numss,nE,List.map_nil,dS]
    exact .toRsv
   ·simp only [List.take_zero,T.numss,nE,List.map_nil,dS];rfl
   ·simp only [wS,simprocAttr,List.take_zero,T.numss,nE,List.map_nil,dM]
    simp only [ToH,and_true]
    exact .inr ⟨rfl,by simp only [aG,inL,inR,aA hte,Bool.and_self],.inr ⟨.inl (by simp),.inl rfl⟩⟩
   ·rintro ⟨⟨i,v⟩,hi⟩ K3 hK3
    simp only at hi
    have hst:=T.sizes_take_le es i
    have hpl:=T.numss_len (es.take i)
    obtain ⟨app,happ⟩:∃ x,x=T.numss (es.take i):=⟨_,rfl⟩
    rw [← happ] at hpl
    have happ':=happ.symm
    simp only [happ']
    by_cases hlt:i<es.length
    ·have hd:decide ((i:Int)<((EE.length:Nat):Int))=true:=by simp;omega
     have hltE:i<EE.length:=by omega
     obtain ⟨e,he⟩:∃ e,es[i]? =some e:=⟨_,List.getElem?_eq_getElem hlt⟩
     have hg:=hgt i e he
     have ke:=ih2 e (List.mem_of_getElem? he)
     have hst2:=T.sizes_take he
     have hsl:=T.sizes_take_le es (i+1)
     have hsz:=T.nums_len e
     have hpt:=T.numss_take he
     rw [← happ] at hpt
     have e3:=aL (k:=i) hlt (by omega)
     obtain ⟨ek,en,em,ees,hee⟩:=aI e
     rw [hee] at hg ke
     generalize T.nums e=B at ke hpt hsz
     have hal:=KO app
     have hel:=AG app
     have hbl:=AG B
     repeat' (first|(refine u'S ?_;simp only [wS,simprocAttr,hg,hltE,hd])|refine u'Q fun _ _=>?_|refine aV ?_|refine aR (fun hg=>?_) fun hg=>?_|fail)
     refine bH hG0 ke ?_
     simp only [wS,simprocAttr]
     refine NR (by':=8) (es:=nE B) (by kernel_rfl) u'q u'q (by simp only [wS,simprocAttr];try simp) hal (lR (PY B)) (by rw [hel,hbl];omega) ?_
     rw [PX]
     simp only [wS,simprocAttr]
     repeat' (first|(refine u'S ?_;simp only [wS,simprocAttr,e3])|refine u'Q fun _ _=>?_|refine aV ?_|refine aR (fun hg=>?_) fun hg=>?_|fail)
     refine hK3.go ⟨(i+1,rvN v (nE app)),hlt⟩ (Weak.ref ⟨?_,.inr ⟨Nat.zero_le _,?_,fun g cs hg=>aD (hG0 g cs hg),?_,?_⟩⟩) (by simp only;omega)
     ·simp only [wS,simprocAttr,hpt];try exact rfl
     ·simp only [wS,simprocAttr,hpt];try exact rfl
     ·simp only [List.mem_cons,List.not_mem_nil,or_false,forall_eq_or_imp,forall_eq,inR]
      exact ⟨rfl,cH rfl,trivial⟩
     ·simp only [List.all_cons,List.all_nil,Bool.and_true,Bool.and_eq_true]
      exact ⟨by simp only [aG,inL,inR,aA hte,Bool.and_self],bQ (aA (kH _))⟩
    ·have hd:decide ((i:Int)<((EE.length:Nat):Int))=false:=by simp;omega
     obtain rfl:i=es.length:=by omega
     rw [List.take_length,← hL] at happ
     subst happ
     repeat' (first|(refine u'S ?_;simp only [wS,simprocAttr])|refine u'Q fun _ _=>?_|refine aV ?_|refine aR (fun hg=>?_) fun hg=>?_|fail)
     refine ⟨fun h=>absurd h (by rw [hd];simp),fun _=>?_⟩
     repeat' (first|(refine u'S ?_;simp only [wS,simprocAttr])|refine u'Q fun _ _=>?_|refine lM ?_|refine aR (fun hg=>?_) fun hg=>?_|fail)
     refine Cont.go (by assumption) (eH (bN [1] (kp []) (l:=[(3,.sl false (nE app))]) (h:=[]) hG0 (fun r hr=>absurd hr (Nat.not_lt_zero r)) ?_ ?_ ?_) ?_)
     ·simp only [wS,simprocAttr,cS]
      exact .inr (fB (v:=v) rfl (by simp) (KO app) (kH app))
     ·simp only [List.all_cons,List.all_nil,Bool.and_true,inR];exact aA (kH app)
     ·simp only [wS,simprocAttr];simp only [ToH,and_true];first|exact ⟨rfl,rfl⟩|rfl
     repeat' (first|(refine u'S ?_;simp only [wS,simprocAttr])|refine u'Q fun _ _=>?_|refine aV ?_|refine aR (fun hg=>?_) fun hg=>?_|fail)
     refine aB rfl ?_
     simp only [wS,simprocAttr]
     exact hwk false
end Go.Proofs.YtggflhbigolakaaGreatDoor
