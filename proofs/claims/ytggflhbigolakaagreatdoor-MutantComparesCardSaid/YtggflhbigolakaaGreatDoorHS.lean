import Derived.Test.YtggflhbigolakaaGreatDoorT0
set_option linter.unusedVariables false
set_option linter.unusedSimpArgs false
namespace Go.Proofs.YtggflhbigolakaaGreatDoor
open Go.AM
attribute [local irreducible] AWp aY bC bI bU bW aN aS bL
set_option maxRecDepth 100000
theorem CP:∀ (N:Nat) (t:T),T.size t≤N→N≤1000000000000→Pure Tryz.prog G0 108 [.agg (T.enc t)] (.int .i64 (T.size t:Nat)):=by
 intro N
 induction N with
 |zero=>intro t h;have:=T.size_pos t;omega
 |succ N ih=>
  intro t ht hN
  cases t with
  |mk k n m es=>
  have ih2:∀ e∈es,Pure Tryz.prog G0 108 [.agg (T.enc e)] (.int .i64 (T.size e:Nat)):=fun e he=>ih e (by have:=T.size_mem he;simp only [T.size] at ht;omega) (by omega)
  have htr:=T.enc_tree (.mk k n m es)
  have hls:=T.len_sizes es
  simp only [T.size] at ht
  refine aQ hG0 Tryz.func108 rfl (by kernel_rfl) (by simp [Tryz.ntmps108]) (by simp only [inL,inR,htr,Bool.and_self]) rfl ?_
  simp only [Tryz.ntmps108,aH,Nat.reduceAdd,T.enc]
  have hgt:=fun (i:Nat) (e:T)=>T.encs_get (es:=es) (i:=i) (e:=e)
  have hln:=T.encs_len es
  have hte:=T.encs_tree es
  generalize T.encs es=EE at hgt hln hte
  repeat' (first|(refine u'S ?_;simp only [wS,simprocAttr])|refine u'Q fun _ _=>?_|refine aV ?_|refine aR (fun hg=>?_) fun hg=>?_|fail)
  refine aJ (α:={i:Nat // i≤es.length}) (fun i=>[(1,.ptr 0 0 0),(3,.int .i64 ((1+T.sizes (es.take i.1):Nat))),(4,.int .i64 (i.1:Nat))]) (fun i=>[.cells 0 [.int .i64 k,.int .i64 n,.int .i64 m,.sl false EE]]) (fun i=>es.length - i.1) ⟨0,Nat.zero_le _⟩ (Weak.ref ⟨?_,.inl ?_⟩) ?_
  ·simp only [wS,simprocAttr,hln,T.sizes,List.take_zero];try exact rfl
  ·exact u'p
  ·rintro ⟨i,hi⟩ K2 hK2
   repeat' (first|(refine u'S ?_;simp only [wS,simprocAttr])|refine u'Q fun _ _=>?_|refine aV ?_|refine aR (fun hg=>?_) fun hg=>?_|fail)
   refine ⟨fun h=>?_,fun h=>?_⟩
   ·have hlt:i<es.length:=by simpa [hln] using h
    have hltE:i<EE.length:=by omega
    obtain ⟨e,he⟩:∃ e,es[i]? =some e:=⟨_,List.getElem?_eq_getElem hlt⟩
    have hg:=hgt i e he
    have hs:=T.sizes_take he
    have hsl:=T.sizes_take_le es (i+1)
    have ke:=ih2 e (List.mem_of_getElem? he)
    have e1:=aL (k:=i) hlt (by omega)
    have e2:IntKind.i64.wrap (((1+T.sizes (es.take i):Nat):Int)+((T.size e:Nat):Int))=((1+T.sizes (es.take (i+1)):Nat):Int):=by rw [cB (by omega) (by omega)];omega
    obtain ⟨ek,en,em,ees,hee⟩:=aI e
    rw [hee] at hg ke
    repeat' (first|(refine u'S ?_;simp only [wS,simprocAttr,hg,hltE,hlt])|refine u'Q fun _ _=>?_|refine aV ?_|refine aR (fun hg=>?_) fun hg=>?_|fail)
    refine bH hG0 ke ?_
    simp only [wS,simprocAttr,e2]
    repeat' (first|(refine u'S ?_;simp only [wS,simprocAttr,e1,e2])|refine u'Q fun _ _=>?_|refine aV ?_|refine aR (fun hg=>?_) fun hg=>?_|fail)
    refine hK2.go ⟨i+1,hlt⟩ (Weak.ref ⟨?_,.inr ⟨Nat.zero_le _,?_,fun g cs hg=>aD (hG0 g cs hg),?_,?_⟩⟩) (by simp only;omega)
    ·exact u'p
    ·exact u'p
    ·intro z hz
     simp only [List.mem_cons,List.not_mem_nil,or_false] at hz
     rcases hz with rfl|rfl|rfl<;>rfl
    ·simp only [List.all_cons,List.all_nil,Bool.and_true,aG,inL,inR,Bool.true_and]
     exact aA hte
   ·have hge:i=es.length:=by simp [hln] at h;omega
    repeat' (first|(refine u'S ?_;simp only [wS,simprocAttr])|refine u'Q fun _ _=>?_|refine aV ?_|refine aR (fun hg=>?_) fun hg=>?_|fail)
    refine aB rfl ?_
    simp only [wS,simprocAttr]
    rw [hge,List.take_length];simp only [T.size]
end Go.Proofs.YtggflhbigolakaaGreatDoor
