import Derived.Test.YtggflhbigolakaaGreatDoorD0
import Derived.Test.YtggflhbigolakaaGreatDoorXK
import Derived.ProofKit
import Derived.SizedLaws
import Derived.OpenShut
import Derived.LaidMore
import Derived.Lay
import Derived.Stop.Joined
set_option linter.unusedVariables false
set_option linter.unusedSimpArgs false
namespace Go.Proofs.YtggflhbigolakaaGreatDoor
open Go.AM
attribute [local irreducible] AWp aY bC bI bU bW aN aS bL
open Go.ChangeShapes Go.WideShapes Go.ChangeAt Go.RowKit
theorem VG {W:World} (_:laidMetH Tryz.prog Rows.mutantComparesRow.laid W):Inv G0 (E0 W):=pL fun g cs hg=>by cases hg
set_option maxRecDepth 100000
theorem VK (os:Os):laidMetH Tryz.prog Rows.mutantComparesRow.laid ((World.laidAll Tryz.prog os Rows.mutantComparesRow.laid).forCall (fun _ _=>0) ⟨#[], #[.slice none 0 0,.slice none 0 0,.slice none 0 0,.int .i64 0,.int .i64 0,.agg #[.slice none 0 0]],[]⟩).memory:=by
 rw [MakeChecks.laidMetH_plain _ _ _ (by kernel_rfl)]
 exact laidMet_laidAll _ (by kernel_rfl) (by kernel_rfl)
theorem VH (os:Os) (started:os.Started) (H:Type) (enc:TypeId × Value→H):
  ReturnsInHanded {} Tryz.checked os 4 .any (fun w args=>(Rows.mutantComparesSpec.pre enc Tryz.prog Tryz.f4 [] false w args∧laidMetH Tryz.prog Rows.mutantComparesRow.laid w)∧sizedMet enc Tryz.prog Tryz.f4 (OpenSpec.ofChange Rows.mutantComparesSpec) false w args)
   (Rows.mutantComparesSpec.post enc Tryz.prog Tryz.f4 false true false false):=by
 refine returnsInHanded_of_change_and (C:=Tryz.checked) (X:=fun w _=>laidMetH Tryz.prog Rows.mutantComparesRow.laid w) (fun _ _ _ hh h=>h.of_heap hh) RN started (by kernel_rfl) Tryz.func4
  (ChangeSpec.witness_shaped (enc:=enc) (C:=Tryz.checked) (os:=os) (X:=fun w _=>laidMetH Tryz.prog Rows.mutantComparesRow.laid w) false (World.laidAll Tryz.prog os Rows.mutantComparesRow.laid) #[.slice none 0 0,.slice none 0 0,.slice none 0 0,.int .i64 0,.int .i64 0,.agg #[.slice none 0 0]] 8 (World.laidAll_os _ _ _) (World.shaped_of_ZipB (by kernel_rfl) (by kernel_rfl)) (by kernel_rfl) (by kernel_rfl) (by kernel_rfl) (VK os)) ?_
 intro W base args ds gs before hval0 hW _ hsz0 hL _
 have hsz:(DataW.weightsEach Tryz.prog (Tryz.f4.params.toList++Rows.mutantComparesSpec.plain.varTypes Tryz.prog) (ds++gs)).all (·≤reachBytes)=true:=hsz0
 clear hsz0
 have hval:∀ (j:Nat) t v,Tryz.f4.params[j]? =some t→args[j]? =some v→Value.okWide Tryz.prog W .any base t v:=hval0
 have hW':=hW
 obtain ⟨p,q,hA0,hV,rfl,_,_⟩:=hW
 have hA:DataW.TrodAll enc Tryz.prog W 0 (fun _=>true) true Tryz.f4.params.toList args.toList ds p:=hA0
 rw [Tryz.params4] at hA hval hsz
 obtain ⟨arr⟩:=args
 simp only at hA
 obtain ⟨v0,r0,d0,e0,p0,q0,h0,rfl,rfl,g0,hA0⟩:=trodAll_cons hA
 obtain ⟨v1,r1,d1,e1,p1,q1,h1,rfl,rfl,g1,hA1⟩:=trodAll_cons hA0
 obtain ⟨v2,r2,d2,e2,p2,q2,h2,rfl,rfl,g2,hA2⟩:=trodAll_cons hA1
 obtain ⟨v3,r3,d3,e3,p3,q3,h3,rfl,rfl,g3,hA3⟩:=trodAll_cons hA2
 obtain ⟨v4,r4,d4,e4,p4,q4,h4,rfl,rfl,g4,hA4⟩:=trodAll_cons hA3
 obtain ⟨v5,r5,d5,e5,p5,q5,h5,rfl,rfl,g5,hA5⟩:=trodAll_cons hA4
 obtain ⟨h6,rfl,rfl⟩:=trodAll_nil hA5
 subst h6 h5 h4 h3 h2 h1 h0
 obtain ⟨rfl,rfl⟩:=trodVars_none hV
 have b0:∀ x∈p0,x.block<W.heap.size:=fun x hx=>by simpa using hW'.lt x (by simp [hx])
 obtain ⟨l0,a0,s0,z0⟩:=jQ hsz (j:=0) rfl rfl (hval 0 22 v0 rfl rfl) g0 b0
 have b1:∀ x∈p1,x.block<W.heap.size:=fun x hx=>by simpa using hW'.lt x (by simp [hx])
 obtain ⟨l1,a1,s1,z1⟩:=jQ hsz (j:=1) rfl rfl (hval 1 22 v1 rfl rfl) g1 b1
 have b2:∀ x∈p2,x.block<W.heap.size:=fun x hx=>by simpa using hW'.lt x (by simp [hx])
 obtain ⟨l2,a2,s2,z2⟩:=jQ hsz (j:=2) rfl rfl (hval 2 22 v2 rfl rfl) g2 b2
 obtain ⟨n3,rfl,rfl,rfl,w3⟩:=open_int Tryz.underlying3 (hval 3 3 v3 rfl rfl) g3
 obtain ⟨n4,rfl,rfl,rfl,w4⟩:=open_int Tryz.underlying3 (hval 4 3 v4 rfl rfl) g4
 have b5:∀ x∈p5,x.block<W.heap.size:=fun x hx=>by simpa using hW'.lt x (by simp [hx])
 obtain ⟨c5,rfl,_⟩:=okWide_struct (P:=Tryz.prog) (t:=31) VW (hval 5 31 v5 rfl rfl)
 have gg:=g5
 obtain ⟨fu5,m5⟩:=gg
 obtain ⟨M5,a5,o5,z5⟩:=VV m5 (fun w hw=>of_decide_eq_true (List.all_eq_true.1 hsz w (DataW.weights_mem_each (j:=5) rfl rfl w hw)))
 have a5:Rel (E0 W) (mV M5) (.agg c5):=by
  simp only [mV,Rel]
  exact ⟨c5.toList,by simp,a5,o5⟩
 clear hA0 hval0
 refine (H6 (us:=[v0,v1,v2,.int .i64 n3,.int .i64 n4,.agg c5]) (VL l0 l1 l2 n3 n4 M5 s0 s1 s2 (oR w3) (oR w4) z5) (VG hL) (by simp only [RelL];exact ⟨_,_,rfl,a0,⟨_,_,rfl,a1,⟨_,_,rfl,a2,⟨_,_,rfl,A6,⟨_,_,rfl,A6,⟨_,_,rfl,a5,rfl⟩⟩⟩⟩⟩⟩)).mono fun e W' ⟨he,hb⟩=>?_
 subst he
 exact ⟨_,rfl,_,_,_,[],_,[],hW',trodAll_mk1 (shut_bool Tryz.underlying4 true),(trodAll_cons_mk (Below.trod Tryz.laidOut (by kernel_rfl) (of_decide_eq_true (by kernel_rfl)) g0 hb b0) (trodAll_cons_mk (Below.trod Tryz.laidOut (by kernel_rfl) (of_decide_eq_true (by kernel_rfl)) g1 hb b1) (trodAll_cons_mk (Below.trod Tryz.laidOut (by kernel_rfl) (of_decide_eq_true (by kernel_rfl)) g2 hb b2) (trodAll_cons_mk (shut_int Tryz.underlying3 w3) (trodAll_cons_mk (shut_int Tryz.underlying3 w4) (trodAll_cons_mk (Below.trod Tryz.laidOut (by kernel_rfl) (of_decide_eq_true (by kernel_rfl)) g5 hb b5) (lN))))))),rfl,hb.frame _,fun h=>by cases h⟩
theorem VJ:Rows.MutantComparesSaid:=
 OpenClaim.holds_of_wide 4 Tryz.f4 rfl rfl rfl rfl rfl rfl rfl ⟨rfl,rfl,rfl,rfl,rfl⟩ rfl rfl rfl rfl rfl (by kernel_rfl) Tryz.func4 (by kernel_rfl)
  (of_decide_eq_true (by kernel_rfl)) (by unfold Func.isWrapper;first|(rw [if_pos (by decide +kernel)];kernel_rfl)|(rw [if_neg (by decide +kernel)];exact ⟨rfl,rfl⟩))
  (fun os started H enc _=>VH os started H enc)
end Go.Proofs.YtggflhbigolakaaGreatDoor
