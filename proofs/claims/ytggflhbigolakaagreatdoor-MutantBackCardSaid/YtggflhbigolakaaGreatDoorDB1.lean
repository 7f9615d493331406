import Derived.Test.YtggflhbigolakaaGreatDoorD0
import Derived.Test.YtggflhbigolakaaGreatDoorXI
import Derived.ProofKit
import Derived.SizedLaws
import Derived.OpenShut
import Derived.LaidMore
import Derived.Lay
import Derived.Stop.Joined
set_option linter.unusedVariables false
set_option linter.unusedSimpArgs false
namespace Go.Proofs.YtggflhbigolakaaGreatDoor
open Go.AM
attribute [local irreducible] AWp aY bC bI bU bW aN aS bL
open Go.ChangeShapes Go.WideShapes Go.ChangeAt Go.RowKit
theorem TN {W:World} (_:laidMetH Tryz.prog Rows.mutantBackRow.laid W):Inv G0 (E0 W):=pL fun g cs hg=>by cases hg
set_option maxRecDepth 100000
theorem TU (os:Os):laidMetH Tryz.prog Rows.mutantBackRow.laid ((World.laidAll Tryz.prog os Rows.mutantBackRow.laid).forCall (fun _ _=>0) ⟨#[], #[.slice none 0 0,.slice none 0 0,.slice none 0 0,.int .i64 0,.int .i64 0],[]⟩).memory:=by
 rw [MakeChecks.laidMetH_plain _ _ _ (by kernel_rfl)]
 exact laidMet_laidAll _ (by kernel_rfl) (by kernel_rfl)
theorem TP (os:Os) (started:os.Started) (H:Type) (enc:TypeId × Value→H):
  ReturnsInHanded {} Tryz.checked os 7 .any (fun w args=>(Rows.mutantBackSpec.pre enc Tryz.prog Tryz.f7 [] false w args∧laidMetH Tryz.prog Rows.mutantBackRow.laid w)∧sizedMet enc Tryz.prog Tryz.f7 (OpenSpec.ofChange Rows.mutantBackSpec) false w args)
   (Rows.mutantBackSpec.post enc Tryz.prog Tryz.f7 false true false false):=by
 refine returnsInHanded_of_change_and (C:=Tryz.checked) (X:=fun w _=>laidMetH Tryz.prog Rows.mutantBackRow.laid w) (fun _ _ _ hh h=>h.of_heap hh) RN started (by kernel_rfl) Tryz.func7
  (ChangeSpec.witness_shaped (enc:=enc) (C:=Tryz.checked) (os:=os) (X:=fun w _=>laidMetH Tryz.prog Rows.mutantBackRow.laid w) false (World.laidAll Tryz.prog os Rows.mutantBackRow.laid) #[.slice none 0 0,.slice none 0 0,.slice none 0 0,.int .i64 0,.int .i64 0] 8 (World.laidAll_os _ _ _) (World.shaped_of_ZipB (by kernel_rfl) (by kernel_rfl)) (by kernel_rfl) (by kernel_rfl) (by kernel_rfl) (TU os)) ?_
 intro W base args ds gs before hval0 hW _ hsz0 hL _
 have hsz:(DataW.weightsEach Tryz.prog (Tryz.f7.params.toList++Rows.mutantBackSpec.plain.varTypes Tryz.prog) (ds++gs)).all (·≤reachBytes)=true:=hsz0
 clear hsz0
 have hval:∀ (j:Nat) t v,Tryz.f7.params[j]? =some t→args[j]? =some v→Value.okWide Tryz.prog W .any base t v:=hval0
 have hW':=hW
 obtain ⟨p,q,hA0,hV,rfl,_,_⟩:=hW
 have hA:DataW.TrodAll enc Tryz.prog W 0 (fun _=>true) true Tryz.f7.params.toList args.toList ds p:=hA0
 rw [Tryz.params7] at hA hval hsz
 obtain ⟨arr⟩:=args
 simp only at hA
 obtain ⟨v0,r0,d0,e0,p0,q0,h0,rfl,rfl,g0,hA0⟩:=trodAll_cons hA
 obtain ⟨v1,r1,d1,e1,p1,q1,h1,rfl,rfl,g1,hA1⟩:=trodAll_cons hA0
 obtain ⟨v2,r2,d2,e2,p2,q2,h2,rfl,rfl,g2,hA2⟩:=trodAll_cons hA1
 obtain ⟨v3,r3,d3,e3,p3,q3,h3,rfl,rfl,g3,hA3⟩:=trodAll_cons hA2
 obtain ⟨v4,r4,d4,e4,p4,q4,h4,rfl,rfl,g4,hA4⟩:=trodAll_cons hA3
 obtain ⟨h5,rfl,rfl⟩:=trodAll_nil hA4
 subst h5 h4 h3 h2 h1 h0
 obtain ⟨rfl,rfl⟩:=trodVars_none hV
 have b0:∀ x∈p0,x.block<W.heap.size:=fun x hx=>by simpa using hW'.lt x (by simp [hx])
 obtain ⟨l0,a0,s0,z0⟩:=jQ hsz (j:=0) rfl rfl (hval 0 22 v0 rfl rfl) g0 b0
 have b1:∀ x∈p1,x.block<W.heap.size:=fun x hx=>by simpa using hW'.lt x (by simp [hx])
 obtain ⟨l1,a1,s1,z1⟩:=jQ hsz (j:=1) rfl rfl (hval 1 22 v1 rfl rfl) g1 b1
 have b2:∀ x∈p2,x.block<W.heap.size:=fun x hx=>by simpa using hW'.lt x (by simp [hx])
 obtain ⟨l2,a2,s2,z2⟩:=jQ hsz (j:=2) rfl rfl (hval 2 22 v2 rfl rfl) g2 b2
 obtain ⟨n3,rfl,rfl,rfl,w3⟩:=open_int Tryz.underlying3 (hval 3 3 v3 rfl rfl) g3
 obtain ⟨n4,rfl,rfl,rfl,w4⟩:=open_int Tryz.underlying3 (hval 4 3 v4 rfl rfl) g4
 clear hA0 hval0
 refine (H6 (us:=[v0,v1,v2,.int .i64 n3,.int .i64 n4]) (TV l0 l1 l2 n3 n4 s0 s1 s2 (oR w3) (oR w4)) (TN hL) (by simp only [RelL];exact ⟨_,_,rfl,a0,⟨_,_,rfl,a1,⟨_,_,rfl,a2,⟨_,_,rfl,A6,⟨_,_,rfl,A6,rfl⟩⟩⟩⟩⟩)).mono fun e W' ⟨he,hb⟩=>?_
 subst he
 exact ⟨_,rfl,_,_,_,[],_,[],hW',trodAll_mk1 (shut_bool Tryz.underlying4 true),(trodAll_cons_mk (Below.trod Tryz.laidOut (by kernel_rfl) (of_decide_eq_true (by kernel_rfl)) g0 hb b0) (trodAll_cons_mk (Below.trod Tryz.laidOut (by kernel_rfl) (of_decide_eq_true (by kernel_rfl)) g1 hb b1) (trodAll_cons_mk (Below.trod Tryz.laidOut (by kernel_rfl) (of_decide_eq_true (by kernel_rfl)) g2 hb b2) (trodAll_cons_mk (shut_int Tryz.underlying3 w3) (trodAll_cons_mk (shut_int Tryz.underlying3 w4) (lN)))))),rfl,hb.frame _,fun h=>by cases h⟩
theorem TR:Rows.MutantBackSaid:=
 OpenClaim.holds_of_wide 7 Tryz.f7 rfl rfl rfl rfl rfl rfl rfl ⟨rfl,rfl,rfl,rfl,rfl⟩ rfl rfl rfl rfl rfl (by kernel_rfl) Tryz.func7 (by kernel_rfl)
  (of_decide_eq_true (by kernel_rfl)) (by unfold Func.isWrapper;first|(rw [if_pos (by decide +kernel)];kernel_rfl)|(rw [if_neg (by decide +kernel)];exact ⟨rfl,rfl⟩))
  (fun os started H enc _=>TP os started H enc)
end Go.Proofs.YtggflhbigolakaaGreatDoor
