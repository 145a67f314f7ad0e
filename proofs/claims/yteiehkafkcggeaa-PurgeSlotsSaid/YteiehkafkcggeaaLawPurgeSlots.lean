/- The statement PurgeSlots holds: the law's function answers true at every input, and the input reads as it did. No condition. (Written by row.py.) -/
import Derived.Test.YteiehkafkcggeaaRows
import Derived.Test.YteiehkafkcggeaaXHead
import Derived.Test.YteiehkafkcggeaaL9
import Derived.Test.YteiehkafkcggeaaSx22
import Derived.WalkKit
import Derived.ProofKit
import Derived.OpenShut
import Derived.ShutString
import Derived.ChangeOld
import Derived.Below
import Derived.SizedLaws
namespace Go.Proofs.Yteiehkafkcggeaa.purgeSlots
open Go.ChangeShapes Go.WideShapes Go.ChangeAt Go.RowKit Go.Sx
set_option linter.unusedVariables false
theorem own : ownKnob Try.prog.godebug = none := by kernel_rfl
theorem laidOut : laidOutB Try.prog = true := by kernel_rfl
theorem opens3 : OpensS Try.prog 3 (.int .i64) := opensS_int Try.underlying3 (by kernel_rfl)
theorem opens31 : OpensS Try.prog 31 (.struct [(.int .i64), (.int .i64), (.int .i64), (.int .i64)]) := opensS_struct Try.underlying31 (by kernel_rfl) (opensFsS_cons rfl opens3 (opensFsS_cons rfl opens3 (opensFsS_cons rfl opens3 (opensFsS_cons rfl opens3 opensFsS_nil))))
theorem opens23 : OpensS Try.prog 23 (.slice (.struct [(.int .i64), (.int .i64), (.int .i64), (.int .i64)])) := opensS_slice (by decide) Try.underlying23 (by kernel_rfl) opens31
theorem opens25 : OpensS Try.prog 25 (.struct [(.int .i64), (.slice (.struct [(.int .i64), (.int .i64), (.int .i64), (.int .i64)]))]) := opensS_struct Try.underlying25 (by kernel_rfl) (opensFsS_cons rfl opens3 (opensFsS_cons rfl opens23 opensFsS_nil))
theorem opens76 : OpensS Try.prog 76 (.slice (.struct [(.int .i64), (.slice (.struct [(.int .i64), (.int .i64), (.int .i64), (.int .i64)]))])) := opensS_slice (by decide) Try.underlying76 (by kernel_rfl) opens25
theorem opens4 : OpensS Try.prog 4 .bool := opensS_bool Try.underlying4 (by kernel_rfl)
theorem opens75 : OpensS Try.prog 75 (.slice .bool) := opensS_slice (by decide) Try.underlying75 (by kernel_rfl) opens4
theorem opens22 : OpensS Try.prog 22 (.slice (.int .i64)) := opensS_slice (by decide) Try.underlying22 (by kernel_rfl) opens3
theorem opens78 : OpensS Try.prog 78 (.struct [(.slice (.int .i64)), (.slice .bool), (.slice .bool), (.slice (.struct [(.int .i64), (.slice (.struct [(.int .i64), (.int .i64), (.int .i64), (.int .i64)]))]))]) := opensS_struct Try.underlying78 (by kernel_rfl) (opensFsS_cons rfl opens22 (opensFsS_cons rfl opens75 (opensFsS_cons rfl opens75 (opensFsS_cons rfl opens76 opensFsS_nil))))
theorem opens79 : OpensS Try.prog 79 (.slice (.slice (.int .i64))) := opensS_slice (by decide) Try.underlying79 (by kernel_rfl) opens22
theorem opens80 : OpensS Try.prog 80 (.slice (.slice .bool)) := opensS_slice (by decide) Try.underlying80 (by kernel_rfl) opens75
set_option maxRecDepth 100000 in
theorem lifted (os : Os) (started : os.Started) (H : Type) (enc : TypeId × Value → H) :
    ReturnsInHanded {} Try.checked os 9 .any (Rows.purgeSlotsSpec.pre6 enc Try.prog Try.f9 Rows.purgeSlotsRow.domain false) (Rows.purgeSlotsSpec.post enc Try.prog Try.f9 false true false false) := by
  refine returnsInHanded_of_change_sized (C := Try.checked) own started (by kernel_rfl) Try.func9
    (ChangeSpec.witness6 (enc := enc) (C := Try.checked) false ⟨#[], #[.agg #[.slice none 0 0, .slice none 0 0, .slice none 0 0, .slice none 0 0], .int .i64 0, .slice none 0 0, .slice none 0 0, .int .i64 0], []⟩ 8 (by kernel_rfl) (by kernel_rfl) (by kernel_rfl) (by kernel_rfl)) ?_
  intro W base args ds gs before hval0 hW hcnd hsz0 _
  have hval : ∀ (j : Nat) t v, Try.f9.params[j]? = some t → args[j]? = some v → Value.okWide Try.prog W .any base t v := hval0
  have hW' := hW
  obtain ⟨p, q, hA0, hV, rfl, hfz, hnd⟩ := hW
  have hA : DataW.TrodAll enc Try.prog W 0 (fun _ => true) true Try.f9.params.toList args.toList ds p := hA0
  rw [Try.params9] at hA hval
  obtain ⟨v0, vs0, d0, ds0, p0, q0, hargs, rfl, rfl, h0, r0⟩ := trodAll_cons hA
  obtain ⟨v1, vs1, d1, ds1, p1, q1, rfl, rfl, rfl, h1, r1⟩ := trodAll_cons r0
  obtain ⟨v2, vs2, d2, ds2, p2, q2, rfl, rfl, rfl, h2, r2⟩ := trodAll_cons r1
  obtain ⟨v3, vs3, d3, ds3, p3, q3, rfl, rfl, rfl, h3, r3⟩ := trodAll_cons r2
  obtain ⟨v4, vs4, d4, ds4, p4, q4, rfl, rfl, rfl, h4, r4⟩ := trodAll_cons r3
  obtain ⟨rfl, rfl, rfl⟩ := trodAll_nil r4
  obtain rfl : args = #[v0, v1, v2, v3, v4] := by cases args; simp_all
  obtain ⟨rfl, rfl⟩ := trodVars_none hV
  have lt0 : ∀ x ∈ p0, x.block < W.heap.size := by obtain ⟨m, hm⟩ := h0; exact DataW.trod_lt m _ _ _ hm
  have lt1 : ∀ x ∈ p1, x.block < W.heap.size := by obtain ⟨m, hm⟩ := h1; exact DataW.trod_lt m _ _ _ hm
  have lt2 : ∀ x ∈ p2, x.block < W.heap.size := by obtain ⟨m, hm⟩ := h2; exact DataW.trod_lt m _ _ _ hm
  have lt3 : ∀ x ∈ p3, x.block < W.heap.size := by obtain ⟨m, hm⟩ := h3; exact DataW.trod_lt m _ _ _ hm
  have lt4 : ∀ x ∈ p4, x.block < W.heap.size := by obtain ⟨m, hm⟩ := h4; exact DataW.trod_lt m _ _ _ hm
  obtain ⟨y0, K0, g0⟩ := opens78.arg (.inl ⟨_, Try.underlying78⟩) (hval 0 78 v0 rfl rfl) h0
  obtain ⟨y1, K1, g1⟩ := opens3.arg (noAgg (by rw [Try.underlying3]; trivial)) (hval 1 3 v1 rfl rfl) h1
  obtain ⟨y2, K2, g2⟩ := opens79.arg (noAgg (by rw [Try.underlying79]; trivial)) (hval 2 79 v2 rfl rfl) h2
  obtain ⟨y3, K3, g3⟩ := opens80.arg (noAgg (by rw [Try.underlying80]; trivial)) (hval 3 80 v3 rfl rfl) h3
  obtain ⟨y4, K4, g4⟩ := opens3.arg (noAgg (by rw [Try.underlying3]; trivial)) (hval 4 3 v4 rfl rfl) h4
  clear hA0 hval0 hsz0
  refine (law_of Go.Sx.Yteiehkafkcggeaa.law9 (w := W) (args := #[v0, v1, v2, v3, v4]) (y0, y1, y2, y3, y4, ()) (by simp only [Kds.wf]; exact ⟨g0, g1, g2, g3, g4, trivial⟩) rfl (by simp only [encArgs, VRs]; exact ⟨v0, _, rfl, K0, v1, _, rfl, K1, v2, _, rfl, K2, v3, _, rfl, K3, v4, _, rfl, K4, rfl⟩)).mono fun e W' ⟨he, bel⟩ => ?_
  subst he
  exact ⟨_, rfl, _, _, _, [], _, [], hW', trodAll_mk1 (shut_bool Try.underlying4 _), (trodAll_cons_mk (Below.trod laidOut (by kernel_rfl) (of_decide_eq_true (by kernel_rfl)) h0 bel lt0) (trodAll_cons_mk (Below.trod laidOut (by kernel_rfl) (of_decide_eq_true (by kernel_rfl)) h1 bel lt1) (trodAll_cons_mk (Below.trod laidOut (by kernel_rfl) (of_decide_eq_true (by kernel_rfl)) h2 bel lt2) (trodAll_cons_mk (Below.trod laidOut (by kernel_rfl) (of_decide_eq_true (by kernel_rfl)) h3 bel lt3) (trodAll_cons_mk (Below.trod laidOut (by kernel_rfl) (of_decide_eq_true (by kernel_rfl)) h4 bel lt4) trodAll_mk0))))), rfl, bel.frame _, fun h => by cases h⟩
theorem over : Rows.purgeSlotsRow.holds Try.pinned (OpenSpec.ofChange Rows.purgeSlotsSpec) :=
  OpenClaim.holds_of_wide 9 Try.f9 rfl rfl rfl rfl rfl rfl rfl ⟨rfl, rfl, rfl, rfl, rfl⟩ rfl rfl rfl rfl rfl (by kernel_rfl) Try.func9 (by show joinedFacts Try.prog 9 Try.f9 Rows.purgeSlotsSpec Rows.purgeSlotsRow = true; unfold joinedFacts; rw [may_enter, lifts_not, make_cut]; kernel_rfl)
    (of_decide_eq_true (by kernel_rfl)) (by unfold Func.isWrapper; first | (rw [if_pos (by decide +kernel)]; kernel_rfl) | (rw [if_neg (by decide +kernel)]; exact ⟨rfl, rfl⟩))
    (fun os started H enc _ => lifted os started H enc)
theorem proved : Rows.PurgeSlotsSaid := over
#print axioms proved
end Go.Proofs.Yteiehkafkcggeaa.purgeSlots
namespace Go.Proofs.Yteiehkafkcggeaa
/-- The row, under a short name, for the claim. -/
theorem purgeSlots_holds : Rows.PurgeSlotsSaid := purgeSlots.proved
end Go.Proofs.Yteiehkafkcggeaa
