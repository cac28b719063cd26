/- Row of the law FnExactCrossRate: for every input the call returns true and each argument reads as it did. No condition. -/
import Derived.Test.YtbjhjdkgegilcaaRows
import Derived.Test.YtbjhjdkgegilcaaPFnExactCrossRatex4
import Derived.Test.YtbjhjdkgegilcaaPureFnExactCrossRate
import Derived.Test.YtbjhjdkgegilcaaOpens
import Derived.WalkKit
import Derived.ProofKit
import Derived.OpenShut
import Derived.ShutString
import Derived.ChangeOld
import Derived.Below
import Derived.SizedLaws
import Derived.Lib.SmallJoins
namespace Go.Proofs.Ytbjhjdkgegilcaa.fnExactCrossRate
open Go.ChangeShapes Go.WideShapes Go.ChangeAt Go.RowKit Go.Joins
open Go.ChangeMaps (open_string shut_string)
open Go.Proofs.YtbjhjdkgegilcaaW.PrintWords Go.Proofs.YtbjhjdkgegilcaaOpens Go.Proofs.Ytbjhjdkgegilcaa.PFnExactCrossRate
set_option linter.unusedVariables false
theorem own : ownKnob Try.prog.godebug = none := by kernel_rfl
theorem laidOut : laidOutB Try.prog = true := by kernel_rfl
set_option maxRecDepth 100000 in
theorem lifted (os : Os) (started : os.Started) (H : Type) (enc : TypeId × Value → H) :
    ReturnsInHanded {} Try.checked os 5 .any (Rows.fnExactCrossRateSpec.pre6 enc Try.prog Try.f5 Rows.fnExactCrossRateRow.domain false) (Rows.fnExactCrossRateSpec.post enc Try.prog Try.f5 false true false false) := by
  refine returnsInHanded_of_change_sized (C := Try.checked) own started (by kernel_rfl) Try.func5
    (ChangeSpec.witness6 (enc := enc) (C := Try.checked) false ⟨#[], #[.agg #[.int .i64 0, .int .i64 0], .agg #[.int .i64 0, .int .i64 0]], []⟩ 8 (by kernel_rfl) (by kernel_rfl) (by kernel_rfl) (by kernel_rfl)) ?_
  intro W base args ds gs before hval0 hW hcnd hsz0 _
  have hsz : (DataW.weightsEach Try.prog (Try.f5.params.toList ++ Rows.fnExactCrossRateSpec.plain.varTypes Try.prog) (ds ++ gs)).all (· ≤ reachBytes) = true := hsz0
  have hval : ∀ (j : Nat) t v, Try.f5.params[j]? = some t → args[j]? = some v → Value.okWide Try.prog W .any base t v := hval0
  have hW' := hW
  obtain ⟨p, q, hA0, hV, rfl, hfz, hnd⟩ := hW
  have hA : DataW.TrodAll enc Try.prog W 0 (fun _ => true) true Try.f5.params.toList args.toList ds p := hA0
  rw [Try.params5] at hA hval hsz
  obtain ⟨v0, vs0, d0, ds0, p0, q0, hargs, rfl, rfl, h0, r0⟩ := trodAll_cons hA
  obtain ⟨v1, vs1, d1, ds1, p1, q1, rfl, rfl, rfl, h1, r1⟩ := trodAll_cons r0
  obtain ⟨rfl, rfl, rfl⟩ := trodAll_nil r1
  obtain rfl : args = #[v0, v1] := by cases args; simp_all
  obtain ⟨rfl, rfl⟩ := trodVars_none hV
  have k0 := h0
  have lt0 : ∀ x ∈ p0, x.block < W.heap.size := by obtain ⟨m, hm⟩ := k0; exact DataW.trod_lt m _ _ _ hm
  obtain ⟨x0, cs0, rfl, hk0, g0⟩ := open_arg_struct (W := W) Try.underlying30 (hval 0 30 v0 rfl rfl) (opens_struct Try.underlying30 (by kernel_rfl) (opensF_cons rfl (by kernel_rfl) rfl (opens_int Try.underlying3) (opensF_one rfl (by kernel_rfl) (opens_int Try.underlying3))) (fun x => x) (fun x => x) (fun _ => rfl)) h0 (weights_at hsz (j := 0) rfl rfl)
  obtain ⟨a0_0, a0_1⟩ := x0
  obtain ⟨cl0, hcl0⟩ : ∃ l, l = cs0.toList := ⟨_, rfl⟩
  rw [← hcl0] at hk0
  obtain ⟨_, _, rfl, rfl, rfl⟩ := hk0
  obtain rfl : cs0 = #[.int .i64 a0_0, .int .i64 a0_1] := by apply Array.toList_inj.1; rw [← hcl0]; rfl
  have k1 := h1
  have lt1 : ∀ x ∈ p1, x.block < W.heap.size := by obtain ⟨m, hm⟩ := k1; exact DataW.trod_lt m _ _ _ hm
  obtain ⟨x1, cs1, rfl, hk1, g1⟩ := open_arg_struct (W := W) Try.underlying30 (hval 1 30 v1 rfl rfl) (opens_struct Try.underlying30 (by kernel_rfl) (opensF_cons rfl (by kernel_rfl) rfl (opens_int Try.underlying3) (opensF_one rfl (by kernel_rfl) (opens_int Try.underlying3))) (fun x => x) (fun x => x) (fun _ => rfl)) h1 (weights_at hsz (j := 1) rfl rfl)
  obtain ⟨a1_0, a1_1⟩ := x1
  obtain ⟨cl1, hcl1⟩ : ∃ l, l = cs1.toList := ⟨_, rfl⟩
  rw [← hcl1] at hk1
  obtain ⟨_, _, rfl, rfl, rfl⟩ := hk1
  obtain rfl : cs1 = #[.int .i64 a1_0, .int .i64 a1_1] := by apply Array.toList_inj.1; rw [← hcl1]; rfl
  clear hA0 hval0 hsz0 hsz
  obtain ⟨kr, hkr⟩ := Go.Proofs.Ytbjhjdkgegilcaa.PureFnExactCrossRate.FnExactCrossRate a0_0 a0_1 g0 a1_0 a1_1 g1
  refine (laws_FnExactCrossRate.calls (w := W) (h := hkr) ).mono fun e W' ⟨he, bel⟩ => ?_
  subst he
  exact ⟨_, rfl, _, _, _, [], _, [], hW', trodAll_mk1 (shut_bool Try.underlying4 _), (trodAll_cons_mk (Below.trod laidOut (by kernel_rfl) (of_decide_eq_true (by kernel_rfl)) k0 bel lt0) (trodAll_cons_mk (Below.trod laidOut (by kernel_rfl) (of_decide_eq_true (by kernel_rfl)) k1 bel lt1) trodAll_mk0)), rfl, bel.frame _, fun h => by cases h⟩
theorem over : Rows.fnExactCrossRateRow.holds Try.pinned (OpenSpec.ofChange Rows.fnExactCrossRateSpec) :=
  OpenClaim.holds_of_wide 5 Try.f5 rfl rfl rfl rfl rfl rfl rfl ⟨rfl, rfl, rfl, rfl, rfl⟩ rfl rfl rfl rfl rfl (by kernel_rfl) Try.func5 (by kernel_rfl)
    (of_decide_eq_true (by kernel_rfl)) (by unfold Func.isWrapper; first | (rw [if_pos (by decide +kernel)]; kernel_rfl) | (rw [if_neg (by decide +kernel)]; exact ⟨rfl, rfl⟩))
    (fun os started H enc _ => lifted os started H enc)
theorem proved : Rows.FnExactCrossRateSaid := over
#print axioms proved
end Go.Proofs.Ytbjhjdkgegilcaa.fnExactCrossRate
namespace Go.Proofs.Ytbjhjdkgegilcaa
/-- The row, under a short name, for the claim. -/
theorem fnExactCrossRate_holds : Rows.FnExactCrossRateSaid := fnExactCrossRate.proved
end Go.Proofs.Ytbjhjdkgegilcaa
