/- The law LogRuns: for every input the answer is true; no conditions. -/
import Derived.Test.YthaoaaboempajaaRows
import Derived.Test.YthaoaaboempajaaMLogRuns6
import Derived.WalkKit
import Derived.ProofKit
import Derived.OpenShut
import Derived.ShutString
import Derived.ChangeOld
import Derived.Below
import Derived.SizedLaws
namespace Go.Proofs.Ythaoaaboempajaa.logRuns
open Go.ChangeShapes Go.WideShapes Go.ChangeAt Go.RowKit Go.Proofs.YthaoaaboempajaaW.PrintWords Go.Proofs.YthaoaaboempajaaO Go.Proofs.Ythaoaaboempajaa.QDiskRuns Go.Proofs.Ythaoaaboempajaa.Disk Go.Proofs.Ythaoaaboempajaa.Log
open Go.ChangeMaps (open_string shut_string)
set_option linter.unusedVariables false
set_option linter.unusedSimpArgs false
theorem own : ownKnob Try.prog.godebug = none := by kernel_rfl
theorem laidOut : laidOutB Try.prog = true := by kernel_rfl
theorem opens77 : Opens Try.prog 77 k77 (fun x => (-9223372036854775808 ≤ x.f3 ∧ x.f3 < 9223372036854775808) ∧ x.f6.length ≤ 17592186043904) := opens_good (opens_iso (opens_eight Try.underlying77 (opens_int Try.underlying3) (opens_int Try.underlying3) (opens_int Try.underlying3) (opens_int Try.underlying3) (opens_string Try.underlying9) (opens_string Try.underlying9) (opens_slice Try.underlying75 (B := 8) (by kernel_rfl) (by kernel_rfl) (opens_int Try.underlying3)) (opens_slice Try.underlying38 (B := 16) (by kernel_rfl) (by kernel_rfl) (opens_string Try.underlying9)) (by kernel_rfl) (by kernel_rfl) (by kernel_rfl) (by kernel_rfl) (by kernel_rfl) (by kernel_rfl) (by kernel_rfl) (by kernel_rfl) (by kernel_rfl) rfl rfl rfl rfl rfl rfl rfl rfl)
  (fun x : S77 => (x.f0, x.f1, x.f2, x.f3, x.f4, x.f5, x.f6, x.f7)) (fun y => ⟨y.1, y.2.1, y.2.2.1, y.2.2.2.1, y.2.2.2.2.1, y.2.2.2.2.2.1, y.2.2.2.2.2.2.1, y.2.2.2.2.2.2.2⟩) (fun _ => rfl)) (fun x h => ⟨by have h1 := bounds_i64 h.2.2.2.1; dsimp only at h1; omega, by have h1 := h.2.2.2.2.2.2.1.1; dsimp only at h1; omega⟩)
theorem opens69 : Opens Try.prog 69 (Kd.slice 77 k77) (fun l => l.length * 112 ≤ 140737488351232 ∧ ∀ x ∈ l, (-9223372036854775808 ≤ x.f3 ∧ x.f3 < 9223372036854775808) ∧ x.f6.length ≤ 17592186043904) := opens_slice Try.underlying69 (by kernel_rfl) (by kernel_rfl) opens77
set_option maxRecDepth 100000 in
set_option maxHeartbeats 4000000 in
theorem lifted (os : Os) (started : os.Started) (H : Type) (enc : TypeId × Value → H) :
    ReturnsInHanded {} Try.checked os 14 .any (Rows.logRunsSpec.pre6 enc Try.prog Try.f14 Rows.logRunsRow.domain false) (Rows.logRunsSpec.post enc Try.prog Try.f14 false true false false) := by
  refine returnsInHanded_of_change_sized (C := Try.checked) own started (by kernel_rfl) Try.func14
    (ChangeSpec.witness6 (enc := enc) (C := Try.checked) false ⟨#[], #[.slice none 0 0], []⟩ 8 (by kernel_rfl) (by kernel_rfl) (by kernel_rfl) (by kernel_rfl)) ?_
  intro W base args ds gs before hval0 hW hcnd hsz0 _
  have hsz : (DataW.weightsEach Try.prog (Try.f14.params.toList ++ Rows.logRunsSpec.plain.varTypes Try.prog) (ds ++ gs)).all (· ≤ reachBytes) = true := hsz0
  have hval : ∀ (j : Nat) t v, Try.f14.params[j]? = some t → args[j]? = some v → Value.okWide Try.prog W .any base t v := hval0
  have hW' := hW
  obtain ⟨p, q, hA0, hV, rfl, hfz, hnd⟩ := hW
  have hA : DataW.TrodAll enc Try.prog W 0 (fun _ => true) true Try.f14.params.toList args.toList ds p := hA0
  rw [Try.params14] at hA hval hsz
  obtain ⟨v0, vs0, d0, ds0, p0, q0, hargs, rfl, rfl, h0, r0⟩ := trodAll_cons hA
  obtain ⟨rfl, rfl, rfl⟩ := trodAll_nil r0
  obtain rfl : args = #[v0] := by cases args; simp_all
  obtain ⟨rfl, rfl⟩ := trodVars_none hV
  obtain ⟨a0, len0, cap0, rfl⟩ := okWide_slice Try.underlying69 (hval 0 69 v0 rfl rfl)
  have k0 := h0
  have lt0 : ∀ x ∈ p0, x.block < W.heap.size := by obtain ⟨m, hm⟩ := k0; exact DataW.trod_lt m _ _ _ hm
  obtain ⟨l0, rfl, hc0, hr0, w0⟩ := opened_slice opens69 hsz (j := 0) rfl rfl h0
  clear hA0 hval0 hsz0 hsz
  have hlen := w0.1
  refine (LogRuns.calls a0 cap0 l0 W hr0 hc0 (by omega) w0.2).mono fun e W' ⟨he, bel0⟩ => ?_
  have bel : Below W.heap.size W W' := bel0
  subst he
  exact ⟨_, rfl, _, _, _, [], _, [], hW', trodAll_mk1 (shut_bool Try.underlying4 _), (trodAll_cons_mk (Below.trod laidOut (by kernel_rfl) (of_decide_eq_true (by kernel_rfl)) k0 bel lt0) trodAll_mk0), rfl, bel.frame _, fun h => by cases h⟩
theorem over : Rows.logRunsRow.holds Try.pinned (OpenSpec.ofChange Rows.logRunsSpec) :=
  OpenClaim.holds_of_wide 14 Try.f14 rfl rfl rfl rfl rfl rfl rfl ⟨rfl, rfl, rfl, rfl, rfl⟩ rfl rfl rfl rfl rfl (by kernel_rfl) Try.func14 (by kernel_rfl)
    (of_decide_eq_true (by kernel_rfl)) (by unfold Func.isWrapper; first | (rw [if_pos (by decide +kernel)]; kernel_rfl) | (rw [if_neg (by decide +kernel)]; exact ⟨rfl, rfl⟩))
    (fun os started H enc _ => lifted os started H enc)
theorem proved : Rows.LogRunsSaid := over
#print axioms proved
end Go.Proofs.Ythaoaaboempajaa.logRuns
namespace Go.Proofs.Ythaoaaboempajaa
/-- The row, under a short name, for the claim. -/
theorem logRuns_holds : Rows.LogRunsSaid := logRuns.proved
end Go.Proofs.Ythaoaaboempajaa
