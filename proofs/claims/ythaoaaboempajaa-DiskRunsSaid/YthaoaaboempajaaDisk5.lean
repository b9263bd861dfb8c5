/- The disks' method Fail, walked. Conditions: the disk is one block. -/
import Derived.Test.YthaoaaboempajaaDisk4
namespace Go.Proofs.Ythaoaaboempajaa.Disk
open Go.RowKit Go.Proofs.YthaoaaboempajaaW.PrintWords Go.Proofs.YthaoaaboempajaaW.PrintLast Go.Proofs.YthaoaaboempajaaW.PrintMore Go.Proofs.YthaoaaboempajaaX
attribute [local go_sem] max2_int min2_int max_two min_two
set_option linter.unusedVariables false
set_option linter.unusedSimpArgs false
def failOf (n : Int) : Int := if n < 0 then -1 else n
theorem fail.calls (g : Nat) (x0 x1 x2 x3 x4 : Value) (f : Int) (d : Bool) (c n : Int) (w0 w : World) (hB : Below w0.heap.size w0 w) (hg : w0.heap.size ≤ g) (hd : w.heap[g]? = some (.cells (dcells x0 x1 x2 x3 x4 f d c) 146 (0, 0))) :
    Calls Try.prog 64 #[.pointer (some ⟨g, 0, none⟩), .int .i64 n] w fun e w' => e = .returned (.tuple #[]) ∧ w'.heap[g]? = some (.cells (dcells x0 x1 x2 x3 x4 (failOf n) d c) 146 (0, 0)) ∧ Below w0.heap.size w0 w' ∧ Kept w w' (fun k => k = g) ∧ w'.heap.size = w.heap.size := by
  have HB := Aside0.mk hB
  have HG := Aside0.mk hg
  have HD := Aside0.mk hd
  have c5 : w.cell? ⟨g, 5, none⟩ = some (.int .i64 f) := (blk_cell hd 5).trans rfl
  have z5 := blk_frozen hd 5
  clear hB hg hd
  have hm : max n (-1) = failOf n := by unfold failOf; split <;> omega
  go_enter Try.func64, Try.ntmps64
  go_wp2_with (fail)
  all_goals
    refine bodyPost_end (v := .tuple #[]) (by first | rfl | (simp [results, Try.f64]; done) | (simp [results, Try.f64]; rfl)) rfl ?_
    refine ⟨rfl, ?_, HB.out.setCell (p := ⟨g, 5, none⟩) HG.out _, set_kept, by simp⟩
  · have e : failOf n = -1 := by unfold failOf; rw [if_pos (by omega)]
    rw [e]
    exact blk_put HD.out 5 (.int .i64 (-1)) rfl
  · have e : failOf n = n := by unfold failOf; split <;> omega
    rw [e]
    exact blk_put HD.out 5 (.int .i64 n) rfl
theorem rfail.calls (g : Nat) (x0 x1 x2 : Value) (f : Int) (d : Bool) (c n : Int) (w0 w : World) (hB : Below w0.heap.size w0 w) (hg : w0.heap.size ≤ g) (hd : w.heap[g]? = some (.cells (rcells x0 x1 x2 f d c) 150 (0, 0))) :
    Calls Try.prog 84 #[.pointer (some ⟨g, 0, none⟩), .int .i64 n] w fun e w' => e = .returned (.tuple #[]) ∧ w'.heap[g]? = some (.cells (rcells x0 x1 x2 (failOf n) d c) 150 (0, 0)) ∧ Below w0.heap.size w0 w' ∧ Kept w w' (fun k => k = g) ∧ w'.heap.size = w.heap.size := by
  have HB := Aside0.mk hB
  have HG := Aside0.mk hg
  have HD := Aside0.mk hd
  have c3 : w.cell? ⟨g, 3, none⟩ = some (.int .i64 f) := (blk_cell hd 3).trans rfl
  have z3 := blk_frozen hd 3
  clear hB hg hd
  by_cases h : n < 0
  · have d1 : decide (n < 0) = true := decide_eq_true h
    go_enter Try.func84, Try.ntmps84
    go_wp2_with (fail)
    refine bodyPost_end (v := .tuple #[]) (by first | rfl | (simp [results, Try.f84]; done) | (simp [results, Try.f84]; rfl)) rfl ?_
    refine ⟨rfl, ?_, (HB.out.setCell (p := ⟨g, 3, none⟩) HG.out _).setCell (p := ⟨g, 3, none⟩) HG.out _, Kept.then_ set_kept set_kept (fun k hk => .inl hk), by simp⟩
    have := blk_put (blk_put HD.out 3 (.int .i64 n) rfl) 3 (.int .i64 (-1)) rfl
    simpa [failOf, h, rcells] using this
  · have d1 : decide (n < 0) = false := decide_eq_false h
    go_enter Try.func84, Try.ntmps84
    go_wp2_with (fail)
    refine bodyPost_end (v := .tuple #[]) (by first | rfl | (simp [results, Try.f84]; done) | (simp [results, Try.f84]; rfl)) rfl ?_
    refine ⟨rfl, ?_, HB.out.setCell (p := ⟨g, 3, none⟩) HG.out _, set_kept, by simp⟩
    have := blk_put HD.out 3 (.int .i64 n) rfl
    simpa [failOf, show ¬ n < 0 from Int.not_lt.mpr h, rcells] using this
end Go.Proofs.Ythaoaaboempajaa.Disk
