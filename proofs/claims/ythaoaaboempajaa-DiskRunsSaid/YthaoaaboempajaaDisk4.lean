/- The disks' small methods, walked: the document's turn; what is told of a disk. Conditions: the disk is one block; its numbers are of 64 bits. -/
import Derived.Test.YthaoaaboempajaaDisk3
namespace Go.Proofs.Ythaoaaboempajaa.Disk
open Go.RowKit Go.Proofs.YthaoaaboempajaaW.PrintWords Go.Proofs.YthaoaaboempajaaW.PrintLast Go.Proofs.YthaoaaboempajaaW.PrintMore Go.Proofs.YthaoaaboempajaaX
set_option linter.unusedVariables false
set_option linter.unusedSimpArgs false
/-- The document's disk: two texts, what waits, the failure's number, down, count. -/
def rcells (x0 x1 x2 : Value) (f : Int) (d : Bool) (c : Int) : Array Value := #[x0, x1, x2, .int .i64 f, .bool d, .int .i64 c]
theorem rturn.calls (g : Nat) (x0 x1 x2 : Value) (f : Int) (d : Bool) (c : Int) (w0 w : World) (hB : Below w0.heap.size w0 w) (hg : w0.heap.size ≤ g)
    (hd : w.heap[g]? = some (.cells (rcells x0 x1 x2 f d c) 150 (0, 0))) (hf : -9223372036854775808 ≤ f ∧ f < 9223372036854775808) (hc : 0 ≤ c ∧ c < 9223372036854775807) :
    Calls Try.prog 169 #[.pointer (some ⟨g, 0, none⟩)] w fun e w' => e = .returned (.int .i64 (turn f d c).1) ∧ w'.heap[g]? = some (.cells (rcells x0 x1 x2 (turn f d c).2.1 (turn f d c).2.2.1 (turn f d c).2.2.2) 150 (0, 0)) ∧ Below w0.heap.size w0 w' ∧ Kept w w' (fun k => k = g) ∧ w'.heap.size = w.heap.size := by
  have HB := Aside0.mk hB
  have HG := Aside0.mk hg
  have HD := Aside0.mk hd
  have c5 : w.cell? ⟨g, 3, none⟩ = some (.int .i64 f) := (blk_cell hd 3).trans rfl
  have c6 : w.cell? ⟨g, 4, none⟩ = some (.bool d) := (blk_cell hd 4).trans rfl
  have c7 : w.cell? ⟨g, 5, none⟩ = some (.int .i64 c) := (blk_cell hd 5).trans rfl
  have z5 := blk_frozen hd 3
  have z6 := blk_frozen hd 4
  have z7 := blk_frozen hd 5
  clear hB hg hd
  have w1_ : IntKind.i64.wrap (c + 1) = c + 1 := IntWalk.i64_in _ (by omega)
  cases d with
  | true =>
    go_enter Try.func169, Try.ntmps169
    go_wp2_with (fail)
    go_ret
    exact ⟨by simp [turn], blk_put HD.out 4 _ rfl, HB.out.setCell (p := ⟨g, 4, none⟩) HG.out _, set_kept, by simp⟩
  | false =>
    by_cases h0 : f = 0
    · subst h0
      go_enter Try.func169, Try.ntmps169
      go_wp2_with (fail)
      go_ret
      exact ⟨by simp [turn], blk_put HD.out 4 _ rfl, HB.out.setCell (p := ⟨g, 4, none⟩) HG.out _, set_kept, by simp⟩
    · have e0 : (f == 0) = false := beq_eq_false_iff_ne.mpr h0
      by_cases h1 : f > 0
      · have d1 : decide (f > 0) = true := decide_eq_true h1
        have w2_ : IntKind.i64.wrap (f - 1) = f - 1 := IntWalk.i64_in _ (by omega)
        go_enter Try.func169, Try.ntmps169
        go_wp2_with (fail)
        go_ret
        refine ⟨by simp [turn, h0], ?_, (HB.out.setCell (p := ⟨g, 3, none⟩) HG.out _).setCell (p := ⟨g, 5, none⟩) HG.out _, Kept.then_ set_kept set_kept (fun k hk => .inl hk), by simp⟩
        have := blk_put (blk_put HD.out 3 (.int .i64 (f - 1)) rfl) 5 (.int .i64 (c + 1)) rfl
        simpa [turn, h0, h1, rcells] using this
      · have d1 : decide (f > 0) = false := decide_eq_false h1
        go_enter Try.func169, Try.ntmps169
        go_wp2_with (fail)
        go_ret
        refine ⟨by simp [turn, h0], ?_, HB.out.setCell (p := ⟨g, 5, none⟩) HG.out _, set_kept, by simp⟩
        have := blk_put HD.out 5 (.int .i64 (c + 1)) rfl
        simpa [turn, h0, show ¬ 0 < f from Int.not_lt.mpr h1, rcells] using this
theorem down.calls (g : Nat) (x0 x1 x2 x3 x4 : Value) (f : Int) (d : Bool) (c : Int) (w : World) (hd : w.heap[g]? = some (.cells (dcells x0 x1 x2 x3 x4 f d c) 146 (0, 0))) :
    Calls Try.prog 72 #[.pointer (some ⟨g, 0, none⟩)] w fun e w' => e = .returned (.bool d) ∧ w' = w := by
  have c6 : w.cell? ⟨g, 6, none⟩ = some (.bool d) := (blk_cell hd 6).trans rfl
  clear hd
  go_enter Try.func72, Try.ntmps72
  go_wp2_with (fail)
  go_ret
  exact ⟨rfl, rfl⟩
theorem count.calls (g : Nat) (x0 x1 x2 x3 x4 : Value) (f : Int) (d : Bool) (c : Int) (w : World) (hd : w.heap[g]? = some (.cells (dcells x0 x1 x2 x3 x4 f d c) 146 (0, 0))) :
    Calls Try.prog 134 #[.pointer (some ⟨g, 0, none⟩)] w fun e w' => e = .returned (.int .i64 c) ∧ w' = w := by
  have c7 : w.cell? ⟨g, 7, none⟩ = some (.int .i64 c) := (blk_cell hd 7).trans rfl
  clear hd
  go_enter Try.func134, Try.ntmps134
  go_wp2_with (fail)
  go_ret
  exact ⟨rfl, rfl⟩
theorem waits.calls (g : Nat) (x0 x1 x2 x3 : Value) (A : Option Addr) (n m : Nat) (f : Int) (d : Bool) (c : Int) (w : World) (hd : w.heap[g]? = some (.cells (dcells x0 x1 x2 x3 (.slice A n m) f d c) 146 (0, 0))) :
    Calls Try.prog 135 #[.pointer (some ⟨g, 0, none⟩)] w fun e w' => e = .returned (.int .i64 (n : Int)) ∧ w' = w := by
  have c4 : w.cell? ⟨g, 4, none⟩ = some (.slice A n m) := (blk_cell hd 4).trans rfl
  clear hd
  go_enter Try.func135, Try.ntmps135
  go_wp2_with (fail)
  go_ret
  exact ⟨rfl, rfl⟩
end Go.Proofs.Ythaoaaboempajaa.Disk
