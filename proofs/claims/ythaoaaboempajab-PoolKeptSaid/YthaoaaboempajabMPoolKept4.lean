/- Lines of the texts that the claim PoolKept rests on, bundled: part 4; no conditions but those that each row names. -/
import Derived.Test.YthaoaaboempajabMPoolKept3
import Derived.Lib.Strings
namespace Go.Proofs.Ythaoaaboempajab.QPageSeals
open Go.RowKit Go.Proofs.YthaoaaboempajabW.PrintWords Go.Proofs.YthaoaaboempajabW.PrintLast Go.Proofs.YthaoaaboempajabW.PrintMore
attribute [local go_sem] max2_int min2_int max_two min_two max_three min_three max_four min_four   -- for this text's walks alone
set_option linter.unusedVariables false
set_option linter.unusedSimpArgs false
def page_Used.l0 : Nat → Int → List ByteArray → Int → Int → Option (Int)
  | 0, _, _, _, _ => none
  | k + 1, x3, x6, x7, x8 => if x8 < x7 then (if 0 ≤ x8 then (if x8 < (x6.length : Int) then (page_Used.l0 k (wrap64 (x3 + (wrap64 (4 + ((rdOf ByteArray.empty x6 x8).size : Int))))) x6 x7 (wrap64 (x8 + 1))) else (none)) else (none)) else (some x3)
def page_Used.f (k : Nat) (l0 : List ByteArray) : Option (Int) := page_Used.l0 k 0 l0 (l0.length : Int) 0
set_option maxHeartbeats 8000000 in
set_option maxRecDepth 100000 in
theorem page_Used.calls (k : Nat) (A0 : Option Addr) (c0 : Nat) (l0 : List ByteArray) (r : Int) (w : World) (hr0 : Kd.C Kd.string w A0 l0.length l0) (hc0 : l0.length ≤ c0) (h : page_Used.f k l0 = some r) :
    Calls Try.prog 56 #[.slice A0 l0.length c0] w fun e w' => e = .returned (.int .i64 r) ∧ Drawn0 w w' := by
  have HR0 := Aside0.mk hr0
  have HC0 := Aside0.mk hc0
  clear hr0 hc0
  have H : (page_Used.l0 k 0 l0 (l0.length : Int) 0) = some r := h
  clear h
  have H' := Aside0.mk H
  clear H
  go_enter Try.func56, Try.ntmps56
  go_wp2
  go_loopg [3, 8] k (fun kq v3 v8 w' => ∃ (x3_1 : Int) (x8_1 : Int), v3 = .int .i64 x3_1 ∧ v8 = .int .i64 x8_1 ∧ Aside0 (page_Used.l0 kq x3_1 l0 (l0.length : Int) x8_1 = some r) ∧ Aside0 (kq ≤ k) ∧ Drawn0 w w')
  case atStart => exact ⟨(0), (0), (by first | rfl | (simp; done) | (simp [*]; done) | exact bq1 _ _ | exact bq2 _ _ | exact congrArg Value.bool (bq2 _ _) | exact congrArg Value.bool (bq1 _ _) | exact congrArg Value.bool (bq1' _ _) | exact bq1' _ _ | exact congrArg Value.bool (bq2' _ _) | exact bq2' _ _), (by first | rfl | (simp; done) | (simp [*]; done) | exact bq1 _ _ | exact bq2 _ _ | exact congrArg Value.bool (bq2 _ _) | exact congrArg Value.bool (bq1 _ _) | exact congrArg Value.bool (bq1' _ _) | exact bq1' _ _ | exact congrArg Value.bool (bq2' _ _) | exact bq2' _ _), H', ⟨Nat.le_refl _⟩, by repeat (first | exact Drawn0.refl _ | apply Drawn0.step)⟩
  case round =>
    clear H'
    try clear q1
    obtain ⟨x3_1, x8_1, rfl, rfl, HA, HK1, ⟨m1, rfl⟩⟩ := hrel
    cases gk with
    | zero => exact absurd HA.out (by simp [page_Used.l0])
    | succ k1 =>
      have H := HA.out
      clear HA
      simp only [page_Used.l0] at H
      by_cases c2 : x8_1 < (l0.length : Int)
      · rw [if_pos c2] at H
        have c2b0 : decide (x8_1 < (l0.length : Int)) = true := decide_eq_true c2
        clear c2
        by_cases c3 : 0 ≤ x8_1
        · rw [if_pos c3] at H
          have c3b0 : decide (0 ≤ x8_1) = true := decide_eq_true c3
          clear c3
          by_cases c4 : x8_1 < (l0.length : Int)
          · rw [if_pos c4] at H
            have c4b0 : decide (x8_1 < (l0.length : Int)) = true := decide_eq_true c4
            clear c4
            have H' := Aside0.mk H
            clear H
            have p110 : 0 ≤ (x8_1 : Int) := of_decide_eq_true (by first | (with_reducible assumption) | assumption)
            have q110 : x8_1 < (l0.length : Int) := of_decide_eq_true (by first | (with_reducible assumption) | assumption)
            obtain ⟨ad110, e110, hx110_0⟩ := Kd.at_string HR0.out x8_1 p110 q110
            cases e110
            replace p110 := eq_true p110
            replace q110 := eq_true q110
            go_wp2
            go_roundg k1
            case measure => have := HK1.out; omega
            case rel => exact ⟨(wrap64 (x3_1 + (wrap64 (4 + ((rdOf ByteArray.empty l0 x8_1).size : Int))))), (wrap64 (x8_1 + 1)), (by first | rfl | (simp; done) | (simp [*]; done) | exact bq1 _ _ | exact bq2 _ _ | exact congrArg Value.bool (bq2 _ _) | exact congrArg Value.bool (bq1 _ _) | exact congrArg Value.bool (bq1' _ _) | exact bq1' _ _ | exact congrArg Value.bool (bq2' _ _) | exact bq2' _ _), (by first | rfl | (simp; done) | (simp [*]; done) | exact bq1 _ _ | exact bq2 _ _ | exact congrArg Value.bool (bq2 _ _) | exact congrArg Value.bool (bq1 _ _) | exact congrArg Value.bool (bq1' _ _) | exact bq1' _ _ | exact congrArg Value.bool (bq2' _ _) | exact bq2' _ _), H', ⟨by have := HK1.out; omega⟩, by repeat (first | exact Drawn0.refl _ | apply Drawn0.step)⟩
          · rw [if_neg c4] at H
            exact absurd H (by simp)
        · rw [if_neg c3] at H
          exact absurd H (by simp)
      · rw [if_neg c2] at H
        have c2b0 : decide (x8_1 < (l0.length : Int)) = false := decide_eq_false c2
        clear c2
        obtain rfl := Option.some.inj H
        go_wp2
        go_ret
        exact ⟨by first | rfl | (simp; done) | (simp [*]; done) | exact bq1 _ _ | exact bq2 _ _ | exact congrArg Value.bool (bq2 _ _) | exact congrArg Value.bool (bq1 _ _) | exact congrArg Value.bool (bq1' _ _) | exact bq1' _ _ | exact congrArg Value.bool (bq2' _ _) | exact bq2' _ _, by repeat (first | exact Drawn0.refl _ | apply Drawn0.step)⟩
mutual
def page_Sum.l0 : Nat → ByteArray → Int → Int → Option (Int)
  | 0, _, _, _ => none
  | k + 1, x0, x3, x4 => if x4 < (x0.size : Int) then (if 0 ≤ x4 then (page_Sum.l1 k x0 (Go.bits .xor .u32 x3 ((bt x0 x4) % 4294967296)) x4 0) else (none)) else (some (Go.bits .xor .u32 4294967295 x3))
def page_Sum.l1 : Nat → ByteArray → Int → Int → Int → Option (Int)
  | 0, _, _, _, _ => none
  | k + 1, x0, x3, x4, x17 => if x17 < 8 then (if (Go.bits .and .u32 x3 1) = 1 then (page_Sum.l1 k x0 (Go.bits .xor .u32 (x3 / 2) 3988292384) x4 (wrap64 (x17 + 1))) else (page_Sum.l1 k x0 (x3 / 2) x4 (wrap64 (x17 + 1)))) else (page_Sum.l0 k x0 x3 (wrap64 (x4 + 1)))
end
def page_Sum.f (k : Nat) (a0 : ByteArray) : Option (Int) := page_Sum.l0 k a0 4294967295 0
set_option maxHeartbeats 8000000 in
set_option maxRecDepth 100000 in
theorem page_Sum.calls (k : Nat) (a0 : ByteArray) (r : Int) (w : World) (h : page_Sum.f k a0 = some r) :
    Calls Try.prog 59 #[.string a0] w fun e w' => e = .returned (.int .u32 r) ∧ Drawn0 w w' := by
  have H : (page_Sum.l0 k a0 4294967295 0) = some r := h
  clear h
  have H' := Aside0.mk H
  clear H
  go_enter Try.func59, Try.ntmps59
  go_wp2
  go_loopg [3, 4] k (fun kq v3 v4 w' => ∃ (x3_1 : Int) (x4_1 : Int), v3 = .int .u32 x3_1 ∧ v4 = .int .i64 x4_1 ∧ Aside0 (page_Sum.l0 kq a0 x3_1 x4_1 = some r) ∧ Aside0 (kq ≤ k) ∧ Drawn0 w w')
  case atStart => exact ⟨(4294967295), (0), (by first | rfl | (simp; done) | (simp [*]; done) | exact bq1 _ _ | exact bq2 _ _ | exact congrArg Value.bool (bq2 _ _) | exact congrArg Value.bool (bq1 _ _) | exact congrArg Value.bool (bq1' _ _) | exact bq1' _ _ | exact congrArg Value.bool (bq2' _ _) | exact bq2' _ _), (by first | rfl | (simp; done) | (simp [*]; done) | exact bq1 _ _ | exact bq2 _ _ | exact congrArg Value.bool (bq2 _ _) | exact congrArg Value.bool (bq1 _ _) | exact congrArg Value.bool (bq1' _ _) | exact bq1' _ _ | exact congrArg Value.bool (bq2' _ _) | exact bq2' _ _), H', ⟨Nat.le_refl _⟩, by repeat (first | exact Drawn0.refl _ | apply Drawn0.step)⟩
  case round =>
    clear H'
    try clear q1
    obtain ⟨x3_1, x4_1, rfl, rfl, HA, HK1, ⟨m1, rfl⟩⟩ := hrel
    cases gk with
    | zero => exact absurd HA.out (by simp [page_Sum.l0])
    | succ k1 =>
      have H := HA.out
      clear HA
      simp only [page_Sum.l0] at H
      by_cases c2 : x4_1 < (a0.size : Int)
      · rw [if_pos c2] at H
        have c2b0 : decide (x4_1 < (a0.size : Int)) = true := decide_eq_true c2
        clear c2
        by_cases c3 : 0 ≤ x4_1
        · rw [if_pos c3] at H
          have c3b0 : decide (0 ≤ x4_1) = true := decide_eq_true c3
          clear c3
          have H' := Aside0.mk H
          clear H
          have p4 : 0 ≤ (x4_1 : Int) := of_decide_eq_true (by first | (with_reducible assumption) | assumption)
          have q4 : x4_1 < (a0.size : Int) := of_decide_eq_true (by first | (with_reducible assumption) | assumption)
          have hx4 := bt_at a0 x4_1
          replace p4 := eq_true p4
          replace q4 := eq_true q4
          go_wp2
          go_loopg [3, 17] k1 (fun kq v3 v17 w' => ∃ (x3_2 : Int) (x17_2 : Int), v3 = .int .u32 x3_2 ∧ v17 = .int .i64 x17_2 ∧ Aside0 (page_Sum.l1 kq a0 x3_2 x4_1 x17_2 = some r) ∧ Aside0 (kq ≤ k1) ∧ Drawn0 w w')
          case atStart => exact ⟨(Go.bits .xor .u32 x3_1 ((bt a0 x4_1) % 4294967296)), (0), (by first | rfl | (simp; done) | (simp [*]; done) | exact bq1 _ _ | exact bq2 _ _ | exact congrArg Value.bool (bq2 _ _) | exact congrArg Value.bool (bq1 _ _) | exact congrArg Value.bool (bq1' _ _) | exact bq1' _ _ | exact congrArg Value.bool (bq2' _ _) | exact bq2' _ _), (by first | rfl | (simp; done) | (simp [*]; done) | exact bq1 _ _ | exact bq2 _ _ | exact congrArg Value.bool (bq2 _ _) | exact congrArg Value.bool (bq1 _ _) | exact congrArg Value.bool (bq1' _ _) | exact bq1' _ _ | exact congrArg Value.bool (bq2' _ _) | exact bq2' _ _), H', ⟨Nat.le_refl _⟩, by repeat (first | exact Drawn0.refl _ | apply Drawn0.step)⟩
          case round =>
            clear H'
            try clear q1
            try clear c2
            try clear c2b0
            try clear p2
            try clear q2
            try clear c3
            try clear c3b0
            try clear p4
            try clear q4
            try clear hx4
            try clear p4
            try clear q1
            try clear q4
            obtain ⟨x3_2, x17_2, rfl, rfl, HA, HK2, ⟨m2, rfl⟩⟩ := hrel
            cases gk with
            | zero => exact absurd HA.out (by simp [page_Sum.l1])
            | succ k2 =>
              have H := HA.out
              clear HA
              simp only [page_Sum.l1] at H
              by_cases c5 : x17_2 < 8
              · rw [if_pos c5] at H
                have c5b0 : decide (x17_2 < 8) = true := decide_eq_true c5
                clear c5
                by_cases c6 : (Go.bits .and .u32 x3_2 1) = 1
                · rw [if_pos c6] at H
                  have c6b0 : ((Go.bits .and .u32 x3_2 1) == 1) = true := beq_iff_eq.mpr c6
                  have c6b1 : ((Go.bits .and .u32 x3_2 1) != 1) = false := bne_eq_false_iff_eq.mpr c6
                  clear c6
                  have H' := Aside0.mk H
                  clear H
                  go_wp2
                  go_roundg k2
                  case measure => have := HK1.out; have := HK2.out; omega
                  case rel => exact ⟨(Go.bits .xor .u32 (x3_2 / 2) 3988292384), (wrap64 (x17_2 + 1)), (by first | rfl | (simp; done) | (simp [*]; done) | exact bq1 _ _ | exact bq2 _ _ | exact congrArg Value.bool (bq2 _ _) | exact congrArg Value.bool (bq1 _ _) | exact congrArg Value.bool (bq1' _ _) | exact bq1' _ _ | exact congrArg Value.bool (bq2' _ _) | exact bq2' _ _), (by first | rfl | (simp; done) | (simp [*]; done) | exact bq1 _ _ | exact bq2 _ _ | exact congrArg Value.bool (bq2 _ _) | exact congrArg Value.bool (bq1 _ _) | exact congrArg Value.bool (bq1' _ _) | exact bq1' _ _ | exact congrArg Value.bool (bq2' _ _) | exact bq2' _ _), H', ⟨by have := HK1.out; have := HK2.out; omega⟩, by repeat (first | exact Drawn0.refl _ | apply Drawn0.step)⟩
                · rw [if_neg c6] at H
                  have c6b0 : ((Go.bits .and .u32 x3_2 1) == 1) = false := beq_eq_false_iff_ne.mpr c6
                  have c6b1 : ((Go.bits .and .u32 x3_2 1) != 1) = true := bne_iff_ne.mpr c6
                  have H' := Aside0.mk H
                  clear H
                  go_wp2
                  go_roundg k2
                  case measure => have := HK1.out; have := HK2.out; omega
                  case rel => exact ⟨(x3_2 / 2), (wrap64 (x17_2 + 1)), (by first | rfl | (simp; done) | (simp [*]; done) | exact bq1 _ _ | exact bq2 _ _ | exact congrArg Value.bool (bq2 _ _) | exact congrArg Value.bool (bq1 _ _) | exact congrArg Value.bool (bq1' _ _) | exact bq1' _ _ | exact congrArg Value.bool (bq2' _ _) | exact bq2' _ _), (by first | rfl | (simp; done) | (simp [*]; done) | exact bq1 _ _ | exact bq2 _ _ | exact congrArg Value.bool (bq2 _ _) | exact congrArg Value.bool (bq1 _ _) | exact congrArg Value.bool (bq1' _ _) | exact bq1' _ _ | exact congrArg Value.bool (bq2' _ _) | exact bq2' _ _), H', ⟨by have := HK1.out; have := HK2.out; omega⟩, by repeat (first | exact Drawn0.refl _ | apply Drawn0.step)⟩
              · rw [if_neg c5] at H
                have c5b0 : decide (x17_2 < 8) = false := decide_eq_false c5
                clear c5
                have H' := Aside0.mk H
                clear H
                go_wp2
                go_roundg k2
                case measure => have := HK1.out; have := HK2.out; omega
                case rel => exact ⟨(x3_2), (wrap64 (x4_1 + 1)), (by first | rfl | (simp; done) | (simp [*]; done) | exact bq1 _ _ | exact bq2 _ _ | exact congrArg Value.bool (bq2 _ _) | exact congrArg Value.bool (bq1 _ _) | exact congrArg Value.bool (bq1' _ _) | exact bq1' _ _ | exact congrArg Value.bool (bq2' _ _) | exact bq2' _ _), (by first | rfl | (simp; done) | (simp [*]; done) | exact bq1 _ _ | exact bq2 _ _ | exact congrArg Value.bool (bq2 _ _) | exact congrArg Value.bool (bq1 _ _) | exact congrArg Value.bool (bq1' _ _) | exact bq1' _ _ | exact congrArg Value.bool (bq2' _ _) | exact bq2' _ _), H', ⟨by have := HK1.out; have := HK2.out; omega⟩, by repeat (first | exact Drawn0.refl _ | apply Drawn0.step)⟩
        · rw [if_neg c3] at H
          exact absurd H (by simp)
      · rw [if_neg c2] at H
        have c2b0 : decide (x4_1 < (a0.size : Int)) = false := decide_eq_false c2
        clear c2
        obtain rfl := Option.some.inj H
        go_wp2
        go_ret
        exact ⟨by first | rfl | (simp; done) | (simp [*]; done) | exact bq1 _ _ | exact bq2 _ _ | exact congrArg Value.bool (bq2 _ _) | exact congrArg Value.bool (bq1 _ _) | exact congrArg Value.bool (bq1' _ _) | exact bq1' _ _ | exact congrArg Value.bool (bq2' _ _) | exact bq2' _ _, by repeat (first | exact Drawn0.refl _ | apply Drawn0.step)⟩
def page_two.f (a0 : Int) : Option (List Int) := some (([(a0 / 256) % 256, (a0) % 256] : List Int))
set_option maxHeartbeats 8000000 in
set_option maxRecDepth 100000 in
theorem page_two.calls (a0 : Int) (r : List Int) (w : World) (h : page_two.f a0 = some r) :
    Calls Try.prog 57 #[.int .i64 a0] w fun e w' => ∃ v0_ : Value, e = .returned (v0_) ∧ Kd.R (Kd.int .u8) 5 w' w.heap.size (fun _ => True) v0_ r ∧ Below w.heap.size w w' := by
  have HB := Aside0.mk (Below.refl w.heap.size w)
  have H : (some (([(a0 / 256) % 256, (a0) % 256] : List Int))) = some r := h
  clear h
  obtain ⟨y111, hy111⟩ : ∃ y_ : List Int, y_ = (([(a0 / 256) % 256, (a0) % 256] : List Int)) := ⟨_, rfl⟩
  replace H : (some y111) = some r := by first | (rw [hy111]; with_reducible exact H) | (have H2_ := (Option.bind_some _ _).symm.trans H; rw [hy111]; with_reducible exact H2_) | (have H2_ := (Option.bind_some _ _).symm.trans H; with_reducible exact H2_) | with_reducible exact H | (rw [hy111]; exact H) | exact H
  have Ny111 := Aside0.mk hy111
  clear hy111
  obtain rfl := Option.some.inj H
  go_enter Try.func57, Try.ntmps57
  go_wp2_with (first | ((with_reducible refine gate_dst (N := 8) rfl ?_); refine Kd.R_lit (Kd.int .u8) _ 5 ?hg (N := 8) ?hd (xs := ([(a0 / 256) % 256, (a0) % 256] : List Int)) (inner := [.int .u8 ((a0 / 256) % 256), .int .u8 ((a0) % 256)]) (ok := fun _ => True) (okp := fun _ => True) ?hr ?hp (fun _ hk => hk) trivial (Below.refl _ _) (Nat.le_refl _) (by simp) ?_; (case hd => rfl); (case hg => rfl); (case hr => first | (go_simp; done) | (go_simp; rfl)); (case hp => exact (Reps.one (show Kd.M (Kd.int .u8) _ _ _ ((a0 / 256) % 256) [.int .u8 ((a0 / 256) % 256)] from rfl) (Reps.one (show Kd.M (Kd.int .u8) _ _ _ ((a0) % 256) [.int .u8 ((a0) % 256)] from rfl) (Reps.none _ _)))); intro v112 w2 ho3 hb hg_ hnew_; clear hg_ hnew_; (first | rw [← Ny111.out] at ho3 | (simp only [Int.reduceToNat] at ho3; rw [← Ny111.out] at ho3)); have n0_ := Aside0.mk (Kd.R_lower ho3 (below_size (by repeat (first | (with_reducible first | exact HB.out | apply below_alloc | apply pw_below_drewN | apply below_drew1) | exact HB.out)))); have n1_ := Aside0.mk (below_step (by repeat (first | (with_reducible first | exact HB.out | apply below_alloc | apply pw_below_drewN | apply below_drew1) | exact HB.out)) hb); clear HB; have HO113 := n0_; have HB := n1_; clear n0_ n1_; clear hb ho3))
  go_ret
  exact ⟨_, by first | rfl | (simp [errW_none, errW_some] <;> rfl) | (simp [*, errW_none, errW_some] <;> rfl), by (with_reducible repeat (first | apply Kd.R_alloc | apply Kd.R_drewN | apply Kd.R_drew)); exact HO113.out, by repeat (first | (with_reducible first | exact HB.out | apply below_alloc | apply pw_below_drewN | apply below_drew1) | exact HB.out)⟩
def page_four.f (a0 : Int) : Option (List Int) := (page_two.f (a0 / 65536)).bind fun t114 => ((page_two.f a0).bind fun t117 => (if t114.length + t117.length < 140737488355328 then (some (t114 ++ t117)) else (none)))
set_option maxHeartbeats 8000000 in
set_option maxRecDepth 100000 in
theorem page_four.calls (a0 : Int) (r : List Int) (w : World) (h : page_four.f a0 = some r) :
    Calls Try.prog 58 #[.int .i64 a0] w fun e w' => ∃ v0_ : Value, e = .returned (v0_) ∧ Kd.R (Kd.int .u8) 5 w' w.heap.size (fun _ => True) v0_ r ∧ Below w.heap.size w w' := by
  have HB := Aside0.mk (Below.refl w.heap.size w)
  have H : ((page_two.f (a0 / 65536)).bind fun t114 => ((page_two.f a0).bind fun t117 => (if t114.length + t117.length < 140737488355328 then (some (t114 ++ t117)) else (none)))) = some r := h
  clear h
  replace H := Option.bind_eq_some_iff.mp H
  obtain ⟨t114, A20, H⟩ := H
  replace H : ((page_two.f a0).bind fun t117 => (if t114.length + t117.length < 140737488355328 then (some (t114 ++ t117)) else (none))) = some r := H
  have A2 := Aside0.mk A20
  clear A20
  replace H := Option.bind_eq_some_iff.mp H
  obtain ⟨t117, A30, H⟩ := H
  replace H : (if t114.length + t117.length < 140737488355328 then (some (t114 ++ t117)) else (none)) = some r := H
  have A3 := Aside0.mk A30
  clear A30
  by_cases c4 : t114.length + t117.length < 140737488355328
  · rw [if_pos c4] at H
    have LMc4 := Aside0.mk c4
    clear c4
    obtain ⟨y120, hy120⟩ : ∃ y_ : List Int, y_ = (t114 ++ t117) := ⟨_, rfl⟩
    replace H : (some y120) = some r := by first | (rw [hy120]; with_reducible exact H) | (have H2_ := (Option.bind_some _ _).symm.trans H; rw [hy120]; with_reducible exact H2_) | (have H2_ := (Option.bind_some _ _).symm.trans H; with_reducible exact H2_) | with_reducible exact H | (rw [hy120]; exact H) | exact H
    have Ny120 := Aside0.mk hy120
    clear hy120
    obtain rfl := Option.some.inj H
    go_enter Try.func58, Try.ntmps58
    go_wp2_with (first | ((with_reducible refine gate_callee (f := 57) rfl ?_); refine goesL_ (some 5) rfl rfl Try.func57 (by kernel_rfl) rfl #[.int .i64 (a0 / 65536)] rfl (by (try simp only [List.map_toArray, List.map_cons, List.map_nil]); first | done | rfl | (simp only [List.length_drop, List.length_take]; rfl) | (simp only [Int.ofNat_lt, Int.ofNat_le]; done) | (simp only [Int.ofNat_lt, Int.ofNat_le]; rfl) | (simp only [ByteArray.size_append, Int.natCast_add]; rfl)) ?_; (with_reducible refine (page_two.calls (a0 / 65536) t114 _ A2.out).mono ?_); rintro e w5 ⟨v115, rfl, ho0, hb⟩; refine ⟨_, rfl, ?_⟩; have n0_ := Aside0.mk (Kd.R_lower ho0 (below_size (by repeat (first | (with_reducible first | exact HB.out | apply below_alloc | apply pw_below_drewN | apply below_drew1) | exact HB.out)))); have n1_ := Aside0.mk (below_step (by repeat (first | (with_reducible first | exact HB.out | apply below_alloc | apply pw_below_drewN | apply below_drew1) | exact HB.out)) hb); clear HB; have HO116 := n0_; have HB := n1_; clear n0_ n1_; (try clear hb); (try clear hb2); (try clear hk); (try clear hi); (try clear ho0)) | ((with_reducible refine gate_callee (f := 57) rfl ?_); refine goesL_ (some 7) rfl rfl Try.func57 (by kernel_rfl) rfl #[.int .i64 a0] rfl (by (try simp only [List.map_toArray, List.map_cons, List.map_nil]); first | done | rfl | (simp only [List.length_drop, List.length_take]; rfl) | (simp only [Int.ofNat_lt, Int.ofNat_le]; done) | (simp only [Int.ofNat_lt, Int.ofNat_le]; rfl) | (simp only [ByteArray.size_append, Int.natCast_add]; rfl)) ?_; (with_reducible refine (page_two.calls a0 t117 _ A3.out).mono ?_); rintro e w6 ⟨v118, rfl, ho0, hb⟩; refine ⟨_, rfl, ?_⟩; have n0_ := Aside0.mk (Kd.R_elder' (by (with_reducible repeat (first | apply Kd.R_alloc | apply Kd.R_drewN | apply Kd.R_drew)); exact HO116.out) (Kd.R_base ho0) hb); have n1_ := Aside0.mk (Kd.R_lower (Kd.R_new' ho0 (Kd.R_lt (by (with_reducible repeat (first | apply Kd.R_alloc | apply Kd.R_drewN | apply Kd.R_drew)); exact HO116.out))) (below_size (by repeat (first | (with_reducible first | exact HB.out | apply below_alloc | apply pw_below_drewN | apply below_drew1) | exact HB.out)))); have n2_ := Aside0.mk (below_step (by repeat (first | (with_reducible first | exact HB.out | apply below_alloc | apply pw_below_drewN | apply below_drew1) | exact HB.out)) hb); clear HO116; clear HB; have HO116 := n0_; have HO119 := n1_; have HB := n2_; clear n0_ n1_ n2_; (try clear hb); (try clear hb2); (try clear hk); (try clear hi); (try clear ho0); obtain ⟨Ao8, co8, eo8⟩ := Kd.R_slice HO119.out; subst eo8) | ((with_reducible refine gate_builtin (b := .append) (xs := #[.tmp 5, .tmp 7]) rfl ?_); at_builtin; refine Kd.R_append_rows (Kd.int .u8) (w0 := w) w.heap.size rfl (.tmp 5) (.tmp 7) 53 5 (.int .u8 0) 1 rfl Try.underlying53 info5 rfl (by decide) (by omega) v115 t114 t117 _ _ _ (fun k_ => some k_ ≠ (.slice Ao8 t117.length co8 : Value).ownBlock) (fun _ => False) rfl rfl ?aO ?aR (fun _ _ h => h) (fun _ h => h.elim) ?aF ?aB ?aS ?aL ?_; (case aR => repeat (first | exact (Kd.R_reads' HO119.out).2.2 | (with_reducible refine Kd.C_alloc ?_ _) | (with_reducible refine Kd.C_drewN ?_ _) | (with_reducible refine Kd.C_drew ?_))); (case aB => exact (by repeat (first | (with_reducible first | exact HB.out | apply below_alloc | apply pw_below_drewN | apply below_drew1) | exact HB.out))); (case aF => exact (fun k_ hk => Kd.fresh' (Kd.R_lt (by (with_reducible repeat (first | apply Kd.R_alloc | apply Kd.R_drewN | apply Kd.R_drew)); exact HO119.out)) k_ hk)); (case aO => exact (by (with_reducible repeat (first | apply Kd.R_alloc | apply Kd.R_drewN | apply Kd.R_drew)); exact Kd.R_mono HO116.out (fun _ hk => hk.2))); (case aS => exact (below_size (by repeat (first | (with_reducible first | exact HB.out | apply below_alloc | apply pw_below_drewN | apply below_drew1) | exact HB.out)))); (case aL => have := LMc4.out; omega); intro v121 w7 ho hb hg hat; rw [← Ny120.out] at ho; have n0_ := Aside0.mk (Kd.R_after (ok := (fun _ => True)) (by (with_reducible repeat (first | apply Kd.R_alloc | apply Kd.R_drewN | apply Kd.R_drew)); exact HO119.out) hg hat); have n1_ := Aside0.mk (hb); have n2_ := Aside0.mk (ho); clear HO119; clear HB; clear HO116; have HO119 := n0_; have HB := n1_; have HO122 := n2_; clear n0_ n1_ n2_; clear ho hb hg hat))
    go_ret
    exact ⟨_, by first | rfl | (simp [errW_none, errW_some] <;> rfl) | (simp [*, errW_none, errW_some] <;> rfl), by (with_reducible repeat (first | apply Kd.R_alloc | apply Kd.R_drewN | apply Kd.R_drew)); exact Kd.R_mono HO122.out (fun _ hk => trivial), by repeat (first | (with_reducible first | exact HB.out | apply below_alloc | apply pw_below_drewN | apply below_drew1) | exact HB.out)⟩
  · rw [if_neg c4] at H
    exact absurd H (by simp)
def page_Seal.spl (L : List Int) (off : Nat) (cs : List Int) : List Int := L.take off ++ (cs ++ L.drop (off + cs.length))
def page_Seal.two (n : Nat) : List Int := [((n : Int) / 256) % 256, (n : Int) % 256]
def page_Seal.cells : List ByteArray → Nat → Nat → List Int → Option (List Int)
  | [], _, _, b => some b
  | c :: r, i, e, b => if 14 + 2 * i ≤ 1024 ∧ c.size + 2 ≤ e then page_Seal.cells r (i + 1) (e - (2 + c.size)) (page_Seal.spl (page_Seal.spl (page_Seal.spl b (12 + 2 * i) (page_Seal.two (e - (2 + c.size)))) (e - (2 + c.size)) (page_Seal.two c.size)) (e - (2 + c.size) + 2) (bytesOf c)) else none
def page_Seal.f (k : Nat) (a0_0 : Int) (a0_1 : Int) (l0_2 : List ByteArray) : Option (ByteArray × Int) := if a0_0 < 1 ∨ a0_0 > 5 ∨ a0_1 < 0 ∨ a0_1 > 2147483647 then some ((⟨#[]⟩ : ByteArray), 1) else ((page_Used.f k l0_2).bind fun u => if u > 1012 then some ((⟨#[]⟩ : ByteArray), 5) else ((page_two.f (l0_2.length : Int)).bind fun t0 => ((page_four.f a0_1).bind fun t1 => ((page_Seal.cells l0_2 0 1024 (page_Seal.spl (page_Seal.spl ((List.replicate 1024 (0 : Int)).set 4 (a0_0 % 256)) 6 t0) 8 t1)).bind fun b => ((page_Sum.f k (strOfNums (b.drop 4))).bind fun c => ((page_four.f c).bind fun t => some (strOfNums (page_Seal.spl b 0 t), 0)))))))
def u8s (xs : List Int) : Array Value := (nums .u8 xs).toArray
structure PS (w0 : World) (gp gb : Nat) (kd lk : Int) (A : Option Addr) (n c : Nat) (arr : List Int) (w : World) : Prop where
  hb : Below w0.heap.size w0 w
  bp : w.heap[gp]? = some (.cells #[.int .i64 kd, .int .i64 lk, .slice A n c] 76 (0, 0))
  ba : w.heap[gb]? = some (.cells (u8s arr) 103 (0, 0))
  gp0 : w0.heap.size ≤ gp
  gb0 : w0.heap.size ≤ gb
  ne : gp < gb
  len : arr.length = 1024
theorem PS.below {w0 gp gb kd lk A n c arr w w1} (h : PS w0 gp gb kd lk A n c arr w) (hb : Below w.heap.size w w1) : PS w0 gp gb kd lk A n c arr w1 :=
  ⟨below_step h.hb hb, blk_below h.bp hb, blk_below h.ba hb, h.gp0, h.gb0, h.ne, h.len⟩
theorem PS.drew {w0 gp gb kd lk A n c arr w} (h : PS w0 gp gb kd lk A n c arr w) : PS w0 gp gb kd lk A n c arr w.drew :=
  ⟨below_drew1 h.hb, blk_drew h.bp, blk_drew h.ba, h.gp0, h.gb0, h.ne, h.len⟩
theorem PS.moved {w0 gp gb kd lk A n c xs xs' W w'} (h : PS w0 gp gb kd lk A n c xs W) (hg : w'.heap[gb]? = some (.cells (u8s xs') 103 (0, 0))) (hb : Below gb W w') (hl : xs'.length = 1024) : PS w0 gp gb kd lk A n c xs' w' :=
  ⟨h.hb.trans ⟨hb.os, hb.tape, hb.output, hb.size, fun k hk => hb.block k (by have := h.gb0; omega)⟩, (hb.block gp h.ne).trans h.bp, hg, h.gp0, h.gb0, h.ne, hl⟩
theorem spl_length (xs ys : List Int) (off : Nat) (h : off + ys.length ≤ xs.length) : (page_Seal.spl xs off ys).length = xs.length := by simp [page_Seal.spl]; omega
theorem byteCells_nums (s : ByteArray) : Lib.byteCells s.data.toList = nums .u8 (bytesOf s) := by simp [Lib.byteCells, nums, bytesOf]
theorem PS.copyS {w0 gp gb kd lk A n c xs} {ops : Array Oper} {rest : List Oper} {o : Oper} {a : Act} {W : World} {Q : Exit → Act → World → Prop} (S : PS w0 gp gb kd lk A n c xs W) (hgd : o.guard = none) (d s : Operand)
    (ho : o.op = .call { callee := .builtin .copy, args := #[d, s], argTypes := #[53, 9] }) (off dLen dCap : Nat) (ad : Addr) (t : ByteArray)
    (hd : a.eval d = .slice (some ad) dLen dCap) (had : 0 < t.size → ad = ⟨gb, off, none⟩) (hs : a.eval s = .string t) (hfit : off + t.size ≤ 1024) (hdl : t.size ≤ dLen)
    (h : ∀ w', PS w0 gp gb kd lk A n c (page_Seal.spl xs off (bytesOf t)) w' → wpList Try.prog ops Q rest (a.put o.dst (goInt t.size)) w') :
    wpList Try.prog ops Q (o :: rest) a W := by
  by_cases h0 : t.size = 0
  · have hb : bytesOf t = [] := List.eq_nil_of_length_eq_zero (by rw [bytesOf_length, h0])
    have hx : page_Seal.spl xs off (bytesOf t) = xs := by rw [hb]; simp [page_Seal.spl]
    have := h W (by rw [hx]; exact S)
    refine wpList_plain hgd fun K hK => ?_
    have hrun := Lib.run_copy_empty_string (P := Try.prog) W 53 9 o.type 5 (some ad) dLen dCap t Try.underlying53 (by kernel_rfl) h0
    unfold Oper.wp
    simp [execOp, ho, resolve, invoke, builtin, hd, hs, hrun, Result.andThen]
    rw [h0] at this
    exact hK _ _ this
  · obtain rfl := had (by omega)
    have hrun := Lib.run_copy_row_string (P := Try.prog) W 53 9 o.type 5 gb off dLen dCap t (u8s xs) 103 Try.underlying53 (by kernel_rfl) S.ba hdl (by simp [u8s, nums, S.len]; omega)
    have hr : ((u8s xs).toList.take off ++ Lib.byteCells t.data.toList ++ (u8s xs).toList.drop (off + t.size)).toArray = u8s (page_Seal.spl xs off (bytesOf t)) := by
      rw [byteCells_nums]
      simp [u8s, page_Seal.spl, nums, List.map_take, List.map_drop, bytesOf_length]
    rw [hr] at hrun
    have := h _ (S.moved (setRow_heap W gb (u8s xs) (u8s (page_Seal.spl xs off (bytesOf t))) 103 (0, 0) S.ba) (below_setRow (Below.refl gb W) (Nat.le_refl gb) _) (by rw [spl_length _ _ _ (by rw [bytesOf_length, S.len]; exact hfit), S.len]))
    refine wpList_plain hgd fun K hK => ?_
    unfold Oper.wp
    simp [execOp, ho, resolve, invoke, builtin, hd, hs, hrun, Result.andThen]
    exact hK _ _ this
theorem slice_arr2 (gb off : Nat) (x : Int) (hx : x = off) (h : off ≤ 1024) : ∃ ad : Addr, (off < 1024 → ad = ⟨gb, off, none⟩) ∧ ∀ W : World,
    (Instr.sliceAt 103 (.pointer (some ⟨gb, 0, none⟩)) (some (.int .i64 x)) none none).run Try.prog W = .ok (.slice (some ad) (1024 - off) (1024 - off)) W := by
  subst hx
  have ha : Try.prog.arrayLen 103 = 1024 := by kernel_rfl
  have hs : (Try.prog.info? 5).map (·.size) = some 1 := by kernel_rfl
  have hu : Try.prog.underlying 103 = some (.array (Try.prog.arrayLen 103) (Try.prog.elem 103)) := by kernel_rfl
  have he : Try.prog.elem 103 = 5 := by kernel_rfl
  refine ⟨if 1024 = off then ⟨gb, 0, none⟩ else ⟨gb, off, none⟩, fun h => if_neg (by omega), fun W => ?_⟩
  rw [run_sliceAt_array_l W 103 _ hu .i64 (off : Int) (by omega) (by rw [ha]; omega), he, ha]
  cases hq : Try.prog.info? 5 with
  | none => simp [hq] at hs
  | some i =>
    simp [hq] at hs
    simp [sizeOf, typeInfo, hq, hs, slicedAt, Result.andThen, Addr.add]
    by_cases h0 : off = 0
    · subst h0; simp
    · rw [if_neg h0]
theorem slice_arr (gb off : Nat) (x : Int) (hx : x = off) (h : off < 1024) (W : World) :
    (Instr.sliceAt 103 (.pointer (some ⟨gb, 0, none⟩)) (some (.int .i64 x)) none none).run Try.prog W = .ok (.slice (some ⟨gb, off, none⟩) (1024 - off) (1024 - off)) W := by
  obtain ⟨ad, h1, h2⟩ := slice_arr2 gb off x hx (by omega)
  rw [h2 W, h1 h]
theorem PS.rows {w0 gp gb kd lk A n c xs W} (S : PS w0 gp gb kd lk A n c xs W) (off : Nat) (h : off ≤ 1024) : (Kd.int .u8).C W (some ⟨gb, off, none⟩) (1024 - off) (xs.drop off) := by
  refine ⟨by rw [List.length_drop, S.len], by omega, fun hn => ⟨_, rfl, fun j p hp => ⟨[.int .u8 p], rfl, rfl, fun i u hu => ?_⟩⟩⟩
  have h0 : i = 0 := by
    have := (List.getElem?_eq_some_iff.1 hu).1
    simpa using this
  subst h0
  simp at hu
  subst hu
  rw [List.getElem?_drop] at hp
  have := blk_cell S.ba (off + j)
  have hz : (Kd.int IntKind.u8).sz = 1 := rfl
  have e : (Addr.mk gb off none).add (j * (Kd.int IntKind.u8).sz + 0) = ⟨gb, off + j, none⟩ := by
    rw [hz, Nat.mul_one, Nat.add_zero]
    unfold Addr.add
    split
    · rename_i h0; subst h0; rfl
    · rfl
  rw [e, this]
  simp [u8s, nums, hp]
theorem sum_wf : ∀ k, (∀ a x i r, page_Sum.l0 k a x i = some r → (Lit.int .u32 r).wf = true) ∧ (∀ a x i y r, page_Sum.l1 k a x i y = some r → (Lit.int .u32 r).wf = true)
  | 0 => ⟨fun _ _ _ _ h => (by simp [page_Sum.l0] at h), fun _ _ _ _ _ h => (by simp [page_Sum.l1] at h)⟩
  | k + 1 => by
    have ih := sum_wf k
    refine ⟨fun a x i r h => ?_, fun a x i y r h => ?_⟩
    · unfold page_Sum.l0 at h
      split at h
      · split at h
        · exact ih.2 _ _ _ _ _ h
        · cases h
      · rw [← Option.some.inj h]
        exact wf_bits _ _ _ _
    · unfold page_Sum.l1 at h
      split at h
      · split at h
        · exact ih.2 _ _ _ _ _ h
        · exact ih.2 _ _ _ _ _ h
      · exact ih.1 _ _ _ _ h
theorem sum_range {k a r} (h : page_Sum.f k a = some r) : 0 ≤ r ∧ r ≤ 4294967295 := by
  have := bounds_u32 ((sum_wf k).1 _ _ _ _ h)
  omega
theorem cells_step {l : List ByteArray} {j e : Nat} {b arr : List Int} (hj : j < l.length) (h : page_Seal.cells (l.drop j) j e b = some arr) :
    14 + 2 * j ≤ 1024 ∧ ∃ e2, e = e2 + (2 + (rdOf ByteArray.empty l (j : Int)).size) ∧ page_Seal.cells (l.drop (j + 1)) (j + 1) e2 (page_Seal.spl (page_Seal.spl (page_Seal.spl b (12 + 2 * j) (page_Seal.two e2)) e2 (page_Seal.two (rdOf ByteArray.empty l (j : Int)).size)) (e2 + 2) (bytesOf (rdOf ByteArray.empty l (j : Int)))) = some arr := by
  have hd : rdOf ByteArray.empty l (j : Int) = l[j] := by simp [rdOf, hj]
  rw [List.drop_eq_getElem_cons hj] at h
  unfold page_Seal.cells at h
  rw [← hd] at h
  split at h
  · rename_i hc
    refine ⟨hc.1, e - (2 + (rdOf ByteArray.empty l (j : Int)).size), by omega, h⟩
  · cases h
theorem spl_nums (xs ys : List Int) (off : Nat) : splice (nums .u8 xs) off (nums .u8 ys) = nums .u8 (page_Seal.spl xs off ys) := by
  simp [splice, page_Seal.spl, nums, List.map_take, List.map_drop]
theorem nums_one (xs : List Int) : ∀ v ∈ nums .u8 xs, v.oneCell' = true := by
  intro v hv
  simp only [nums, List.mem_map] at hv
  obtain ⟨b, _, rfl⟩ := hv
  rfl
theorem PS.copy {w0 gp gb kd lk A n c xs} {ops : Array Oper} {o : Oper} {a : Act} {W : World} {K : Act → World → Prop} {Q : Exit → Act → World → Prop} {E : Prop} (S : PS w0 gp gb kd lk A n c xs W) (hgd : o.guard = none) (d s : Operand)
    (ho : o.op = .call { callee := .builtin .copy, args := #[d, s], argTypes := #[53, 53] }) (off dLen dCap : Nat) (sp : Option Addr) (m cc : Nat) (ys : List Int)
    (hd : a.eval d = .slice (some ⟨gb, off, none⟩) dLen dCap) (hs : a.eval s = .slice sp m cc) (src : (Kd.int .u8).C W sp m ys) (hfit : off + m ≤ 1024) (hdl : m ≤ dLen)
    (h : ∀ w', PS w0 gp gb kd lk A n c (page_Seal.spl xs off ys) w' → K (a.put o.dst (goInt m)) w') :
    if Region.wanted o (yielded ops a.tmps) = true then Oper.wp Try.prog o a W K Q else E := by
  have hr := Kd.reads_of_C (enc := Value.int .u8) (d := (0 : Int)) (h1 := fun _ => rfl) src
  have hl : ys.length = m := hr.1
  refine step_copy_splice (B := gb) (w0 := W) hgd d s 53 53 ho 5 Try.underlying53 (by kernel_rfl) _ _ dLen dCap m cc hd hs gb off (nums .u8 xs) 103 S.ba (nums .u8 ys) ?_ ?_ ?_ (nums_one ys) (Below.refl _ _) (Nat.le_refl _) ?_
  · rw [nums_length, hl]; exact (Nat.min_eq_left hdl).symm
  · intro hp
    rw [nums_length, hl] at hp
    obtain ⟨ad, e, hc⟩ := hr.2.2 hp
    refine ⟨rfl, ad, e, fun j v hj => ?_⟩
    simp only [nums, List.getElem?_map, Option.map_eq_some_iff] at hj
    obtain ⟨x, hx, rfl⟩ := hj
    have hjl := (List.getElem?_eq_some_iff.1 hx).1
    rw [hc j (by omega), List.getD_eq_getElem?_getD, hx]
    rfl
  · rw [nums_length, nums_length, hl, S.len]; exact hfit
  · intro w' hg hb
    have hg' := hg.out
    rw [spl_nums] at hg'
    have := h w' (S.moved hg' hb (by rw [spl_length _ _ _ (by rw [hl, S.len]; exact hfit), S.len]))
    rwa [nums_length, hl]
def zeros : List Int := List.replicate 1024 0
set_option maxHeartbeats 8000000 in
set_option maxRecDepth 100000 in
theorem page_Seal.calls (k : Nat) (a0_0 : Int) (a0_1 : Int) (A0_2 : Option Addr) (c0_2 : Nat) (l0_2 : List ByteArray) (r1 : ByteArray) (r2 : Int) (w : World) (hr0_2 : Kd.C Kd.string w A0_2 l0_2.length l0_2) (hc0_2 : l0_2.length ≤ c0_2) (h : page_Seal.f k a0_0 a0_1 l0_2 = some (r1, r2)) :
    Calls Try.prog 28 #[.agg #[.int .i64 a0_0, .int .i64 a0_1, .slice A0_2 l0_2.length c0_2]] w fun e w' => e = .returned (.tuple #[.string r1, .int .i64 r2]) ∧ Below w.heap.size w w' := by
  have HR := Aside0.mk hr0_2
  clear hr0_2 
  have H := Aside0.mk h
  clear h
  go_enter Try.func28, Try.ntmps28
  go_upto_region 1 with (first | ((with_reducible refine gate_dst (N := 1) rfl ?_); refine box_event ?hg (N := 1) ?hd (cs := #[.int .i64 a0_0, .int .i64 a0_1, .slice A0_2 l0_2.length c0_2]) (t := 76) ?hr ?_; (case hd => rfl); (case hg => rfl); (case hr => first | (go_simp; done) | (go_simp; rfl)); intro gp hgp w1 hbox hb; have HG := Aside0.mk (Nat.le_of_eq hgp.symm); have HB := Aside0.mk hb; have HX := Aside0.mk hbox; clear hgp hb hbox))
  have c0 := blk_cell HX.out 0
  have c1 := blk_cell HX.out 1
  have c2 := blk_cell HX.out 2
  simp only [List.getElem?_toArray, List.getElem?_cons_zero, List.getElem?_cons_succ] at c0 c1 c2
  by_cases h1 : a0_0 < 1
  · have H1 := H.out
    unfold page_Seal.f at H1
    rw [if_pos (.inl h1)] at H1
    obtain ⟨rfl, rfl⟩ := Prod.mk.inj (Option.some.inj H1)
    clear H1 H
    go_wp2
    go_ret2
    exact ⟨rfl, by repeat (first | exact HB.out | apply below_alloc | apply pw_below_drewN | apply below_drew1)⟩
  by_cases h2 : a0_0 > 5
  · have H1 := H.out
    unfold page_Seal.f at H1
    rw [if_pos (.inr (.inl h2))] at H1
    obtain ⟨rfl, rfl⟩ := Prod.mk.inj (Option.some.inj H1)
    clear H1 H
    go_wp2
    go_ret2
    exact ⟨rfl, by repeat (first | exact HB.out | apply below_alloc | apply pw_below_drewN | apply below_drew1)⟩
  by_cases h3 : a0_1 < 0
  · have H1 := H.out
    unfold page_Seal.f at H1
    rw [if_pos (.inr (.inr (.inl h3)))] at H1
    obtain ⟨rfl, rfl⟩ := Prod.mk.inj (Option.some.inj H1)
    clear H1 H
    go_wp2
    go_ret2
    exact ⟨rfl, by repeat (first | exact HB.out | apply below_alloc | apply pw_below_drewN | apply below_drew1)⟩
  by_cases h4 : a0_1 > 2147483647
  · have H1 := H.out
    unfold page_Seal.f at H1
    rw [if_pos (.inr (.inr (.inr h4)))] at H1
    obtain ⟨rfl, rfl⟩ := Prod.mk.inj (Option.some.inj H1)
    clear H1 H
    go_wp2
    go_ret2
    exact ⟨rfl, by repeat (first | exact HB.out | apply below_alloc | apply pw_below_drewN | apply below_drew1)⟩
  have H1 := H.out
  unfold page_Seal.f at H1
  rw [if_neg (by omega)] at H1
  clear H
  obtain ⟨u, hu, H1⟩ := Option.bind_eq_some_iff.1 H1
  have HU := Aside0.mk hu
  clear hu
  have HC := Aside0.mk (Kd.C_below HR.out HB.out)
  go_upto_region 3 with (fail)
  by_cases h5 : u > 1012
  · rw [if_pos h5] at H1
    obtain ⟨rfl, rfl⟩ := Prod.mk.inj (Option.some.inj H1)
    clear H1
    go_wp2_with (go_at_call 56; (with_reducible refine (page_Used.calls k A0_2 c0_2 l0_2 u _ (by exact HC.out) hc0_2 HU.out).mono ?_); rintro e w2 ⟨rfl, nd, rfl⟩)
    go_ret2
    exact ⟨rfl, by repeat (first | exact HB.out | apply below_alloc | apply pw_below_drewN | apply below_drew1)⟩
  rw [if_neg h5] at H1
  obtain ⟨t0, ht0, H1⟩ := Option.bind_eq_some_iff.1 H1
  obtain ⟨t1, ht1, H1⟩ := Option.bind_eq_some_iff.1 H1
  obtain ⟨arr, harr, H1⟩ := Option.bind_eq_some_iff.1 H1
  obtain ⟨cs, hcs, H1⟩ := Option.bind_eq_some_iff.1 H1
  obtain ⟨t4, ht4, H1⟩ := Option.bind_eq_some_iff.1 H1
  obtain ⟨rfl, rfl⟩ := Prod.mk.inj (Option.some.inj H1)
  clear H1
  have HT0 := Aside0.mk ht0
  have HT1 := Aside0.mk ht1
  have HAR := Aside0.mk harr
  have HCS := Aside0.mk hcs
  have HT4 := Aside0.mk ht4
  clear ht0 ht1 harr hcs ht4
  go_upto_region 6 with (first | (go_at_call 56; (with_reducible refine (page_Used.calls k A0_2 c0_2 l0_2 u _ (by exact HC.out) hc0_2 HU.out).mono ?_); rintro e w2 ⟨rfl, nd, rfl⟩) | ((with_reducible refine gate_dst (N := 4) rfl ?_); refine box_event ?hg (N := 4) ?hd (cs := u8s zeros) (t := 103) ?hr ?_; (case hd => rfl); (case hg => rfl); (case hr => first | rfl | (go_simp; done) | (go_simp; rfl)); intro gb hg w3 hbox hb; have S := Aside0.mk (PS.mk (w0 := w) (gp := gp) (gb := gb) (kd := a0_0) (lk := a0_1) (A := A0_2) (n := l0_2.length) (c := c0_2) (arr := zeros) (below_step (pw_below_drewN HB.out _) hb) (blk_below (blk_drewN HX.out _) hb) hbox HG.out (by rw [hg]; exact (pw_below_drewN HB.out _).size) (by rw [hg]; exact blk_lt (blk_drewN HX.out _)) (by simp [zeros])); clear hg hbox hb))
  clear c0 c1 c2 HB HX HG HC
  have c0 := blk_cell S.out.bp 0
  have c1 := blk_cell S.out.bp 1
  have c2 := blk_cell S.out.bp 2
  have f4 := blk_frozen S.out.ba 4
  have g4 := blk_cell S.out.ba 4
  simp only [List.getElem?_toArray, List.getElem?_cons_zero, List.getElem?_cons_succ] at c0 c1 c2
  go_upto_region 7 with (fail)
  have S1 := Aside0.mk (S.out.moved (w' := w3.setCell ⟨gb, 4, none⟩ (.int .u8 a0_0)) (xs' := zeros.set 4 a0_0) (blk_put S.out.ba 4 _ (by simp [u8s, nums])) ((Below.refl gb w3).setCell (p := ⟨gb, 4, none⟩) (Nat.le_refl gb) _) (by simp [zeros]))
  clear S c0 c1 c2 f4 g4
  generalize w3.setCell ⟨gb, 4, none⟩ (.int .u8 a0_0) = w4 at S1 ⊢
  have c2 := blk_cell S1.out.bp 2
  simp only [List.getElem?_toArray, List.getElem?_cons_zero, List.getElem?_cons_succ] at c2
  have HL0 : Aside0 (t0.length = 2) := ⟨by have := HT0.out; unfold page_two.f at this; rw [← Option.some.inj this]; rfl⟩
  go_region_law (first
    | (refine goes_ Try.func57 (by kernel_rfl) rfl #[.int .i64 (l0_2.length : Int)] (by rfl) rfl rfl (by (try simp only [List.map_toArray, List.map_cons, List.map_nil]); first | done | rfl) ?_; refine (page_two.calls _ t0 _ HT0.out).mono ?_; rintro e w5 ⟨v5, rfl, ho, hb⟩; obtain ⟨Ao, co, rfl⟩ := Kd.R_slice ho; refine ⟨_, rfl, ?_⟩; have S2 := Aside0.mk (S1.out.drew.below hb); have R2 := Aside0.mk (Kd.R_reads' ho); clear ho hb)
    | (refine S2.out.copy rfl (.tmp 34) (.tmp 38) rfl 6 1018 1018 Ao t0.length co t0 (by rfl) (by rfl) R2.out.2.2 (by rw [HL0.out]; decide) (by rw [HL0.out]; decide) ?_; intro w6 S3_; have S3 := Aside0.mk S3_; clear S3_))
  clear S1 c2 S2 R2
  go_upto_region 8 with (fail)
  have c1 := blk_cell S3.out.bp 1
  simp only [List.getElem?_toArray, List.getElem?_cons_zero, List.getElem?_cons_succ] at c1
  have HL1 : Aside0 (t1.length = 4) := ⟨by have := HT1.out; unfold page_four.f page_two.f at this; simp at this; rw [← this]; rfl⟩
  go_region_law (first
    | (refine goes_ Try.func58 (by kernel_rfl) rfl #[.int .i64 a0_1] (by rfl) rfl rfl (by (try simp only [List.map_toArray, List.map_cons, List.map_nil]); first | done | rfl) ?_; refine (page_four.calls _ t1 _ HT1.out).mono ?_; rintro e w7 ⟨v7, rfl, ho, hb⟩; obtain ⟨Ao7, co7, rfl⟩ := Kd.R_slice ho; refine ⟨_, rfl, ?_⟩; have S4 := Aside0.mk (S3.out.drew.below hb); have R4 := Aside0.mk (Kd.R_reads' ho); clear ho hb)
    | (refine S4.out.copy rfl (.tmp 40) (.tmp 43) rfl 8 1016 1016 Ao7 t1.length co7 t1 (by rfl) (by rfl) R4.out.2.2 (by rw [HL1.out]; decide) (by rw [HL1.out]; decide) ?_; intro w8 S5_; have S5 := Aside0.mk S5_; clear S5_))
  clear S3 c1 S4 R4
  have c2 := blk_cell S5.out.bp 2
  simp only [List.getElem?_toArray, List.getElem?_cons_zero, List.getElem?_cons_succ] at c2
  go_wp2_with (fail)
  have HL : Aside0 (l0_2.length ≤ 9223372036854775807) := ⟨HR.out.2.1⟩
  have HAR' : Aside0 (page_Seal.cells l0_2 0 1024 (page_Seal.spl (page_Seal.spl (zeros.set 4 a0_0) 6 t0) 8 t1) = some arr) := ⟨by
    have := HAR.out
    rwa [show a0_0 % 256 = a0_0 by omega] at this⟩
  clear HAR c2
  go_loopw [5, 48] (fun v5 v48 wr => ∃ (j e : Nat) (b : List Int), j ≤ l0_2.length ∧ v5 = .int .i64 (e : Int) ∧ v48 = .int .i64 (j : Int) ∧ e ≤ 1024 ∧ Aside0 (page_Seal.cells (l0_2.drop j) j e b = some arr) ∧ Aside0 (PS w gp gb a0_0 a0_1 A0_2 l0_2.length c0_2 b wr)) (fun _ v48 _ => l0_2.length - (intOf v48).toNat)
  case atStart => exact ⟨0, 1024, _, Nat.zero_le _, rfl, rfl, Nat.le_refl _, HAR', S5⟩
  case round =>
    clear S5 HAR'
    obtain ⟨j, e, b, hj, rfl, rfl, he, HJ, SJ⟩ := hrel
    have hm := HL.out
    by_cases hlt : j < l0_2.length
    · obtain ⟨hj2, e2, rfl, hnext⟩ := cells_step hlt HJ.out
      have HN := Aside0.mk hnext
      clear hnext
      obtain ⟨ad, hA, hx⟩ := Kd.at_string HR.out (j : Int) (by omega) (by omega)
      subst hA
      replace hx := (SJ.out.hb.cell (World.block_lt_of_cell? w _ hx)).trans hx
      generalize hd : rdOf ByteArray.empty l0_2 (j : Int) = d at *
      have HD := Aside0.mk hd
      clear hd
      rw [Int.toNat_natCast] at hx
      go_upto_region 14 with (fail)
      have w1_ : IntKind.i64.wrap (2 * (j : Int)) = 2 * (j : Int) := IntWalk.i64_in _ (by omega)
      have w2_ : IntKind.i64.wrap (12 + 2 * (j : Int)) = 12 + 2 * (j : Int) := IntWalk.i64_in _ (by omega)
      have sl_ := slice_arr gb (12 + 2 * j) (12 + 2 * (j : Int)) (by omega) (by omega)
      go_region_law (first
        | (refine goes_ Try.func57 (by kernel_rfl) rfl #[.int .i64 (e2 : Int)] (by rfl) rfl rfl (by (try simp only [List.map_toArray, List.map_cons, List.map_nil]); first | done | rfl) ?_; refine (page_two.calls _ (page_Seal.two e2) _ rfl).mono ?_; rintro e w9 ⟨v9, rfl, ho, hb⟩; obtain ⟨Ao9, co9, rfl⟩ := Kd.R_slice ho; refine ⟨_, rfl, ?_⟩; have S9 := Aside0.mk (SJ.out.drew.below hb); have R9 := Aside0.mk (Kd.R_reads' ho); clear ho hb)
        | (refine S9.out.copy rfl (.tmp 61) (.tmp 63) rfl (12 + 2 * j) (1024 - (12 + 2 * j)) (1024 - (12 + 2 * j)) Ao9 2 co9 (page_Seal.two e2) (by rfl) (by rfl) R9.out.2.2 (by omega) (by omega) ?_; intro w10 S10_; have S10 := Aside0.mk S10_; clear S10_))
      clear S9 R9 w1_ w2_ sl_
      go_upto_region 15 with (fail)
      have sl_ := slice_arr gb e2 (e2 : Int) rfl (by omega)
      go_region_law (first
        | (refine goes_ Try.func57 (by kernel_rfl) rfl #[.int .i64 (d.size : Int)] (by rfl) rfl rfl (by (try simp only [List.map_toArray, List.map_cons, List.map_nil]); first | done | rfl) ?_; refine (page_two.calls _ (page_Seal.two d.size) _ rfl).mono ?_; rintro e w11 ⟨v11, rfl, ho, hb⟩; obtain ⟨Ao11, co11, rfl⟩ := Kd.R_slice ho; refine ⟨_, rfl, ?_⟩; have S11 := Aside0.mk (S10.out.drew.below hb); have R11 := Aside0.mk (Kd.R_reads' ho); clear ho hb)
        | (refine S11.out.copy rfl (.tmp 66) (.tmp 69) rfl e2 (1024 - e2) (1024 - e2) Ao11 2 co11 (page_Seal.two d.size) (by rfl) (by rfl) R11.out.2.2 (by omega) (by omega) ?_; intro w12 S12_; have S12 := Aside0.mk S12_; clear S12_))
      clear S10 S11 R11 sl_
      go_upto_region 16 with (fail)
      obtain ⟨ad2, hd2, sl_⟩ := slice_arr2 gb (e2 + 2) ((e2 : Int) + 2) (by omega) (by omega)
      have HD2 := Aside0.mk hd2
      clear hd2
      go_upto_region 17 with (refine S12.out.copyS rfl (.tmp 73) (.tmp 74) rfl (e2 + 2) (1022 - e2) (1022 - e2) ad2 d (by rfl) (fun h => HD2.out (by omega)) (by rfl) (by omega) (by omega) ?_; intro w13 S13_; have S13 := Aside0.mk S13_; clear S13_)
      clear S12 sl_
      go_wp2_with (fail)
      go_roundw
      case rel => exact ⟨j + 1, e2, _, by omega, rfl, by go_num, by omega, HN, S13⟩
      case measure => simp [intOf]; omega
    · obtain rfl : j = l0_2.length := by omega
      have hb : b = arr := by
        have := HJ.out
        rw [List.drop_length] at this
        exact Option.some.inj this
      subst hb
      clear HJ
      have cv_ := Kd.C_string (P := Try.prog) (src := 53) (dst := 9) (e := 5) (c := 1020) Try.underlying53 Try.underlying5 Try.underlying9 (SJ.out.drew.rows 4 (by omega))
      go_upto_region 18 with (fail)
      obtain ⟨k1_, k2_⟩ := sum_range HCS.out
      have w1_ : IntKind.i64.wrap cs = cs := IntWalk.i64_in _ (by omega)
      have HL4 : Aside0 (t4.length = 4) := ⟨by have := HT4.out; unfold page_four.f page_two.f at this; simp at this; rw [← this]; rfl⟩
      go_region_law (first
        | (refine goes_ Try.func59 (by kernel_rfl) rfl #[.string (strOfNums (b.drop 4))] (by rfl) rfl rfl (by (try simp only [List.map_toArray, List.map_cons, List.map_nil]); first | done | rfl) ?_; refine (page_Sum.calls k _ cs _ HCS.out).mono ?_; rintro e w14 ⟨rfl, nd, rfl⟩; refine ⟨_, rfl, ?_⟩)
        | (refine goes_ Try.func58 (by kernel_rfl) rfl #[.int .i64 cs] (by rfl) rfl rfl (by (try simp only [List.map_toArray, List.map_cons, List.map_nil]); first | done | rfl) ?_; refine (page_four.calls _ t4 _ HT4.out).mono ?_; rintro e w15 ⟨v15, rfl, ho, hb⟩; obtain ⟨Ao15, co15, rfl⟩ := Kd.R_slice ho; refine ⟨_, rfl, ?_⟩; have S15 := Aside0.mk ((SJ.out.below (pw_below_drewN (Below.refl _ _) _)).below hb); have R15 := Aside0.mk (Kd.R_reads' ho); clear ho hb)
        | (refine S15.out.copy rfl (.tmp 77) (.tmp 82) rfl 0 1024 1024 Ao15 t4.length co15 t4 (by rfl) (by rfl) R15.out.2.2 (by rw [HL4.out]; decide) (by rw [HL4.out]; decide) ?_; intro w16 S16_; have S16 := Aside0.mk S16_; clear S16_))
      clear cv_ w1_ k1_ k2_
      have cv_ := Kd.C_string (P := Try.prog) (src := 53) (dst := 9) (e := 5) (c := 1024) Try.underlying53 Try.underlying5 Try.underlying9 (S16.out.rows 0 (by omega))
      rw [List.drop_zero] at cv_
      go_wp2
      go_ret2
      exact ⟨rfl, S16.out.hb⟩
attribute [local go_sem] max2_int min2_int max_two min_two max_three min_three max_four min_four   -- for this text's walks alone
set_option linter.unusedVariables false
set_option linter.unusedSimpArgs false
def page_at16.f (a0 : ByteArray) (a1 : Int) : Option (Int) := if 0 ≤ a1 then (if a1 < (a0.size : Int) then (if 0 ≤ (wrap64 (a1 + 1)) then (if (wrap64 (a1 + 1)) < (a0.size : Int) then (some (Go.bits .or .i64 (wrap64 ((wrap64 (bt a0 a1)) * 256)) (wrap64 (bt a0 (wrap64 (a1 + 1)))))) else (none)) else (none)) else (none)) else (none)
set_option maxHeartbeats 8000000 in
set_option maxRecDepth 100000 in
theorem page_at16.calls (a0 : ByteArray) (a1 : Int) (r : Int) (w : World) (h : page_at16.f a0 a1 = some r) :
    Calls Try.prog 61 #[.string a0, .int .i64 a1] w fun e w' => e = .returned (.int .i64 r) ∧ Drawn0 w w' := by
  have H : (if 0 ≤ a1 then (if a1 < (a0.size : Int) then (if 0 ≤ (wrap64 (a1 + 1)) then (if (wrap64 (a1 + 1)) < (a0.size : Int) then (some (Go.bits .or .i64 (wrap64 ((wrap64 (bt a0 a1)) * 256)) (wrap64 (bt a0 (wrap64 (a1 + 1)))))) else (none)) else (none)) else (none)) else (none)) = some r := h
  clear h
  by_cases c3 : 0 ≤ a1
  · rw [if_pos c3] at H
    have c3b0 : decide (0 ≤ a1) = true := decide_eq_true c3
    clear c3
    by_cases c4 : a1 < (a0.size : Int)
    · rw [if_pos c4] at H
      have c4b0 : decide (a1 < (a0.size : Int)) = true := decide_eq_true c4
      clear c4
      obtain ⟨ji6, hji6⟩ : ∃ j_ : Int, (wrap64 (a1 + 1)) = j_ := ⟨_, rfl⟩
      replace H : (if 0 ≤ (ji6) then (if (ji6) < (a0.size : Int) then (some (Go.bits .or .i64 (wrap64 ((wrap64 (bt a0 a1)) * 256)) (wrap64 (bt a0 (ji6))))) else (none)) else (none)) = some r := by first | (rw [hji6] at H; exact H) | (simp only [hji6] at H ⊢; exact H)
      have hji6w : (IntKind.i64.wrap (a1 + 1)) = ji6 := (i64_w _).trans hji6
      (try simp only [hji6] at c4b0)
      (try simp only [hji6] at c3b0)
      by_cases c7 : 0 ≤ (ji6)
      · rw [if_pos c7] at H
        have c7b0 : decide (0 ≤ (ji6)) = true := decide_eq_true c7
        clear c7
        by_cases c8 : (ji6) < (a0.size : Int)
        · rw [if_pos c8] at H
          have c8b0 : decide ((ji6) < (a0.size : Int)) = true := decide_eq_true c8
          clear c8
          obtain rfl := Option.some.inj H
          have p5 : 0 ≤ (a1 : Int) := of_decide_eq_true (by first | (with_reducible assumption) | assumption)
          have q5 : a1 < (a0.size : Int) := of_decide_eq_true (by first | (with_reducible assumption) | assumption)
          have hx5 := bt_at a0 a1
          replace p5 := eq_true p5
          replace q5 := eq_true q5
          have p9 : 0 ≤ ((ji6) : Int) := of_decide_eq_true (by first | (with_reducible assumption) | assumption)
          have q9 : (ji6) < (a0.size : Int) := of_decide_eq_true (by first | (with_reducible assumption) | assumption)
          have hx9 := bt_at a0 (ji6)
          replace p9 := eq_true p9
          replace q9 := eq_true q9
          go_enter Try.func61, Try.ntmps61
          go_wp2
          repeat (go_quiet (fail); try go_wp2)
          go_ret
          exact ⟨by first | rfl | (simp; done) | (simp only [← hji6] <;> (first | rfl | simp)) | (simp [*]; done) | exact bq1 _ _ | exact bq2 _ _ | exact congrArg Value.bool (bq2 _ _) | exact congrArg Value.bool (bq1 _ _) | exact congrArg Value.bool (bq1' _ _) | exact bq1' _ _ | exact congrArg Value.bool (bq2' _ _) | exact bq2' _ _, by repeat (first | exact Drawn0.refl _ | apply Drawn0.step)⟩
        · rw [if_neg c8] at H
          exact absurd H (by simp)
      · rw [if_neg c7] at H
        exact absurd H (by simp)
    · rw [if_neg c4] at H
      exact absurd H (by simp)
  · rw [if_neg c3] at H
    exact absurd H (by simp)
def page_at32.f (a0 : ByteArray) (a1 : Int) : Option (Int) := (page_at16.f a0 a1).bind fun t149 => ((page_at16.f a0 (wrap64 (a1 + 2))).bind fun t150 => (some (Go.bits .or .i64 (wrap64 (t149 * 65536)) t150)))
set_option maxHeartbeats 8000000 in
set_option maxRecDepth 100000 in
theorem page_at32.calls (a0 : ByteArray) (a1 : Int) (r : Int) (w : World) (h : page_at32.f a0 a1 = some r) :
    Calls Try.prog 60 #[.string a0, .int .i64 a1] w fun e w' => e = .returned (.int .i64 r) ∧ Drawn0 w w' := by
  have H : ((page_at16.f a0 a1).bind fun t149 => ((page_at16.f a0 (wrap64 (a1 + 2))).bind fun t150 => (some (Go.bits .or .i64 (wrap64 (t149 * 65536)) t150)))) = some r := h
  clear h
  replace H := Option.bind_eq_some_iff.mp H
  obtain ⟨t149, A30, H⟩ := H
  replace H : ((page_at16.f a0 (wrap64 (a1 + 2))).bind fun t150 => (some (Go.bits .or .i64 (wrap64 (t149 * 65536)) t150))) = some r := H
  have A3 := Aside0.mk A30
  clear A30
  replace H := Option.bind_eq_some_iff.mp H
  obtain ⟨t150, A40, H⟩ := H
  replace H : (some (Go.bits .or .i64 (wrap64 (t149 * 65536)) t150)) = some r := H
  have A4 := Aside0.mk A40
  clear A40
  obtain rfl := Option.some.inj H
  go_enter Try.func60, Try.ntmps60
  go_wp2_with (first | ((with_reducible refine gate_callee (f := 61) rfl ?_); refine goesL_ (some 7) rfl rfl Try.func61 (by kernel_rfl) rfl #[.string a0, .int .i64 a1] rfl (by (try simp only [List.map_toArray, List.map_cons, List.map_nil]); first | done | rfl | (simp only [List.length_drop, List.length_take]; rfl) | (simp only [Int.ofNat_lt, Int.ofNat_le]; done) | (simp only [Int.ofNat_lt, Int.ofNat_le]; rfl) | (simp only [ByteArray.size_append, Int.natCast_add]; rfl)) ?_; (with_reducible refine (page_at16.calls a0 a1 t149 _ A3.out).mono ?_); rintro e w' ⟨rfl, ⟨nd, rfl⟩⟩; refine ⟨_, rfl, ?_⟩) | ((with_reducible refine gate_callee (f := 61) rfl ?_); refine goesL_ (some 12) rfl rfl Try.func61 (by kernel_rfl) rfl #[.string a0, .int .i64 (wrap64 (a1 + 2))] rfl (by (try simp only [List.map_toArray, List.map_cons, List.map_nil]); first | done | rfl | (simp only [List.length_drop, List.length_take]; rfl) | (simp only [Int.ofNat_lt, Int.ofNat_le]; done) | (simp only [Int.ofNat_lt, Int.ofNat_le]; rfl) | (simp only [ByteArray.size_append, Int.natCast_add]; rfl)) ?_; (with_reducible refine (page_at16.calls a0 (wrap64 (a1 + 2)) t150 _ A4.out).mono ?_); rintro e w' ⟨rfl, ⟨nd, rfl⟩⟩; refine ⟨_, rfl, ?_⟩))
  go_ret
  exact ⟨by first | rfl | (simp; done) | (simp [*]; done) | exact bq1 _ _ | exact bq2 _ _ | exact congrArg Value.bool (bq2 _ _) | exact congrArg Value.bool (bq1 _ _) | exact congrArg Value.bool (bq1' _ _) | exact bq1' _ _ | exact congrArg Value.bool (bq2' _ _) | exact bq2' _ _, by repeat (first | exact Drawn0.refl _ | apply Drawn0.step)⟩
attribute [local go_sem] max2_int min2_int max_two min_two max_three min_three max_four min_four   -- for this text's walks alone
set_option linter.unusedVariables false
set_option linter.unusedSimpArgs false
mutual
def page_Open.j0 : Nat → ByteArray → Bool → Option (Int × Int × List ByteArray × Int)
  | 0, _, _ => none
  | k + 1, x0, x21 => if x21 = true then (some (0, 0, ([] : List ByteArray), 4)) else (if 4 < (x0.size : Int) then ((page_at32.f x0 8).bind fun t154 => ((page_at16.f x0 6).bind fun t156 => (if (wrap64 (12 + (wrap64 (2 * t156)))) > 1024 then (some (0, 0, ([] : List ByteArray), 4)) else (page_Open.l0 k x0 t156 0 (wrap64 (bt x0 4)) t154 ([] : List ByteArray))))) else (none))
def page_Open.l0 : Nat → ByteArray → Int → Int → Int → Int → List ByteArray → Option (Int × Int × List ByteArray × Int)
  | 0, _, _, _, _, _, _ => none
  | k + 1, x0, x36, x37, x156000, x156001, x156002 => if x37 < x36 then ((page_at16.f x0 (wrap64 (12 + (wrap64 (2 * x37))))).bind fun t159 => (if (wrap64 (t159 + 2)) > 1024 then (some (0, 0, ([] : List ByteArray), 4)) else ((page_at16.f x0 t159).bind fun t160 => (if (wrap64 ((wrap64 (t159 + 2)) + t160)) > 1024 then (some (0, 0, ([] : List ByteArray), 4)) else ((page_at16.f x0 t159).bind fun t161 => (if 0 ≤ (wrap64 (t159 + 2)) then (if (wrap64 (t159 + 2)) ≤ (wrap64 ((wrap64 (t159 + 2)) + t161)) then (if (wrap64 ((wrap64 (t159 + 2)) + t161)) ≤ (x0.size : Int) then (if x156002.length < 8796093022208 then (page_Open.l0 k x0 x36 (wrap64 (x37 + 1)) x156000 x156001 (x156002 ++ [x0.extract ((wrap64 (t159 + 2)) : Int).toNat ((wrap64 ((wrap64 (t159 + 2)) + t161)) : Int).toNat])) else (none)) else (none)) else (none)) else (none))))))) else ((page_Seal.f k x156000 x156001 x156002).bind fun bt157 => (if bt157.2 = 0 then (if bt157.1.toList = x0.toList then (some (x156000, x156001, x156002, 0)) else (some (0, 0, ([] : List ByteArray), 4))) else (some (0, 0, ([] : List ByteArray), 4))))
end
def page_Open.f (k : Nat) (a0 : ByteArray) : Option (Int × Int × List ByteArray × Int) := if (a0.size : Int) = 1024 then ((page_at32.f a0 0).bind fun t152 => (if 4 ≤ (a0.size : Int) then ((page_Sum.f k (a0.extract 4 a0.size)).bind fun t153 => (page_Open.j0 k a0 (((t152) % 4294967296) != t153))) else (none))) else (page_Open.j0 k a0 true)
def page_Open.T1 : Bool × List (List Nat × List Nat) := (true, [([], []), ([0], [0]), ([1], [1]), ([2], [2]), ([3], [3]), ([4, 3, 3], [3, 4]), ([5, 3], [3, 5]), ([3], [3]), ([7, 3], [3, 7]), ([8, 5, 3], [3, 8]), ([6, 9, 3], [3, 6, 9]), ([3, 10], [3, 10])])
def page_Open.B1 : List Nat := [0, 1, 3, 7, 15, 31, 63, 15, 143, 447, 1023, 2047]
theorem page_Open.tab1 : rtab .any (opsOf Try.f31 1) = page_Open.T1 := by kernel_rfl
theorem page_Open.bits1 : waitsOk page_Open.T1.2 page_Open.B1 = true := by kernel_rfl
def page_Open.T3 : Bool × List (List Nat × List Nat) := (true, [([], []), ([0], [0]), ([1], [1]), ([], []), ([3], [3]), ([2, 4], [2, 4]), ([], []), ([6, 5, 4, 0, 1, 2, 3, 4, 5, 6], [5, 6])])
def page_Open.B3 : List Nat := [0, 1, 3, 0, 8, 31, 0, 127]
theorem page_Open.tab3 : rtab .any (opsOf Try.f31 3) = page_Open.T3 := by kernel_rfl
theorem page_Open.bits3 : waitsOk page_Open.T3.2 page_Open.B3 = true := by kernel_rfl
def page_Open.T13 : Bool × List (List Nat × List Nat) := (true, [([], []), ([0], [0]), ([], []), ([], []), ([3], [3]), ([], []), ([5], [5]), ([], []), ([], []), ([7, 8], [7, 8]), ([6, 9], [6, 9]), ([2, 4, 10], [2, 4, 10]), ([11], [11]), ([1, 12, 9], [1, 12]), ([0, 1, 2, 3, 4, 5, 6, 7, 8, 9, 10, 11, 12, 13], []), ([14, 13, 13, 0, 1, 2, 3, 4, 5, 6, 7, 8, 9, 10, 11, 12, 13], [13, 14])])
def page_Open.B13 : List Nat := [0, 1, 0, 0, 8, 0, 32, 0, 0, 384, 992, 2044, 4092, 8191, 16383, 32767]
theorem page_Open.tab13 : rtab .any (opsOf Try.f31 13) = page_Open.T13 := by kernel_rfl
theorem page_Open.bits13 : waitsOk page_Open.T13.2 page_Open.B13 = true := by kernel_rfl
set_option maxHeartbeats 8000000 in
set_option maxRecDepth 100000 in
theorem page_Open.calls (k : Nat) (a0 : ByteArray) (r1 : Int) (r2 : Int) (r3 : List ByteArray) (r4 : Int) (w : World) (h : page_Open.f k a0 = some (r1, r2, r3, r4)) :
    Calls Try.prog 31 #[.string a0] w fun e w' => ∃ v2_ : Value, e = .returned (.tuple #[.agg #[.int .i64 r1, .int .i64 r2, v2_], .int .i64 r4]) ∧ Kd.R Kd.string 9 w' w.heap.size (fun _ => True) v2_ r3 ∧ Below w.heap.size w w' := by
  have hu40 := Try.underlying76
  have HB := Aside0.mk (Below.refl w.heap.size w)
  have H : (if (a0.size : Int) = 1024 then ((page_at32.f a0 0).bind fun t152 => (if 4 ≤ (a0.size : Int) then ((page_Sum.f k (a0.extract 4 a0.size)).bind fun t153 => (page_Open.j0 k a0 (((t152) % 4294967296) != t153))) else (none))) else (page_Open.j0 k a0 true)) = some (r1, r2, r3, r4) := h
  clear h
  have HC2 := Aside0.mk H
  clear H
  go_enter Try.func31, Try.ntmps31
  go_upto_region 1 with (first | ((with_reducible refine gate_dst (N := 2) rfl ?_); refine box_event ?hg (N := 2) ?hd (cs := #[.int .i64 0, .int .i64 0, .slice none 0 0]) (t := 76) ?hr ?_; (case hd => rfl); (case hg => rfl); (case hr => first | (go_simp; done) | (go_simp; rfl)); intro gb151 hg w3 hbox hb; have n0_ := Aside0.mk (below_step (by repeat (first | (with_reducible first | exact HB.out | apply below_alloc | apply pw_below_drewN | apply below_drew1) | exact HB.out)) hb); have n1_ := Aside0.mk (hbox); have n2_ := Aside0.mk ((by rw [hg]; exact (below_size (by repeat (first | (with_reducible first | exact HB.out | apply below_alloc | apply pw_below_drewN | apply below_drew1) | exact HB.out))) : w.heap.size ≤ gb151)); have n3_ := Aside0.mk ((by rw [hg]; exact (below_size (by repeat (first | (with_reducible first | exact HB.out | apply below_alloc | apply pw_below_drewN | apply below_drew1) | exact HB.out))) : w.heap.size ≤ gb151)); clear HB; have HB := n0_; have BK151 := n1_; have GW151 := n2_; have GE151 := n3_; clear n0_ n1_ n2_ n3_; clear hb hbox hg))
  (try simp only [Act.put, List.setIfInBounds_toArray, List.set_cons_zero, List.set_cons_succ])
  go_cut [21] (fun v21 wc => ∃ (kq : Nat) (x21_1 : Bool), v21 = .bool x21_1 ∧ Aside0 (page_Open.j0 kq a0 x21_1 = some (r1, r2, r3, r4)) ∧ Aside0 (kq ≤ k) ∧ Aside0 (wc.heap[gb151]? = some (.cells #[.int .i64 0, .int .i64 0, (.slice none 0 0)] 76 (0, 0))) ∧ Aside0 (Below w.heap.size w wc))
  case first =>
    have H := HC2.out
    clear HC2
    by_cases c4 : (a0.size : Int) = 1024
    · rw [if_pos c4] at H
      have c4b0 : ((a0.size : Int) == 1024) = true := beq_iff_eq.mpr c4
      have c4b1 : ((a0.size : Int) != 1024) = false := bne_eq_false_iff_eq.mpr c4
      clear c4
      (first | rw [c4b0] | (simp only [i64_w, i32_w]; rw [c4b0]) | skip)
      replace H := Option.bind_eq_some_iff.mp H
      obtain ⟨t152, A50, H⟩ := H
      replace H : (if 4 ≤ (a0.size : Int) then ((page_Sum.f k (a0.extract 4 a0.size)).bind fun t153 => (page_Open.j0 k a0 (((t152) % 4294967296) != t153))) else (none)) = some (r1, r2, r3, r4) := H
      have A5 := Aside0.mk A50
      clear A50
      by_cases c6 : 4 ≤ (a0.size : Int)
      · rw [if_pos c6] at H
        have c6b0 := eq_true c6
        have c6b1 : decide (4 ≤ (a0.size : Int)) = true := decide_eq_true c6
        clear c6
        replace H := Option.bind_eq_some_iff.mp H
        obtain ⟨t153, A70, H⟩ := H
        replace H : (page_Open.j0 k a0 (((t152) % 4294967296) != t153)) = some (r1, r2, r3, r4) := H
        have A7 := Aside0.mk A70
        clear A70
        have H' := Aside0.mk H
        clear H
        try go_wp2
        have n0_ := Aside0.mk (blk_drew BK151.out)
        have n1_ := Aside0.mk (below_drew1 HB.out)
        clear BK151
        clear HB
        have BK151 := n0_
        have HB := n1_
        clear n0_ n1_
        refine start_ (n := 12) (S := fun w' => True) (ds := []) (flg 12 0) (by kernel_rfl) rfl rfl trivial (fun hHeld => ?_); refine with_tabW page_Open.tab1 page_Open.bits1 (fun HT_ HW_ => ?_)
        generalize w3.drew = w8 at BK151 HB hHeld ⊢
        refine pure_ (i := 0) (N := some 10) (v := ?_) (a' := ?_) (flg 12 1) rfl rfl (any_of HT_.out (by kernel_rfl)) (fun _ _ _ h => h) (Or.inl ⟨by rfl, ?_⟩) ?_ ?_
        rotate_left
        · intro w'
          go_simp
          with_reducible rfl
        rotate_left
        · simp only [Act.put, List.setIfInBounds_toArray, List.set_cons_zero, List.set_cons_succ, i64_w, i32_w]
          rfl
        refine pure_ (i := 1) (N := some 11) (v := ?_) (a' := ?_) (flg 12 3) rfl rfl (any_of HT_.out (by kernel_rfl)) (fun _ _ _ h => h) (Or.inl ⟨by rfl, ?_⟩) ?_ ?_
        rotate_left
        · intro w'
          go_simp
          with_reducible rfl
        rotate_left
        · simp only [Act.put, List.setIfInBounds_toArray, List.set_cons_zero, List.set_cons_succ, i64_w, i32_w]
          rfl
        refine pure_ (i := 2) (N := some 12) (v := ?_) (a' := ?_) (flg 12 7) rfl rfl (any_of HT_.out (by kernel_rfl)) (fun _ _ _ h => h) (Or.inl ⟨by rfl, ?_⟩) ?_ ?_
        rotate_left
        · intro w'
          go_simp
          with_reducible rfl
        rotate_left
        · simp only [Act.put, List.setIfInBounds_toArray, List.set_cons_zero, List.set_cons_succ, i64_w, i32_w]
          rfl
        refine pure_ (i := 3) (N := some 13) (v := ?_) (a' := ?_) (flg 12 15) rfl rfl (any_of HT_.out (by kernel_rfl)) (fun _ _ _ h => h) (Or.inl ⟨by rfl, ?_⟩) ?_ ?_
        rotate_left
        · intro w'
          go_simp
          with_reducible rfl
        rotate_left
        · simp only [Act.put, List.setIfInBounds_toArray, List.set_cons_zero, List.set_cons_succ, i64_w, i32_w]
          rfl
        refine pure_ (i := 4) (N := some 14) (v := ?_) (a' := ?_) (flg 12 31) rfl rfl (any_of HT_.out (by kernel_rfl)) (fun _ _ _ h => h) (Or.inl ⟨by rfl, ?_⟩) ?_ ?_
        rotate_left
        · intro w'
          go_simp
          with_reducible rfl
        rotate_left
        · simp only [Act.put, List.setIfInBounds_toArray, List.set_cons_zero, List.set_cons_succ, i64_w, i32_w]
          rfl
        refine pure_ (i := 7) (N := some 17) (v := ?_) (a' := ?_) (flg 12 159) rfl rfl (any_of HT_.out (by kernel_rfl)) (fun _ _ _ h => h) (Or.inl ⟨by rfl, ?_⟩) ?_ ?_
        rotate_left
        · intro w'
          go_simp
          with_reducible rfl
        rotate_left
        · simp only [Act.put, List.setIfInBounds_toArray, List.set_cons_zero, List.set_cons_succ, i64_w, i32_w]
          rfl
        refine pure_ (i := 8) (N := some 18) (v := ?_) (a' := ?_) (flg 12 415) rfl rfl (any_of HT_.out (by kernel_rfl)) (fun _ _ _ h => h) (Or.inl ⟨by rfl, ?_⟩) ?_ ?_
        rotate_left
        · intro w'
          go_simp
          with_reducible rfl
        rotate_left
        · simp only [Act.put, List.setIfInBounds_toArray, List.set_cons_zero, List.set_cons_succ, i64_w, i32_w]
          rfl
        refine one_ (i := 5) (N := some 15) (flg 12 447) rfl rfl (one_of HT_.out (by kernel_rfl)) (by decide) (fun K hK => ?_)
        refine goes_ Try.func60 (by kernel_rfl) rfl #[.string a0, .int .i64 0] (by rfl) rfl rfl (by (try simp only [List.map_toArray, List.map_cons, List.map_nil]); first | done | rfl | (simp only [List.length_drop, List.length_take]; rfl) | (simp only [Int.ofNat_lt, Int.ofNat_le]; done) | (simp only [Int.ofNat_lt, Int.ofNat_le]; rfl) | (simp only [ByteArray.size_append, Int.natCast_add]; rfl)) ?_
        with_reducible refine (page_at32.calls a0 0 t152 _ A5.out).mono ?_
        rintro e w' ⟨rfl, ⟨nd, rfl⟩⟩
        refine ⟨_, rfl, ?_⟩
        refine hK.out _ _ trivial (fun hHeld => ?_)
        clear hK K
        refine norm_ (a' := ?_) ?_ ?_
        rotate_left
        · show Act.put _ (some 15) _ = _
          simp only [Act.put, List.setIfInBounds_toArray, List.set_cons_zero, List.set_cons_succ, i64_w, i32_w]
          rfl
        refine pure_ (i := 6) (N := some 16) (v := ?_) (a' := ?_) (flg 12 511) rfl rfl (any_of HT_.out (by kernel_rfl)) (fun _ _ _ h => h) (Or.inl ⟨by rfl, ?_⟩) ?_ ?_
        rotate_left
        · intro w'
          go_simp
          with_reducible rfl
        rotate_left
        · simp only [Act.put, List.setIfInBounds_toArray, List.set_cons_zero, List.set_cons_succ, i64_w, i32_w]
          rfl
        refine one_ (i := 9) (N := some 19) (flg 12 1023) rfl rfl (one_of HT_.out (by kernel_rfl)) (by decide) (fun K hK => ?_)
        refine goes_ Try.func59 (by kernel_rfl) rfl #[.string (a0.extract 4 a0.size)] (by rfl) rfl rfl (by (try simp only [List.map_toArray, List.map_cons, List.map_nil]); first | done | rfl | (simp only [List.length_drop, List.length_take]; rfl) | (simp only [Int.ofNat_lt, Int.ofNat_le]; done) | (simp only [Int.ofNat_lt, Int.ofNat_le]; rfl) | (simp only [ByteArray.size_append, Int.natCast_add]; rfl)) ?_
        with_reducible refine (page_Sum.calls k (a0.extract 4 a0.size) t153 _ A7.out).mono ?_
        rintro e w' ⟨rfl, ⟨nd, rfl⟩⟩
        refine ⟨_, rfl, ?_⟩
        refine hK.out _ _ trivial (fun hHeld => ?_)
        clear hK K
        refine norm_ (a' := ?_) ?_ ?_
        rotate_left
        · show Act.put _ (some 19) _ = _
          simp only [Act.put, List.setIfInBounds_toArray, List.set_cons_zero, List.set_cons_succ, i64_w, i32_w]
          rfl
        refine pure_ (i := 10) (N := some 20) (v := ?_) (a' := ?_) (flg 12 2047) rfl rfl (any_of HT_.out (by kernel_rfl)) (fun _ _ _ h => h) (Or.inl ⟨by rfl, ?_⟩) ?_ ?_
        rotate_left
        · intro w'
          go_simp
          with_reducible rfl
        rotate_left
        · simp only [Act.put, List.setIfInBounds_toArray, List.set_cons_zero, List.set_cons_succ, i64_w, i32_w]
          rfl
        refine pure_ (i := 11) (N := some 21) (v := ?_) (a' := ?_) (flg 12 4095) rfl rfl (any_of HT_.out (by kernel_rfl)) (fun _ _ _ h => h) (Or.inl ⟨by rfl, ?_⟩) ?_ ?_
        rotate_left
        · intro w'
          go_simp
          with_reducible rfl
        rotate_left
        · simp only [Act.put, List.setIfInBounds_toArray, List.set_cons_zero, List.set_cons_succ, i64_w, i32_w]
          rfl
        refine done_ (done_of HT_.out (by kernel_rfl)) ?_
        try go_wp2
        go_meet
        case rel => exact ⟨_, ((((t152) % 4294967296) != t153)), (by first | rfl | (simp; done) | (simp [*]; done) | exact bq1 _ _ | exact bq2 _ _ | exact congrArg Value.bool (bq2 _ _) | exact congrArg Value.bool (bq1 _ _) | exact congrArg Value.bool (bq1' _ _) | exact bq1' _ _ | exact congrArg Value.bool (bq2' _ _) | exact bq2' _ _), H', ⟨by first | omega | exact Nat.le_refl _⟩, ⟨by (with_reducible repeat (first | refine blk_drewN ?_ _ | refine blk_drew ?_ | refine blk_alloc ?_ _)); exact BK151.out⟩, ⟨by repeat (first | (with_reducible first | exact HB.out | apply below_alloc | apply pw_below_drewN | apply below_drew1 | refine below_set ?_ GE151.out) | exact HB.out)⟩⟩
      · rw [if_neg c6] at H
        exact absurd H (by simp)
    · rw [if_neg c4] at H
      have c4b0 : ((a0.size : Int) == 1024) = false := beq_eq_false_iff_ne.mpr c4
      have c4b1 : ((a0.size : Int) != 1024) = true := bne_iff_ne.mpr c4
      (first | rw [c4b0] | (simp only [i64_w, i32_w]; rw [c4b0]) | skip)
      have H' := Aside0.mk H
      clear H
      try go_wp2
      have n0_ := Aside0.mk (blk_drew BK151.out)
      have n1_ := Aside0.mk (below_drew1 HB.out)
      clear BK151
      clear HB
      have BK151 := n0_
      have HB := n1_
      clear n0_ n1_
      refine start_ (n := 12) (S := fun w' => True) (ds := []) (flg 12 0) (by kernel_rfl) rfl rfl trivial (fun hHeld => ?_); refine with_tabW page_Open.tab1 page_Open.bits1 (fun HT_ HW_ => ?_)
      generalize w3.drew = w9 at BK151 HB hHeld ⊢
      refine pure_ (i := 0) (N := some 10) (v := ?_) (a' := ?_) (flg 12 1) rfl rfl (any_of HT_.out (by kernel_rfl)) (fun _ _ _ h => h) (Or.inl ⟨by rfl, ?_⟩) ?_ ?_
      rotate_left
      · intro w'
        go_simp
        with_reducible rfl
      rotate_left
      · simp only [Act.put, List.setIfInBounds_toArray, List.set_cons_zero, List.set_cons_succ, i64_w, i32_w]
        rfl
      refine pure_ (i := 1) (N := some 11) (v := ?_) (a' := ?_) (flg 12 3) rfl rfl (any_of HT_.out (by kernel_rfl)) (fun _ _ _ h => h) (Or.inl ⟨by rfl, ?_⟩) ?_ ?_
      rotate_left
      · intro w'
        go_simp
        with_reducible rfl
      rotate_left
      · simp only [Act.put, List.setIfInBounds_toArray, List.set_cons_zero, List.set_cons_succ, i64_w, i32_w]
        rfl
      refine pure_ (i := 2) (N := some 12) (v := ?_) (a' := ?_) (flg 12 7) rfl rfl (any_of HT_.out (by kernel_rfl)) (fun _ _ _ h => h) (Or.inl ⟨by rfl, ?_⟩) ?_ ?_
      rotate_left
      · intro w'
        go_simp
        with_reducible rfl
      rotate_left
      · simp only [Act.put, List.setIfInBounds_toArray, List.set_cons_zero, List.set_cons_succ, i64_w, i32_w]
        rfl
      refine pure_ (i := 3) (N := some 13) (v := ?_) (a' := ?_) (flg 12 15) rfl rfl (any_of HT_.out (by kernel_rfl)) (fun _ _ _ h => h) (Or.inl ⟨by rfl, ?_⟩) ?_ ?_
      rotate_left
      · intro w'
        go_simp
        with_reducible rfl
      rotate_left
      · simp only [Act.put, List.setIfInBounds_toArray, List.set_cons_zero, List.set_cons_succ, i64_w, i32_w]
        rfl
      refine pure_ (i := 4) (N := some 14) (v := undef) (a' := ?_) (flg 12 31) rfl rfl (any_of HT_.out (by kernel_rfl)) (fun _ _ _ h => h) (Or.inr ⟨by rfl, rfl⟩) ?_ ?_
      rotate_left
      · simp only [Act.put, List.setIfInBounds_toArray, List.set_cons_zero, List.set_cons_succ, i64_w, i32_w]
        rfl
      refine pure_ (i := 5) (N := some 15) (v := undef) (a' := ?_) (flg 12 63) rfl rfl (any_of HT_.out (by kernel_rfl)) (fun _ _ _ h => h) (Or.inr ⟨by rfl, rfl⟩) ?_ ?_
      rotate_left
      · simp only [Act.put, List.setIfInBounds_toArray, List.set_cons_zero, List.set_cons_succ, i64_w, i32_w]
        rfl
      refine pure_ (i := 6) (N := some 16) (v := undef) (a' := ?_) (flg 12 127) rfl rfl (any_of HT_.out (by kernel_rfl)) (fun _ _ _ h => h) (Or.inr ⟨by rfl, rfl⟩) ?_ ?_
      rotate_left
      · simp only [Act.put, List.setIfInBounds_toArray, List.set_cons_zero, List.set_cons_succ, i64_w, i32_w]
        rfl
      refine pure_ (i := 7) (N := some 17) (v := undef) (a' := ?_) (flg 12 255) rfl rfl (any_of HT_.out (by kernel_rfl)) (fun _ _ _ h => h) (Or.inr ⟨by rfl, rfl⟩) ?_ ?_
      rotate_left
      · simp only [Act.put, List.setIfInBounds_toArray, List.set_cons_zero, List.set_cons_succ, i64_w, i32_w]
        rfl
      refine pure_ (i := 8) (N := some 18) (v := undef) (a' := ?_) (flg 12 511) rfl rfl (any_of HT_.out (by kernel_rfl)) (fun _ _ _ h => h) (Or.inr ⟨by rfl, rfl⟩) ?_ ?_
      rotate_left
      · simp only [Act.put, List.setIfInBounds_toArray, List.set_cons_zero, List.set_cons_succ, i64_w, i32_w]
        rfl
      refine pure_ (i := 9) (N := some 19) (v := undef) (a' := ?_) (flg 12 1023) rfl rfl (any_of HT_.out (by kernel_rfl)) (fun _ _ _ h => h) (Or.inr ⟨by rfl, rfl⟩) ?_ ?_
      rotate_left
      · simp only [Act.put, List.setIfInBounds_toArray, List.set_cons_zero, List.set_cons_succ, i64_w, i32_w]
        rfl
      refine pure_ (i := 10) (N := some 20) (v := undef) (a' := ?_) (flg 12 2047) rfl rfl (any_of HT_.out (by kernel_rfl)) (fun _ _ _ h => h) (Or.inr ⟨by rfl, rfl⟩) ?_ ?_
      rotate_left
      · simp only [Act.put, List.setIfInBounds_toArray, List.set_cons_zero, List.set_cons_succ, i64_w, i32_w]
        rfl
      refine pure_ (i := 11) (N := some 21) (v := ?_) (a' := ?_) (flg 12 4095) rfl rfl (any_of HT_.out (by kernel_rfl)) (fun _ _ _ h => h) (Or.inl ⟨by rfl, ?_⟩) ?_ ?_
      rotate_left
      · intro w'
        go_simp
        with_reducible rfl
      rotate_left
      · simp only [Act.put, List.setIfInBounds_toArray, List.set_cons_zero, List.set_cons_succ, i64_w, i32_w]
        rfl
      refine done_ (done_of HT_.out (by kernel_rfl)) ?_
      try go_wp2
      go_meet
      case rel => exact ⟨_, (true), (by first | rfl | (simp; done) | (simp [*]; done) | exact bq1 _ _ | exact bq2 _ _ | exact congrArg Value.bool (bq2 _ _) | exact congrArg Value.bool (bq1 _ _) | exact congrArg Value.bool (bq1' _ _) | exact bq1' _ _ | exact congrArg Value.bool (bq2' _ _) | exact bq2' _ _), H', ⟨by first | omega | exact Nat.le_refl _⟩, ⟨by (with_reducible repeat (first | refine blk_drewN ?_ _ | refine blk_drew ?_ | refine blk_alloc ?_ _)); exact BK151.out⟩, ⟨by repeat (first | (with_reducible first | exact HB.out | apply below_alloc | apply pw_below_drewN | apply below_drew1 | refine below_set ?_ GE151.out) | exact HB.out)⟩⟩
  case rest =>
    clear HC2
    try clear c1
    try clear q1
    try clear p2
    try clear q2
    try clear c3
    try clear c4
    try clear c4b0
    try clear c4b1
    try clear c6
    try clear c6b0
    try clear c6b1
    obtain ⟨kq, x21_1, rfl, HA, HJ1, BK151, HB⟩ := hcut
    cases kq with
    | zero => exact absurd HA.out (by simp [page_Open.j0])
    | succ kj1 =>
      have H := HA.out
      clear HA
      simp only [page_Open.j0] at H
      by_cases c10 : x21_1 = true
      · subst c10
        have H1 : (some (0, 0, ([] : List ByteArray), 4)) = some (r1, r2, r3, r4) := by rw [if_pos rfl] at H; exact H
        clear H
        have H := H1
        clear H1
        simp only [Option.some.injEq, Prod.mk.injEq] at H
        obtain ⟨rfl, rfl, rfl, rfl⟩ := H
        have hcz11_0 : wc.cell? ⟨gb151, 0, none⟩ = some (.int .i64 0) := (blk_cell BK151.out 0).trans rfl
        have hcz11_1 : wc.cell? ⟨gb151, 1, none⟩ = some (.int .i64 0) := (blk_cell BK151.out 1).trans rfl
        have hcz11_2 : wc.cell? ⟨gb151, 2, none⟩ = some (.slice none 0 0) := (blk_cell BK151.out 2).trans rfl
        have hfz11_0 := blk_frozen BK151.out 0
        have hfz11_1 := blk_frozen BK151.out 1
        have hfz11_2 := blk_frozen BK151.out 2
        go_wp2
        refine bodyPost_ret (results_ct rfl _ _ gb151 76 #[.int .i64 0, .int .i64 0, .slice none 0 0] (0, 0) _ rfl (by (with_reducible repeat (first | refine blk_drewN ?_ _ | refine blk_drew ?_ | refine blk_alloc ?_ _)); refine blk_put (cs := #[.int .i64 0, .int .i64 0, .slice none 0 0]) ?_ 2 _ rfl; (with_reducible repeat (first | refine blk_drewN ?_ _ | refine blk_drew ?_ | refine blk_alloc ?_ _)); refine blk_put (cs := #[.int .i64 0, .int .i64 0, .slice none 0 0]) ?_ 1 _ rfl; (with_reducible repeat (first | refine blk_drewN ?_ _ | refine blk_drew ?_ | refine blk_alloc ?_ _)); refine blk_put (cs := #[.int .i64 0, .int .i64 0, .slice none 0 0]) ?_ 0 _ rfl; (with_reducible repeat (first | refine blk_drewN ?_ _ | refine blk_drew ?_ | refine blk_alloc ?_ _)); exact BK151.out) Try.underlying76 rfl (by kernel_rfl)) rfl ?_
        exact ⟨_, by first | rfl | (simp [errW_none, errW_some] <;> rfl) | (simp [*, errW_none, errW_some] <;> rfl), by first | exact Kd.R_nil _ _ _ _ _ | exact Kd.N_nil _ _ _ _ _ | exact Kd.V_nil _ _ _ _ _ | exact Kd.Q_nil _ _ _ _ _ | exact Kd.S_nil _ _ _ _ _, by repeat (first | (with_reducible first | exact HB.out | apply below_alloc | apply pw_below_drewN | apply below_drew1 | refine below_set ?_ GE151.out) | exact HB.out)⟩
      · replace c10 := Bool.eq_false_iff.mpr c10
        subst c10
        have H1 : (if 4 < (a0.size : Int) then ((page_at32.f a0 8).bind fun t154 => ((page_at16.f a0 6).bind fun t156 => (if (wrap64 (12 + (wrap64 (2 * t156)))) > 1024 then (some (0, 0, ([] : List ByteArray), 4)) else (page_Open.l0 kj1 a0 t156 0 (wrap64 (bt a0 4)) t154 ([] : List ByteArray))))) else (none)) = some (r1, r2, r3, r4) := by rw [if_neg (show ¬ (false = true) by decide)] at H; exact H
        clear H
        have H := H1
        clear H1
        by_cases c12 : 4 < (a0.size : Int)
        · rw [if_pos c12] at H
          have c12b0 : decide (4 < (a0.size : Int)) = true := decide_eq_true c12
          have c12b1 : decide (4 < a0.size) = true := decide_eq_true (by omega)
          clear c12
          replace H := Option.bind_eq_some_iff.mp H
          obtain ⟨t154, A140, H⟩ := H
          replace H : ((page_at16.f a0 6).bind fun t156 => (if (wrap64 (12 + (wrap64 (2 * t156)))) > 1024 then (some (0, 0, ([] : List ByteArray), 4)) else (page_Open.l0 kj1 a0 t156 0 (wrap64 (bt a0 4)) t154 ([] : List ByteArray)))) = some (r1, r2, r3, r4) := H
          have A14 := Aside0.mk A140
          clear A140
          replace H := Option.bind_eq_some_iff.mp H
          obtain ⟨t156, A150, H⟩ := H
          replace H : (if (wrap64 (12 + (wrap64 (2 * t156)))) > 1024 then (some (0, 0, ([] : List ByteArray), 4)) else (page_Open.l0 kj1 a0 t156 0 (wrap64 (bt a0 4)) t154 ([] : List ByteArray))) = some (r1, r2, r3, r4) := H
          have A15 := Aside0.mk A150
          clear A150
          by_cases c16 : (wrap64 (12 + (wrap64 (2 * t156)))) > 1024
          · rw [if_pos c16] at H
            have c16b0 : decide (1024 < (wrap64 (12 + (wrap64 (2 * t156))))) = true := decide_eq_true c16
            clear c16
            simp only [Option.some.injEq, Prod.mk.injEq] at H
            obtain ⟨rfl, rfl, rfl, rfl⟩ := H
            try go_wp2
            have n0_ := Aside0.mk (blk_drew BK151.out)
            have n1_ := Aside0.mk (below_drew1 HB.out)
            clear BK151
            clear HB
            have BK151 := n0_
            have HB := n1_
            clear n0_ n1_
            have p13 : 0 ≤ (4 : Int) := (by omega)
            have q13 : 4 < a0.size := (by have : (4 : Int) < (a0.size : Int) := of_decide_eq_true (by first | (with_reducible assumption) | assumption); omega)
            have hx13 : ∀ h : 4 < a0.size, ((a0[4]'h).toNat : Int) = bt a0 4 := bt_at a0 4
            clear p13
            have qi13 : (4 < (a0.size : Int)) = True := eq_true (of_decide_eq_true (by first | (with_reducible assumption) | assumption))
            replace q13 := eq_true q13
            refine start_ (n := 8) (S := fun w' => True) (ds := []) (flg 8 0) (by kernel_rfl) rfl rfl trivial (fun hHeld => ?_); refine with_tabW page_Open.tab3 page_Open.bits3 (fun HT_ HW_ => ?_)
            generalize wc.drew = w17 at BK151 HB hHeld ⊢
            refine pure_ (i := 0) (N := some 23) (v := ?_) (a' := ?_) (flg 8 1) rfl rfl (any_of HT_.out (by kernel_rfl)) (fun _ _ _ h => h) (Or.inl ⟨by rfl, ?_⟩) ?_ ?_
            rotate_left
            · intro w'
              go_simp
              with_reducible rfl
            rotate_left
            · simp only [Act.put, List.setIfInBounds_toArray, List.set_cons_zero, List.set_cons_succ, i64_w, i32_w]
              rfl
            refine pure_ (i := 3) (N := some 26) (v := ?_) (a' := ?_) (flg 8 9) rfl rfl (any_of HT_.out (by kernel_rfl)) (fun _ _ _ h => h) (Or.inl ⟨by rfl, ?_⟩) ?_ ?_
            rotate_left
            · intro w'
              go_simp
              with_reducible rfl
            rotate_left
            · simp only [Act.put, List.setIfInBounds_toArray, List.set_cons_zero, List.set_cons_succ, i64_w, i32_w]
              rfl
            refine take_ (i := 1) (N := some 24) (v := ?_) (a' := ?_) (flg 8 11) rfl rfl (take_ofW HT_.out HW_.out (by kernel_rfl)) (fun _ _ _ h => h) (Or.inl ⟨by rfl, ?_⟩) hHeld ?_ ?_
            rotate_left
            · intro w' _
              go_simp
              with_reducible rfl
            rotate_left
            · simp only [Act.put, List.setIfInBounds_toArray, List.set_cons_zero, List.set_cons_succ, i64_w, i32_w]
              rfl
            refine pure_ (i := 2) (N := some 25) (v := ?_) (a' := ?_) (flg 8 15) rfl rfl (any_of HT_.out (by kernel_rfl)) (fun _ _ _ h => h) (Or.inl ⟨by rfl, ?_⟩) ?_ ?_
            rotate_left
            · intro w'
              go_simp
              with_reducible rfl
            rotate_left
            · simp only [Act.put, List.setIfInBounds_toArray, List.set_cons_zero, List.set_cons_succ, i64_w, i32_w]
              rfl
            refine join_ (σ := Nat) 1 (flg 8 127) (fun s_ => [(27, .int .i64 t154), (4, .pointer (some ⟨s_, 0, none⟩)), (28, .agg #[.int .i64 (wrap64 (bt a0 4)), .int .i64 t154, .slice none 0 0])]) (fun s_ w' => (w'.heap[gb151]? = some (.cells #[.int .i64 0, .int .i64 0, .slice none 0 0] 76 (0, 0))) ∧ (w'.heap[s_]? = some (.cells #[.int .i64 0, .int .i64 0, .slice none 0 0] 76 (0, 0))) ∧ (w.heap.size ≤ s_) ∧ (w.heap.size ≤ s_) ∧ (gb151 ≠ s_) ∧ (s_ ≠ gb151) ∧ (Below w.heap.size w w')) ?_ ?_
            rotate_left
            · intro hCont
              refine two_ (i := 4) (j := 6) (Ni := some 27) (Nj := some 4) (flg 8 31) (flg 8 79) rfl rfl rfl rfl (two_of HT_.out (by kernel_rfl)) (by decide) (by decide) (fun K hK => ?_) (fun K hK => ?_)
              · skip
                refine goes_ Try.func60 (by kernel_rfl) rfl #[.string a0, .int .i64 8] (by rfl) rfl rfl (by (try simp only [List.map_toArray, List.map_cons, List.map_nil]); first | done | rfl | (simp only [List.length_drop, List.length_take]; rfl) | (simp only [Int.ofNat_lt, Int.ofNat_le]; done) | (simp only [Int.ofNat_lt, Int.ofNat_le]; rfl) | (simp only [ByteArray.size_append, Int.natCast_add]; rfl)) ?_
                with_reducible refine (page_at32.calls a0 8 t154 _ A14.out).mono ?_
                rintro e w' ⟨rfl, ⟨nd, rfl⟩⟩
                refine ⟨_, rfl, ?_⟩
                refine hK.out _ _ trivial (fun hHeld => ?_)
                clear hK K
                refine norm_ (a' := ?_) ?_ ?_
                rotate_left
                · show Act.put _ (some 27) _ = _
                  simp only [Act.put, List.setIfInBounds_toArray, List.set_cons_zero, List.set_cons_succ, i64_w, i32_w]
                  rfl
                refine pure_ (i := 5) (N := some 28) (v := ?_) (a' := ?_) (flg 8 63) rfl rfl (any_of HT_.out (by kernel_rfl)) (fun _ _ _ h => h) (Or.inl ⟨by rfl, ?_⟩) ?_ ?_
                rotate_left
                · intro w'
                  go_simp
                  with_reducible rfl
                rotate_left
                · simp only [Act.put, List.setIfInBounds_toArray, List.set_cons_zero, List.set_cons_succ, i64_w, i32_w]
                  rfl
                refine one_ (i := 6) (N := some 4) (flg 8 127) rfl rfl (one_of HT_.out (by kernel_rfl)) (by decide) (fun K hK => ?_)
                refine box_step ?hg (N := 4) ?hd (cs := #[.int .i64 0, .int .i64 0, .slice none 0 0]) (t := 76) ?hr ?_; (case hd => rfl); (case hg => rfl); (case hr => first | (go_simp; done) | (go_simp; rfl))
                intro gb155 hg w18 hbox hb
                have n0_ := Aside0.mk (blk_below (g := gb151) (o := .cells #[.int .i64 0, .int .i64 0, .slice none 0 0] 76 (0, 0)) (by (with_reducible repeat (first | refine blk_drewN ?_ _ | refine blk_drew ?_ | refine blk_alloc ?_ _)); exact BK151.out) hb)
                have n1_ := Aside0.mk (below_step (by repeat (first | (with_reducible first | exact HB.out | apply below_alloc | apply pw_below_drewN | apply below_drew1 | refine below_set ?_ GE151.out) | exact HB.out)) hb)
                have n2_ := Aside0.mk (hbox)
                have n3_ := Aside0.mk ((by rw [hg]; exact (below_size (by repeat (first | (with_reducible first | exact HB.out | apply below_alloc | apply pw_below_drewN | apply below_drew1 | refine below_set ?_ GE151.out) | exact HB.out))) : w.heap.size ≤ gb155))
                have n4_ := Aside0.mk ((by rw [hg]; exact (below_size (by repeat (first | (with_reducible first | exact HB.out | apply below_alloc | apply pw_below_drewN | apply below_drew1 | refine below_set ?_ GE151.out) | exact HB.out))) : w.heap.size ≤ gb155))
                have n5_ := Aside0.mk ((by rw [hg]; exact Nat.ne_of_lt (blk_lt (g := gb151) (o := .cells #[.int .i64 0, .int .i64 0, .slice none 0 0] 76 (0, 0)) (by (with_reducible repeat (first | refine blk_drewN ?_ _ | refine blk_drew ?_ | refine blk_alloc ?_ _)); exact BK151.out)) : gb151 ≠ gb155))
                have n6_ := Aside0.mk ((by rw [hg]; exact Nat.ne_of_gt (blk_lt (g := gb151) (o := .cells #[.int .i64 0, .int .i64 0, .slice none 0 0] 76 (0, 0)) (by (with_reducible repeat (first | refine blk_drewN ?_ _ | refine blk_drew ?_ | refine blk_alloc ?_ _)); exact BK151.out)) : gb155 ≠ gb151))
                clear BK151
                clear HB
                have BK151 := n0_
                have HB := n1_
                have BK155 := n2_
                have GW155 := n3_
                have GE155 := n4_
                have NB151_155 := n5_
                have NB155_151 := n6_
                clear n0_ n1_ n2_ n3_ n4_ n5_ n6_
                clear hb hbox hg
                refine hK.out _ _ trivial (fun hHeld => ?_)
                clear hK K
                refine norm_ (a' := ?_) ?_ ?_
                rotate_left
                · show Act.put _ (some 4) _ = _
                  simp only [Act.put, List.setIfInBounds_toArray, List.set_cons_zero, List.set_cons_succ, i64_w, i32_w]
                  rfl
                exact norm_ (by simp only [putAll, Act.put, List.setIfInBounds_toArray, List.set_cons_zero, List.set_cons_succ]) (hCont (gb155) _ ⟨(by (with_reducible repeat (first | refine blk_drewN ?_ _ | refine blk_drew ?_ | refine blk_alloc ?_ _)); exact BK151.out), (by (with_reducible repeat (first | refine blk_drewN ?_ _ | refine blk_drew ?_ | refine blk_alloc ?_ _)); exact BK155.out), GW155.out, GE155.out, NB151_155.out, NB155_151.out, (by repeat (first | (with_reducible first | exact HB.out | apply below_alloc | apply pw_below_drewN | apply below_drew1 | refine below_set ?_ GE151.out | refine below_set ?_ GE155.out) | exact HB.out))⟩)
              · skip
                refine box_step ?hg (N := 4) ?hd (cs := #[.int .i64 0, .int .i64 0, .slice none 0 0]) (t := 76) ?hr ?_; (case hd => rfl); (case hg => rfl); (case hr => first | (go_simp; done) | (go_simp; rfl))
                intro gb155 hg w18 hbox hb
                have n0_ := Aside0.mk (blk_below (g := gb151) (o := .cells #[.int .i64 0, .int .i64 0, .slice none 0 0] 76 (0, 0)) (by (with_reducible repeat (first | refine blk_drewN ?_ _ | refine blk_drew ?_ | refine blk_alloc ?_ _)); exact BK151.out) hb)
                have n1_ := Aside0.mk (below_step (by repeat (first | (with_reducible first | exact HB.out | apply below_alloc | apply pw_below_drewN | apply below_drew1 | refine below_set ?_ GE151.out) | exact HB.out)) hb)
                have n2_ := Aside0.mk (hbox)
                have n3_ := Aside0.mk ((by rw [hg]; exact (below_size (by repeat (first | (with_reducible first | exact HB.out | apply below_alloc | apply pw_below_drewN | apply below_drew1 | refine below_set ?_ GE151.out) | exact HB.out))) : w.heap.size ≤ gb155))
                have n4_ := Aside0.mk ((by rw [hg]; exact (below_size (by repeat (first | (with_reducible first | exact HB.out | apply below_alloc | apply pw_below_drewN | apply below_drew1 | refine below_set ?_ GE151.out) | exact HB.out))) : w.heap.size ≤ gb155))
                have n5_ := Aside0.mk ((by rw [hg]; exact Nat.ne_of_lt (blk_lt (g := gb151) (o := .cells #[.int .i64 0, .int .i64 0, .slice none 0 0] 76 (0, 0)) (by (with_reducible repeat (first | refine blk_drewN ?_ _ | refine blk_drew ?_ | refine blk_alloc ?_ _)); exact BK151.out)) : gb151 ≠ gb155))
                have n6_ := Aside0.mk ((by rw [hg]; exact Nat.ne_of_gt (blk_lt (g := gb151) (o := .cells #[.int .i64 0, .int .i64 0, .slice none 0 0] 76 (0, 0)) (by (with_reducible repeat (first | refine blk_drewN ?_ _ | refine blk_drew ?_ | refine blk_alloc ?_ _)); exact BK151.out)) : gb155 ≠ gb151))
                clear BK151
                clear HB
                have BK151 := n0_
                have HB := n1_
                have BK155 := n2_
                have GW155 := n3_
                have GE155 := n4_
                have NB151_155 := n5_
                have NB155_151 := n6_
                clear n0_ n1_ n2_ n3_ n4_ n5_ n6_
                clear hb hbox hg
                refine hK.out _ _ trivial (fun hHeld => ?_)
                clear hK K
                refine norm_ (a' := ?_) ?_ ?_
                rotate_left
                · show Act.put _ (some 4) _ = _
                  simp only [Act.put, List.setIfInBounds_toArray, List.set_cons_zero, List.set_cons_succ, i64_w, i32_w]
                  rfl
                refine one_ (i := 4) (N := some 27) (flg 8 95) rfl rfl (one_of HT_.out (by kernel_rfl)) (by decide) (fun K hK => ?_)
                refine goes_ Try.func60 (by kernel_rfl) rfl #[.string a0, .int .i64 8] (by rfl) rfl rfl (by (try simp only [List.map_toArray, List.map_cons, List.map_nil]); first | done | rfl | (simp only [List.length_drop, List.length_take]; rfl) | (simp only [Int.ofNat_lt, Int.ofNat_le]; done) | (simp only [Int.ofNat_lt, Int.ofNat_le]; rfl) | (simp only [ByteArray.size_append, Int.natCast_add]; rfl)) ?_
                with_reducible refine (page_at32.calls a0 8 t154 _ A14.out).mono ?_
                rintro e w' ⟨rfl, ⟨nd, rfl⟩⟩
                refine ⟨_, rfl, ?_⟩
                refine hK.out _ _ trivial (fun hHeld => ?_)
                clear hK K
                refine norm_ (a' := ?_) ?_ ?_
                rotate_left
                · show Act.put _ (some 27) _ = _
                  simp only [Act.put, List.setIfInBounds_toArray, List.set_cons_zero, List.set_cons_succ, i64_w, i32_w]
                  rfl
                refine pure_ (i := 5) (N := some 28) (v := ?_) (a' := ?_) (flg 8 127) rfl rfl (any_of HT_.out (by kernel_rfl)) (fun _ _ _ h => h) (Or.inl ⟨by rfl, ?_⟩) ?_ ?_
                rotate_left
                · intro w'
                  go_simp
                  with_reducible rfl
                rotate_left
                · simp only [Act.put, List.setIfInBounds_toArray, List.set_cons_zero, List.set_cons_succ, i64_w, i32_w]
                  rfl
                exact norm_ (by simp only [putAll, Act.put, List.setIfInBounds_toArray, List.set_cons_zero, List.set_cons_succ]) (hCont (gb155) _ ⟨(by (with_reducible repeat (first | refine blk_drewN ?_ _ | refine blk_drew ?_ | refine blk_alloc ?_ _)); exact BK151.out), (by (with_reducible repeat (first | refine blk_drewN ?_ _ | refine blk_drew ?_ | refine blk_alloc ?_ _)); exact BK155.out), GW155.out, GE155.out, NB151_155.out, NB155_151.out, (by repeat (first | (with_reducible first | exact HB.out | apply below_alloc | apply pw_below_drewN | apply below_drew1 | refine below_set ?_ GE151.out | refine below_set ?_ GE155.out) | exact HB.out))⟩)
            rintro gb155 w19 ⟨h0_, h1_, h2_, h3_, h4_, h5_, h6_⟩
            have n0_ : Aside0 (w19.heap[gb151]? = some (.cells #[.int .i64 0, .int .i64 0, .slice none 0 0] 76 (0, 0))) := ⟨h0_⟩
            have n1_ : Aside0 (w19.heap[gb155]? = some (.cells #[.int .i64 0, .int .i64 0, .slice none 0 0] 76 (0, 0))) := ⟨h1_⟩
            have n2_ : Aside0 (w.heap.size ≤ gb155) := ⟨h2_⟩
            have n3_ : Aside0 (w.heap.size ≤ gb155) := ⟨h3_⟩
            have n4_ : Aside0 (gb151 ≠ gb155) := ⟨h4_⟩
            have n5_ : Aside0 (gb155 ≠ gb151) := ⟨h5_⟩
            have n6_ : Aside0 (Below w.heap.size w w19) := ⟨h6_⟩
            clear BK151
            clear HB
            clear h0_ h1_ h2_ h3_ h4_ h5_ h6_
            have BK151 := n0_
            have BK155 := n1_
            have GW155 := n2_
            have GE155 := n3_
            have NB151_155 := n4_
            have NB155_151 := n5_
            have HB := n6_
            clear n0_ n1_ n2_ n3_ n4_ n5_ n6_
            have hHeld := trivial
            refine norm_ (a' := ?_) ?_ ?_
            rotate_left
            · simp only [putAll, Act.put, List.setIfInBounds_toArray, List.set_cons_zero, List.set_cons_succ]
              rfl
            refine one_ (i := 7) (N := none) (flg 8 255) rfl rfl (one_of HT_.out (by kernel_rfl)) (by decide) (fun K hK => ?_)
            have hs20 : w19.cell? ⟨gb155, 0, none⟩ = some (.int .i64 0) := (blk_cell BK155.out 0).trans rfl
            have hfs20 := blk_frozen BK155.out 0
            have hns20_0 := NB151_155.out
            have hms20_0 := NB155_151.out
            have hs21 : w19.cell? ⟨gb155, 1, none⟩ = some (.int .i64 0) := (blk_cell BK155.out 1).trans rfl
            have hfs21 := blk_frozen BK155.out 1
            have hns21_0 := NB151_155.out
            have hms21_0 := NB155_151.out
            have hs22 : w19.cell? ⟨gb155, 2, none⟩ = some (.slice none 0 0) := (blk_cell BK155.out 2).trans rfl
            have hfs22 := blk_frozen BK155.out 2
            have hns22_0 := NB151_155.out
            have hms22_0 := NB155_151.out
            refine skip_ (w1 := ?_) (by rfl) rfl ?_ ?_
            rotate_left
            · go_simp
              rfl
            refine hK.out _ _ trivial (fun hHeld => ?_)
            clear hK K
            refine done_ (done_of HT_.out (by kernel_rfl)) ?_
            try go_wp2_with (first | ((with_reducible refine gate_callee (f := 61) rfl ?_); refine goesL_ (some 30) rfl rfl Try.func61 (by kernel_rfl) rfl #[.string a0, .int .i64 6] rfl (by (try simp only [List.map_toArray, List.map_cons, List.map_nil]); first | done | rfl | (simp only [List.length_drop, List.length_take]; rfl) | (simp only [Int.ofNat_lt, Int.ofNat_le]; done) | (simp only [Int.ofNat_lt, Int.ofNat_le]; rfl) | (simp only [ByteArray.size_append, Int.natCast_add]; rfl)) ?_; (with_reducible refine (page_at16.calls a0 6 t156 _ A15.out).mono ?_); rintro e w' ⟨rfl, ⟨nd, rfl⟩⟩; refine ⟨_, rfl, ?_⟩; have hnb23 := NB151_155.out; have hnc23 := NB155_151.out; have hcz24_0 : w19.cell? ⟨gb151, 0, none⟩ = some (.int .i64 0) := (blk_cell BK151.out 0).trans rfl; have hcz24_1 : w19.cell? ⟨gb151, 1, none⟩ = some (.int .i64 0) := (blk_cell BK151.out 1).trans rfl; have hcz24_2 : w19.cell? ⟨gb151, 2, none⟩ = some (.slice none 0 0) := (blk_cell BK151.out 2).trans rfl; have hfz24_0 := blk_frozen BK151.out 0; have hfz24_1 := blk_frozen BK151.out 1; have hfz24_2 := blk_frozen BK151.out 2))
            refine bodyPost_ret (results_ct rfl _ _ gb151 76 #[.int .i64 0, .int .i64 0, .slice none 0 0] (0, 0) _ rfl (by (with_reducible repeat (first | refine blk_drewN ?_ _ | refine blk_drew ?_ | refine blk_alloc ?_ _)); refine blk_put (cs := #[.int .i64 0, .int .i64 0, .slice none 0 0]) ?_ 2 _ rfl; (with_reducible repeat (first | refine blk_drewN ?_ _ | refine blk_drew ?_ | refine blk_alloc ?_ _)); refine blk_put (cs := #[.int .i64 0, .int .i64 0, .slice none 0 0]) ?_ 1 _ rfl; (with_reducible repeat (first | refine blk_drewN ?_ _ | refine blk_drew ?_ | refine blk_alloc ?_ _)); refine blk_put (cs := #[.int .i64 0, .int .i64 0, .slice none 0 0]) ?_ 0 _ rfl; (with_reducible repeat (first | refine blk_drewN ?_ _ | refine blk_drew ?_ | refine blk_alloc ?_ _)); refine blk_far ?_ NB151_155.out _; (with_reducible repeat (first | refine blk_drewN ?_ _ | refine blk_drew ?_ | refine blk_alloc ?_ _)); refine blk_far ?_ NB151_155.out _; (with_reducible repeat (first | refine blk_drewN ?_ _ | refine blk_drew ?_ | refine blk_alloc ?_ _)); refine blk_far ?_ NB151_155.out _; (with_reducible repeat (first | refine blk_drewN ?_ _ | refine blk_drew ?_ | refine blk_alloc ?_ _)); exact BK151.out) Try.underlying76 rfl (by kernel_rfl)) rfl ?_
            exact ⟨_, by first | rfl | (simp [errW_none, errW_some] <;> rfl) | (simp [*, errW_none, errW_some] <;> rfl), by first | exact Kd.R_nil _ _ _ _ _ | exact Kd.N_nil _ _ _ _ _ | exact Kd.V_nil _ _ _ _ _ | exact Kd.Q_nil _ _ _ _ _ | exact Kd.S_nil _ _ _ _ _, by repeat (first | (with_reducible first | exact HB.out | apply below_alloc | apply pw_below_drewN | apply below_drew1 | refine below_set ?_ GE151.out | refine below_set ?_ GE155.out) | exact HB.out)⟩
          · rw [if_neg c16] at H
            have c16b0 : decide (1024 < (wrap64 (12 + (wrap64 (2 * t156))))) = false := decide_eq_false c16
            clear c16
            have H' := Aside0.mk H
            clear H
            try go_wp2
            have n0_ := Aside0.mk (blk_drew BK151.out)
            have n1_ := Aside0.mk (below_drew1 HB.out)
            clear BK151
            clear HB
            have BK151 := n0_
            have HB := n1_
            clear n0_ n1_
            have p13 : 0 ≤ (4 : Int) := (by omega)
            have q13 : 4 < a0.size := (by have : (4 : Int) < (a0.size : Int) := of_decide_eq_true (by first | (with_reducible assumption) | assumption); omega)
            have hx13 : ∀ h : 4 < a0.size, ((a0[4]'h).toNat : Int) = bt a0 4 := bt_at a0 4
            clear p13
            have qi13 : (4 < (a0.size : Int)) = True := eq_true (of_decide_eq_true (by first | (with_reducible assumption) | assumption))
            replace q13 := eq_true q13
            refine start_ (n := 8) (S := fun w' => True) (ds := []) (flg 8 0) (by kernel_rfl) rfl rfl trivial (fun hHeld => ?_); refine with_tabW page_Open.tab3 page_Open.bits3 (fun HT_ HW_ => ?_)
            generalize wc.drew = w25 at BK151 HB hHeld ⊢
            refine pure_ (i := 0) (N := some 23) (v := ?_) (a' := ?_) (flg 8 1) rfl rfl (any_of HT_.out (by kernel_rfl)) (fun _ _ _ h => h) (Or.inl ⟨by rfl, ?_⟩) ?_ ?_
            rotate_left
            · intro w'
              go_simp
              with_reducible rfl
            rotate_left
            · simp only [Act.put, List.setIfInBounds_toArray, List.set_cons_zero, List.set_cons_succ, i64_w, i32_w]
              rfl
            refine pure_ (i := 3) (N := some 26) (v := ?_) (a' := ?_) (flg 8 9) rfl rfl (any_of HT_.out (by kernel_rfl)) (fun _ _ _ h => h) (Or.inl ⟨by rfl, ?_⟩) ?_ ?_
            rotate_left
            · intro w'
              go_simp
              with_reducible rfl
            rotate_left
            · simp only [Act.put, List.setIfInBounds_toArray, List.set_cons_zero, List.set_cons_succ, i64_w, i32_w]
              rfl
            refine take_ (i := 1) (N := some 24) (v := ?_) (a' := ?_) (flg 8 11) rfl rfl (take_ofW HT_.out HW_.out (by kernel_rfl)) (fun _ _ _ h => h) (Or.inl ⟨by rfl, ?_⟩) hHeld ?_ ?_
            rotate_left
            · intro w' _
              go_simp
              with_reducible rfl
            rotate_left
            · simp only [Act.put, List.setIfInBounds_toArray, List.set_cons_zero, List.set_cons_succ, i64_w, i32_w]
              rfl
            refine pure_ (i := 2) (N := some 25) (v := ?_) (a' := ?_) (flg 8 15) rfl rfl (any_of HT_.out (by kernel_rfl)) (fun _ _ _ h => h) (Or.inl ⟨by rfl, ?_⟩) ?_ ?_
            rotate_left
            · intro w'
              go_simp
              with_reducible rfl
            rotate_left
            · simp only [Act.put, List.setIfInBounds_toArray, List.set_cons_zero, List.set_cons_succ, i64_w, i32_w]
              rfl
            refine join_ (σ := Nat) 1 (flg 8 127) (fun s_ => [(27, .int .i64 t154), (4, .pointer (some ⟨s_, 0, none⟩)), (28, .agg #[.int .i64 (wrap64 (bt a0 4)), .int .i64 t154, .slice none 0 0])]) (fun s_ w' => (w'.heap[gb151]? = some (.cells #[.int .i64 0, .int .i64 0, .slice none 0 0] 76 (0, 0))) ∧ (w'.heap[s_]? = some (.cells #[.int .i64 0, .int .i64 0, .slice none 0 0] 76 (0, 0))) ∧ (w.heap.size ≤ s_) ∧ (w.heap.size ≤ s_) ∧ (gb151 ≠ s_) ∧ (s_ ≠ gb151) ∧ (Below w.heap.size w w')) ?_ ?_
            rotate_left
            · intro hCont
              refine two_ (i := 4) (j := 6) (Ni := some 27) (Nj := some 4) (flg 8 31) (flg 8 79) rfl rfl rfl rfl (two_of HT_.out (by kernel_rfl)) (by decide) (by decide) (fun K hK => ?_) (fun K hK => ?_)
              · skip
                refine goes_ Try.func60 (by kernel_rfl) rfl #[.string a0, .int .i64 8] (by rfl) rfl rfl (by (try simp only [List.map_toArray, List.map_cons, List.map_nil]); first | done | rfl | (simp only [List.length_drop, List.length_take]; rfl) | (simp only [Int.ofNat_lt, Int.ofNat_le]; done) | (simp only [Int.ofNat_lt, Int.ofNat_le]; rfl) | (simp only [ByteArray.size_append, Int.natCast_add]; rfl)) ?_
                with_reducible refine (page_at32.calls a0 8 t154 _ A14.out).mono ?_
                rintro e w' ⟨rfl, ⟨nd, rfl⟩⟩
                refine ⟨_, rfl, ?_⟩
                refine hK.out _ _ trivial (fun hHeld => ?_)
                clear hK K
                refine norm_ (a' := ?_) ?_ ?_
                rotate_left
                · show Act.put _ (some 27) _ = _
                  simp only [Act.put, List.setIfInBounds_toArray, List.set_cons_zero, List.set_cons_succ, i64_w, i32_w]
                  rfl
                refine pure_ (i := 5) (N := some 28) (v := ?_) (a' := ?_) (flg 8 63) rfl rfl (any_of HT_.out (by kernel_rfl)) (fun _ _ _ h => h) (Or.inl ⟨by rfl, ?_⟩) ?_ ?_
                rotate_left
                · intro w'
                  go_simp
                  with_reducible rfl
                rotate_left
                · simp only [Act.put, List.setIfInBounds_toArray, List.set_cons_zero, List.set_cons_succ, i64_w, i32_w]
                  rfl
                refine one_ (i := 6) (N := some 4) (flg 8 127) rfl rfl (one_of HT_.out (by kernel_rfl)) (by decide) (fun K hK => ?_)
                refine box_step ?hg (N := 4) ?hd (cs := #[.int .i64 0, .int .i64 0, .slice none 0 0]) (t := 76) ?hr ?_; (case hd => rfl); (case hg => rfl); (case hr => first | (go_simp; done) | (go_simp; rfl))
                intro gb155 hg w26 hbox hb
                have n0_ := Aside0.mk (blk_below (g := gb151) (o := .cells #[.int .i64 0, .int .i64 0, .slice none 0 0] 76 (0, 0)) (by (with_reducible repeat (first | refine blk_drewN ?_ _ | refine blk_drew ?_ | refine blk_alloc ?_ _)); exact BK151.out) hb)
                have n1_ := Aside0.mk (below_step (by repeat (first | (with_reducible first | exact HB.out | apply below_alloc | apply pw_below_drewN | apply below_drew1 | refine below_set ?_ GE151.out) | exact HB.out)) hb)
                have n2_ := Aside0.mk (hbox)
                have n3_ := Aside0.mk ((by rw [hg]; exact (below_size (by repeat (first | (with_reducible first | exact HB.out | apply below_alloc | apply pw_below_drewN | apply below_drew1 | refine below_set ?_ GE151.out) | exact HB.out))) : w.heap.size ≤ gb155))
                have n4_ := Aside0.mk ((by rw [hg]; exact (below_size (by repeat (first | (with_reducible first | exact HB.out | apply below_alloc | apply pw_below_drewN | apply below_drew1 | refine below_set ?_ GE151.out) | exact HB.out))) : w.heap.size ≤ gb155))
                have n5_ := Aside0.mk ((by rw [hg]; exact Nat.ne_of_lt (blk_lt (g := gb151) (o := .cells #[.int .i64 0, .int .i64 0, .slice none 0 0] 76 (0, 0)) (by (with_reducible repeat (first | refine blk_drewN ?_ _ | refine blk_drew ?_ | refine blk_alloc ?_ _)); exact BK151.out)) : gb151 ≠ gb155))
                have n6_ := Aside0.mk ((by rw [hg]; exact Nat.ne_of_gt (blk_lt (g := gb151) (o := .cells #[.int .i64 0, .int .i64 0, .slice none 0 0] 76 (0, 0)) (by (with_reducible repeat (first | refine blk_drewN ?_ _ | refine blk_drew ?_ | refine blk_alloc ?_ _)); exact BK151.out)) : gb155 ≠ gb151))
                clear BK151
                clear HB
                have BK151 := n0_
                have HB := n1_
                have BK155 := n2_
                have GW155 := n3_
                have GE155 := n4_
                have NB151_155 := n5_
                have NB155_151 := n6_
                clear n0_ n1_ n2_ n3_ n4_ n5_ n6_
                clear hb hbox hg
                refine hK.out _ _ trivial (fun hHeld => ?_)
                clear hK K
                refine norm_ (a' := ?_) ?_ ?_
                rotate_left
                · show Act.put _ (some 4) _ = _
                  simp only [Act.put, List.setIfInBounds_toArray, List.set_cons_zero, List.set_cons_succ, i64_w, i32_w]
                  rfl
                exact norm_ (by simp only [putAll, Act.put, List.setIfInBounds_toArray, List.set_cons_zero, List.set_cons_succ]) (hCont (gb155) _ ⟨(by (with_reducible repeat (first | refine blk_drewN ?_ _ | refine blk_drew ?_ | refine blk_alloc ?_ _)); exact BK151.out), (by (with_reducible repeat (first | refine blk_drewN ?_ _ | refine blk_drew ?_ | refine blk_alloc ?_ _)); exact BK155.out), GW155.out, GE155.out, NB151_155.out, NB155_151.out, (by repeat (first | (with_reducible first | exact HB.out | apply below_alloc | apply pw_below_drewN | apply below_drew1 | refine below_set ?_ GE151.out | refine below_set ?_ GE155.out) | exact HB.out))⟩)
              · skip
                refine box_step ?hg (N := 4) ?hd (cs := #[.int .i64 0, .int .i64 0, .slice none 0 0]) (t := 76) ?hr ?_; (case hd => rfl); (case hg => rfl); (case hr => first | (go_simp; done) | (go_simp; rfl))
                intro gb155 hg w26 hbox hb
                have n0_ := Aside0.mk (blk_below (g := gb151) (o := .cells #[.int .i64 0, .int .i64 0, .slice none 0 0] 76 (0, 0)) (by (with_reducible repeat (first | refine blk_drewN ?_ _ | refine blk_drew ?_ | refine blk_alloc ?_ _)); exact BK151.out) hb)
                have n1_ := Aside0.mk (below_step (by repeat (first | (with_reducible first | exact HB.out | apply below_alloc | apply pw_below_drewN | apply below_drew1 | refine below_set ?_ GE151.out) | exact HB.out)) hb)
                have n2_ := Aside0.mk (hbox)
                have n3_ := Aside0.mk ((by rw [hg]; exact (below_size (by repeat (first | (with_reducible first | exact HB.out | apply below_alloc | apply pw_below_drewN | apply below_drew1 | refine below_set ?_ GE151.out) | exact HB.out))) : w.heap.size ≤ gb155))
                have n4_ := Aside0.mk ((by rw [hg]; exact (below_size (by repeat (first | (with_reducible first | exact HB.out | apply below_alloc | apply pw_below_drewN | apply below_drew1 | refine below_set ?_ GE151.out) | exact HB.out))) : w.heap.size ≤ gb155))
                have n5_ := Aside0.mk ((by rw [hg]; exact Nat.ne_of_lt (blk_lt (g := gb151) (o := .cells #[.int .i64 0, .int .i64 0, .slice none 0 0] 76 (0, 0)) (by (with_reducible repeat (first | refine blk_drewN ?_ _ | refine blk_drew ?_ | refine blk_alloc ?_ _)); exact BK151.out)) : gb151 ≠ gb155))
                have n6_ := Aside0.mk ((by rw [hg]; exact Nat.ne_of_gt (blk_lt (g := gb151) (o := .cells #[.int .i64 0, .int .i64 0, .slice none 0 0] 76 (0, 0)) (by (with_reducible repeat (first | refine blk_drewN ?_ _ | refine blk_drew ?_ | refine blk_alloc ?_ _)); exact BK151.out)) : gb155 ≠ gb151))
                clear BK151
                clear HB
                have BK151 := n0_
                have HB := n1_
                have BK155 := n2_
                have GW155 := n3_
                have GE155 := n4_
                have NB151_155 := n5_
                have NB155_151 := n6_
                clear n0_ n1_ n2_ n3_ n4_ n5_ n6_
                clear hb hbox hg
                refine hK.out _ _ trivial (fun hHeld => ?_)
                clear hK K
                refine norm_ (a' := ?_) ?_ ?_
                rotate_left
                · show Act.put _ (some 4) _ = _
                  simp only [Act.put, List.setIfInBounds_toArray, List.set_cons_zero, List.set_cons_succ, i64_w, i32_w]
                  rfl
                refine one_ (i := 4) (N := some 27) (flg 8 95) rfl rfl (one_of HT_.out (by kernel_rfl)) (by decide) (fun K hK => ?_)
                refine goes_ Try.func60 (by kernel_rfl) rfl #[.string a0, .int .i64 8] (by rfl) rfl rfl (by (try simp only [List.map_toArray, List.map_cons, List.map_nil]); first | done | rfl | (simp only [List.length_drop, List.length_take]; rfl) | (simp only [Int.ofNat_lt, Int.ofNat_le]; done) | (simp only [Int.ofNat_lt, Int.ofNat_le]; rfl) | (simp only [ByteArray.size_append, Int.natCast_add]; rfl)) ?_
                with_reducible refine (page_at32.calls a0 8 t154 _ A14.out).mono ?_
                rintro e w' ⟨rfl, ⟨nd, rfl⟩⟩
                refine ⟨_, rfl, ?_⟩
                refine hK.out _ _ trivial (fun hHeld => ?_)
                clear hK K
                refine norm_ (a' := ?_) ?_ ?_
                rotate_left
                · show Act.put _ (some 27) _ = _
                  simp only [Act.put, List.setIfInBounds_toArray, List.set_cons_zero, List.set_cons_succ, i64_w, i32_w]
                  rfl
                refine pure_ (i := 5) (N := some 28) (v := ?_) (a' := ?_) (flg 8 127) rfl rfl (any_of HT_.out (by kernel_rfl)) (fun _ _ _ h => h) (Or.inl ⟨by rfl, ?_⟩) ?_ ?_
                rotate_left
                · intro w'
                  go_simp
                  with_reducible rfl
                rotate_left
                · simp only [Act.put, List.setIfInBounds_toArray, List.set_cons_zero, List.set_cons_succ, i64_w, i32_w]
                  rfl
                exact norm_ (by simp only [putAll, Act.put, List.setIfInBounds_toArray, List.set_cons_zero, List.set_cons_succ]) (hCont (gb155) _ ⟨(by (with_reducible repeat (first | refine blk_drewN ?_ _ | refine blk_drew ?_ | refine blk_alloc ?_ _)); exact BK151.out), (by (with_reducible repeat (first | refine blk_drewN ?_ _ | refine blk_drew ?_ | refine blk_alloc ?_ _)); exact BK155.out), GW155.out, GE155.out, NB151_155.out, NB155_151.out, (by repeat (first | (with_reducible first | exact HB.out | apply below_alloc | apply pw_below_drewN | apply below_drew1 | refine below_set ?_ GE151.out | refine below_set ?_ GE155.out) | exact HB.out))⟩)
            rintro gb155 w27 ⟨h0_, h1_, h2_, h3_, h4_, h5_, h6_⟩
            have n0_ : Aside0 (w27.heap[gb151]? = some (.cells #[.int .i64 0, .int .i64 0, .slice none 0 0] 76 (0, 0))) := ⟨h0_⟩
            have n1_ : Aside0 (w27.heap[gb155]? = some (.cells #[.int .i64 0, .int .i64 0, .slice none 0 0] 76 (0, 0))) := ⟨h1_⟩
            have n2_ : Aside0 (w.heap.size ≤ gb155) := ⟨h2_⟩
            have n3_ : Aside0 (w.heap.size ≤ gb155) := ⟨h3_⟩
            have n4_ : Aside0 (gb151 ≠ gb155) := ⟨h4_⟩
            have n5_ : Aside0 (gb155 ≠ gb151) := ⟨h5_⟩
            have n6_ : Aside0 (Below w.heap.size w w27) := ⟨h6_⟩
            clear BK151
            clear HB
            clear h0_ h1_ h2_ h3_ h4_ h5_ h6_
            have BK151 := n0_
            have BK155 := n1_
            have GW155 := n2_
            have GE155 := n3_
            have NB151_155 := n4_
            have NB155_151 := n5_
            have HB := n6_
            clear n0_ n1_ n2_ n3_ n4_ n5_ n6_
            have hHeld := trivial
            refine norm_ (a' := ?_) ?_ ?_
            rotate_left
            · simp only [putAll, Act.put, List.setIfInBounds_toArray, List.set_cons_zero, List.set_cons_succ]
              rfl
            refine one_ (i := 7) (N := none) (flg 8 255) rfl rfl (one_of HT_.out (by kernel_rfl)) (by decide) (fun K hK => ?_)
            have hs28 : w27.cell? ⟨gb155, 0, none⟩ = some (.int .i64 0) := (blk_cell BK155.out 0).trans rfl
            have hfs28 := blk_frozen BK155.out 0
            have hns28_0 := NB151_155.out
            have hms28_0 := NB155_151.out
            have hs29 : w27.cell? ⟨gb155, 1, none⟩ = some (.int .i64 0) := (blk_cell BK155.out 1).trans rfl
            have hfs29 := blk_frozen BK155.out 1
            have hns29_0 := NB151_155.out
            have hms29_0 := NB155_151.out
            have hs30 : w27.cell? ⟨gb155, 2, none⟩ = some (.slice none 0 0) := (blk_cell BK155.out 2).trans rfl
            have hfs30 := blk_frozen BK155.out 2
            have hns30_0 := NB151_155.out
            have hms30_0 := NB155_151.out
            refine skip_ (w1 := ?_) (by rfl) rfl ?_ ?_
            rotate_left
            · go_simp
              rfl
            refine hK.out _ _ trivial (fun hHeld => ?_)
            clear hK K
            refine done_ (done_of HT_.out (by kernel_rfl)) ?_
            try go_wp2_with (first | ((with_reducible refine gate_callee (f := 61) rfl ?_); refine goesL_ (some 30) rfl rfl Try.func61 (by kernel_rfl) rfl #[.string a0, .int .i64 6] rfl (by (try simp only [List.map_toArray, List.map_cons, List.map_nil]); first | done | rfl | (simp only [List.length_drop, List.length_take]; rfl) | (simp only [Int.ofNat_lt, Int.ofNat_le]; done) | (simp only [Int.ofNat_lt, Int.ofNat_le]; rfl) | (simp only [ByteArray.size_append, Int.natCast_add]; rfl)) ?_; (with_reducible refine (page_at16.calls a0 6 t156 _ A15.out).mono ?_); rintro e w' ⟨rfl, ⟨nd, rfl⟩⟩; refine ⟨_, rfl, ?_⟩))
            go_loopg [37] kj1 (fun kq v37 w' => ∃ (x37_2 : Int) (x152000_2 : Int) (x152001_2 : Int) (x156002_2 : List ByteArray) (u156002 : Value), v37 = .int .i64 x37_2 ∧ Aside0 (page_Open.l0 kq a0 t156 x37_2 (wrap64 (bt a0 4)) t154 x156002_2 = some (r1, r2, r3, r4)) ∧ Aside0 (kq ≤ kj1) ∧ Aside0 (Kd.R Kd.string 9 w' w.heap.size (fun _ => True) u156002 x156002_2) ∧ Aside0 (w'.heap[gb151]? = some (.cells #[.int .i64 x152000_2, .int .i64 x152001_2, (.slice none 0 0)] 76 (0, 0))) ∧ Aside0 (w'.heap[gb155]? = some (.cells #[.int .i64 (wrap64 (bt a0 4)), .int .i64 t154, u156002] 76 (0, 0))) ∧ Aside0 (Below w.heap.size w w'))
            case atStart => exact ⟨(0), (0), (0), (([] : List ByteArray)), (.slice none 0 0), (by first | rfl | (simp; done) | (simp [*]; done) | exact bq1 _ _ | exact bq2 _ _ | exact congrArg Value.bool (bq2 _ _) | exact congrArg Value.bool (bq1 _ _) | exact congrArg Value.bool (bq1' _ _) | exact bq1' _ _ | exact congrArg Value.bool (bq2' _ _) | exact bq2' _ _), H', ⟨Nat.le_refl _⟩, ⟨by first | exact Kd.R_nil _ _ _ _ _ | exact Kd.N_nil _ _ _ _ _ | exact Kd.V_nil _ _ _ _ _ | exact Kd.Q_nil _ _ _ _ _ | exact Kd.S_nil _ _ _ _ _⟩, ⟨by (with_reducible repeat (first | refine blk_drewN ?_ _ | refine blk_drew ?_ | refine blk_alloc ?_ _)); refine blk_far ?_ NB151_155.out _; (with_reducible repeat (first | refine blk_drewN ?_ _ | refine blk_drew ?_ | refine blk_alloc ?_ _)); refine blk_far ?_ NB151_155.out _; (with_reducible repeat (first | refine blk_drewN ?_ _ | refine blk_drew ?_ | refine blk_alloc ?_ _)); refine blk_far ?_ NB151_155.out _; (with_reducible repeat (first | refine blk_drewN ?_ _ | refine blk_drew ?_ | refine blk_alloc ?_ _)); exact BK151.out⟩, ⟨by (with_reducible repeat (first | refine blk_drewN ?_ _ | refine blk_drew ?_ | refine blk_alloc ?_ _)); refine blk_put (cs := #[.int .i64 (wrap64 (bt a0 4)), .int .i64 t154, .slice none 0 0]) ?_ 2 _ rfl; (with_reducible repeat (first | refine blk_drewN ?_ _ | refine blk_drew ?_ | refine blk_alloc ?_ _)); refine blk_put (cs := #[.int .i64 (wrap64 (bt a0 4)), .int .i64 0, .slice none 0 0]) ?_ 1 _ rfl; (with_reducible repeat (first | refine blk_drewN ?_ _ | refine blk_drew ?_ | refine blk_alloc ?_ _)); refine blk_put (cs := #[.int .i64 0, .int .i64 0, .slice none 0 0]) ?_ 0 _ rfl; (with_reducible repeat (first | refine blk_drewN ?_ _ | refine blk_drew ?_ | refine blk_alloc ?_ _)); exact BK155.out⟩, ⟨by repeat (first | (with_reducible first | exact HB.out | apply below_alloc | apply pw_below_drewN | apply below_drew1 | refine below_set ?_ GE151.out | refine below_set ?_ GE155.out) | exact HB.out)⟩⟩
            case round =>
              clear H'
              try clear c1
              try clear p1
              try clear q1
              try clear hx1
              try clear qi1
              try clear c2
              try clear p2
              try clear q2
              try clear c3
              try clear c4
              try clear c4b0
              try clear c4b1
              try clear c6
              try clear c6b0
              try clear c6b1
              try clear p6
              try clear c10
              try clear c12
              try clear c12b0
              try clear c12b1
              try clear p13
              try clear q13
              try clear hx13
              try clear qi13
              try clear c16
              try clear c16b0
              try clear c23
              try clear hcz11_0
              try clear hcz11_1
              try clear hcz11_2
              try clear hcz24_0
              try clear hcz24_1
              try clear hcz24_2
              try clear hfz11_0
              try clear hfz11_1
              try clear hfz11_2
              try clear hfz24_0
              try clear hfz24_1
              try clear hfz24_2
              try clear p13
              try clear p2
              try clear q1
              try clear q13
              try clear q2
              obtain ⟨x37_2, x152000_2, x152001_2, x156002_2, u156002, rfl, HA, HK2, HO_156002, BK151, BK155, HB⟩ := hrel
              cases gk with
              | zero => exact absurd HA.out (by simp [page_Open.l0])
              | succ k2 =>
                have H := HA.out
                clear HA
                simp only [page_Open.l0] at H
                by_cases c31 : x37_2 < t156
                · rw [if_pos c31] at H
                  have c31b0 : decide (x37_2 < t156) = true := decide_eq_true c31
                  clear c31
                  replace H := Option.bind_eq_some_iff.mp H
                  obtain ⟨t159, A320, H⟩ := H
                  replace H : (if (wrap64 (t159 + 2)) > 1024 then (some (0, 0, ([] : List ByteArray), 4)) else ((page_at16.f a0 t159).bind fun t160 => (if (wrap64 ((wrap64 (t159 + 2)) + t160)) > 1024 then (some (0, 0, ([] : List ByteArray), 4)) else ((page_at16.f a0 t159).bind fun t161 => (if 0 ≤ (wrap64 (t159 + 2)) then (if (wrap64 (t159 + 2)) ≤ (wrap64 ((wrap64 (t159 + 2)) + t161)) then (if (wrap64 ((wrap64 (t159 + 2)) + t161)) ≤ (a0.size : Int) then (if x156002_2.length < 8796093022208 then (page_Open.l0 k2 a0 t156 (wrap64 (x37_2 + 1)) (wrap64 (bt a0 4)) t154 (x156002_2 ++ [a0.extract ((wrap64 (t159 + 2)) : Int).toNat ((wrap64 ((wrap64 (t159 + 2)) + t161)) : Int).toNat])) else (none)) else (none)) else (none)) else (none)))))) = some (r1, r2, r3, r4) := H
                  have A32 := Aside0.mk A320
                  clear A320
                  by_cases c33 : (wrap64 (t159 + 2)) > 1024
                  · rw [if_pos c33] at H
                    have c33b0 : decide (1024 < (wrap64 (t159 + 2))) = true := decide_eq_true c33
                    clear c33
                    simp only [Option.some.injEq, Prod.mk.injEq] at H
                    obtain ⟨rfl, rfl, rfl, rfl⟩ := H
                    go_wp2_with (first | ((with_reducible refine gate_callee (f := 61) rfl ?_); refine goesL_ (some 44) rfl rfl Try.func61 (by kernel_rfl) rfl #[.string a0, .int .i64 (wrap64 (12 + (wrap64 (2 * x37_2))))] rfl (by (try simp only [List.map_toArray, List.map_cons, List.map_nil]); first | done | rfl | (simp only [List.length_drop, List.length_take]; rfl) | (simp only [Int.ofNat_lt, Int.ofNat_le]; done) | (simp only [Int.ofNat_lt, Int.ofNat_le]; rfl) | (simp only [ByteArray.size_append, Int.natCast_add]; rfl)) ?_; (with_reducible refine (page_at16.calls a0 (wrap64 (12 + (wrap64 (2 * x37_2)))) t159 _ A32.out).mono ?_); rintro e w' ⟨rfl, ⟨nd, rfl⟩⟩; refine ⟨_, rfl, ?_⟩; (try (rw [drewN_self wr]; generalize hq_ : World.drewN wr _ = wr; have n0_ : Aside0 (Kd.R Kd.string 9 wr w.heap.size (fun _ => True) u156002 x156002_2) := ⟨by rw [← hq_]; exact (by (with_reducible repeat (first | apply Kd.R_alloc | apply Kd.R_drewN | apply Kd.R_drew)); exact HO_156002.out)⟩; have n1_ : Aside0 (wr.heap[gb151]? = some (.cells #[.int .i64 x152000_2, .int .i64 x152001_2, .slice none 0 0] 76 (0, 0))) := ⟨by rw [← hq_]; exact (by (with_reducible repeat (first | refine blk_drewN ?_ _ | refine blk_drew ?_ | refine blk_alloc ?_ _)); exact BK151.out)⟩; have n2_ : Aside0 (wr.heap[gb155]? = some (.cells #[.int .i64 (wrap64 (bt a0 4)), .int .i64 t154, u156002] 76 (0, 0))) := ⟨by rw [← hq_]; exact (by (with_reducible repeat (first | refine blk_drewN ?_ _ | refine blk_drew ?_ | refine blk_alloc ?_ _)); exact BK155.out)⟩; have n3_ : Aside0 (Below w.heap.size w wr) := ⟨by rw [← hq_]; exact (by repeat (first | (with_reducible first | exact HB.out | apply below_alloc | apply pw_below_drewN | apply below_drew1 | refine below_set ?_ GE151.out | refine below_set ?_ GE155.out) | exact HB.out))⟩; clear HO_156002 BK151 BK155 HB hq_; have HO_156002 := n0_; have BK151 := n1_; have BK155 := n2_; have HB := n3_; clear n0_ n1_ n2_ n3_)); have hnb34 := NB151_155.out; have hnc34 := NB155_151.out; have hcz35_0 : wr.cell? ⟨gb151, 0, none⟩ = some (.int .i64 x152000_2) := (blk_cell BK151.out 0).trans rfl; have hcz35_1 : wr.cell? ⟨gb151, 1, none⟩ = some (.int .i64 x152001_2) := (blk_cell BK151.out 1).trans rfl; have hcz35_2 : wr.cell? ⟨gb151, 2, none⟩ = some (.slice none 0 0) := (blk_cell BK151.out 2).trans rfl; have hfz35_0 := blk_frozen BK151.out 0; have hfz35_1 := blk_frozen BK151.out 1; have hfz35_2 := blk_frozen BK151.out 2))
                    refine bodyPost_ret (results_ct rfl _ _ gb151 76 #[.int .i64 0, .int .i64 0, .slice none 0 0] (0, 0) _ rfl (by (with_reducible repeat (first | refine blk_drewN ?_ _ | refine blk_drew ?_ | refine blk_alloc ?_ _)); refine blk_put (cs := #[.int .i64 0, .int .i64 0, .slice none 0 0]) ?_ 2 _ rfl; (with_reducible repeat (first | refine blk_drewN ?_ _ | refine blk_drew ?_ | refine blk_alloc ?_ _)); refine blk_put (cs := #[.int .i64 0, .int .i64 x152001_2, .slice none 0 0]) ?_ 1 _ rfl; (with_reducible repeat (first | refine blk_drewN ?_ _ | refine blk_drew ?_ | refine blk_alloc ?_ _)); refine blk_put (cs := #[.int .i64 x152000_2, .int .i64 x152001_2, .slice none 0 0]) ?_ 0 _ rfl; (with_reducible repeat (first | refine blk_drewN ?_ _ | refine blk_drew ?_ | refine blk_alloc ?_ _)); exact BK151.out) Try.underlying76 rfl (by kernel_rfl)) rfl ?_
                    exact ⟨_, by first | rfl | (simp [errW_none, errW_some] <;> rfl) | (simp [*, errW_none, errW_some] <;> rfl), by first | exact Kd.R_nil _ _ _ _ _ | exact Kd.N_nil _ _ _ _ _ | exact Kd.V_nil _ _ _ _ _ | exact Kd.Q_nil _ _ _ _ _ | exact Kd.S_nil _ _ _ _ _, by repeat (first | (with_reducible first | exact HB.out | apply below_alloc | apply pw_below_drewN | apply below_drew1 | refine below_set ?_ GE151.out | refine below_set ?_ GE155.out) | exact HB.out)⟩
                  · rw [if_neg c33] at H
                    have c33b0 : decide (1024 < (wrap64 (t159 + 2))) = false := decide_eq_false c33
                    clear c33
                    replace H := Option.bind_eq_some_iff.mp H
                    obtain ⟨t160, A360, H⟩ := H
                    replace H : (if (wrap64 ((wrap64 (t159 + 2)) + t160)) > 1024 then (some (0, 0, ([] : List ByteArray), 4)) else ((page_at16.f a0 t159).bind fun t161 => (if 0 ≤ (wrap64 (t159 + 2)) then (if (wrap64 (t159 + 2)) ≤ (wrap64 ((wrap64 (t159 + 2)) + t161)) then (if (wrap64 ((wrap64 (t159 + 2)) + t161)) ≤ (a0.size : Int) then (if x156002_2.length < 8796093022208 then (page_Open.l0 k2 a0 t156 (wrap64 (x37_2 + 1)) (wrap64 (bt a0 4)) t154 (x156002_2 ++ [a0.extract ((wrap64 (t159 + 2)) : Int).toNat ((wrap64 ((wrap64 (t159 + 2)) + t161)) : Int).toNat])) else (none)) else (none)) else (none)) else (none)))) = some (r1, r2, r3, r4) := H
                    have A36 := Aside0.mk A360
                    clear A360
                    by_cases c37 : (wrap64 ((wrap64 (t159 + 2)) + t160)) > 1024
                    · rw [if_pos c37] at H
                      have c37b0 : decide (1024 < (wrap64 ((wrap64 (t159 + 2)) + t160))) = true := decide_eq_true c37
                      clear c37
                      simp only [Option.some.injEq, Prod.mk.injEq] at H
                      obtain ⟨rfl, rfl, rfl, rfl⟩ := H
                      go_wp2_with (first | ((with_reducible refine gate_callee (f := 61) rfl ?_); refine goesL_ (some 44) rfl rfl Try.func61 (by kernel_rfl) rfl #[.string a0, .int .i64 (wrap64 (12 + (wrap64 (2 * x37_2))))] rfl (by (try simp only [List.map_toArray, List.map_cons, List.map_nil]); first | done | rfl | (simp only [List.length_drop, List.length_take]; rfl) | (simp only [Int.ofNat_lt, Int.ofNat_le]; done) | (simp only [Int.ofNat_lt, Int.ofNat_le]; rfl) | (simp only [ByteArray.size_append, Int.natCast_add]; rfl)) ?_; (with_reducible refine (page_at16.calls a0 (wrap64 (12 + (wrap64 (2 * x37_2)))) t159 _ A32.out).mono ?_); rintro e w' ⟨rfl, ⟨nd, rfl⟩⟩; refine ⟨_, rfl, ?_⟩; (try (rw [drewN_self wr]; generalize hq_ : World.drewN wr _ = wr; have n0_ : Aside0 (Kd.R Kd.string 9 wr w.heap.size (fun _ => True) u156002 x156002_2) := ⟨by rw [← hq_]; exact (by (with_reducible repeat (first | apply Kd.R_alloc | apply Kd.R_drewN | apply Kd.R_drew)); exact HO_156002.out)⟩; have n1_ : Aside0 (wr.heap[gb151]? = some (.cells #[.int .i64 x152000_2, .int .i64 x152001_2, .slice none 0 0] 76 (0, 0))) := ⟨by rw [← hq_]; exact (by (with_reducible repeat (first | refine blk_drewN ?_ _ | refine blk_drew ?_ | refine blk_alloc ?_ _)); exact BK151.out)⟩; have n2_ : Aside0 (wr.heap[gb155]? = some (.cells #[.int .i64 (wrap64 (bt a0 4)), .int .i64 t154, u156002] 76 (0, 0))) := ⟨by rw [← hq_]; exact (by (with_reducible repeat (first | refine blk_drewN ?_ _ | refine blk_drew ?_ | refine blk_alloc ?_ _)); exact BK155.out)⟩; have n3_ : Aside0 (Below w.heap.size w wr) := ⟨by rw [← hq_]; exact (by repeat (first | (with_reducible first | exact HB.out | apply below_alloc | apply pw_below_drewN | apply below_drew1 | refine below_set ?_ GE151.out | refine below_set ?_ GE155.out) | exact HB.out))⟩; clear HO_156002 BK151 BK155 HB hq_; have HO_156002 := n0_; have BK151 := n1_; have BK155 := n2_; have HB := n3_; clear n0_ n1_ n2_ n3_))) | (go_at_call 61; (with_reducible refine (page_at16.calls a0 t159 t160 _ A36.out).mono ?_); rintro e w' ⟨rfl, ⟨nd, rfl⟩⟩; (try (rw [drewN_self wr]; generalize hq_ : World.drewN wr _ = wr; have n0_ : Aside0 (Kd.R Kd.string 9 wr w.heap.size (fun _ => True) u156002 x156002_2) := ⟨by rw [← hq_]; exact (by (with_reducible repeat (first | apply Kd.R_alloc | apply Kd.R_drewN | apply Kd.R_drew)); exact HO_156002.out)⟩; have n1_ : Aside0 (wr.heap[gb151]? = some (.cells #[.int .i64 x152000_2, .int .i64 x152001_2, .slice none 0 0] 76 (0, 0))) := ⟨by rw [← hq_]; exact (by (with_reducible repeat (first | refine blk_drewN ?_ _ | refine blk_drew ?_ | refine blk_alloc ?_ _)); exact BK151.out)⟩; have n2_ : Aside0 (wr.heap[gb155]? = some (.cells #[.int .i64 (wrap64 (bt a0 4)), .int .i64 t154, u156002] 76 (0, 0))) := ⟨by rw [← hq_]; exact (by (with_reducible repeat (first | refine blk_drewN ?_ _ | refine blk_drew ?_ | refine blk_alloc ?_ _)); exact BK155.out)⟩; have n3_ : Aside0 (Below w.heap.size w wr) := ⟨by rw [← hq_]; exact (by repeat (first | (with_reducible first | exact HB.out | apply below_alloc | apply pw_below_drewN | apply below_drew1 | refine below_set ?_ GE151.out | refine below_set ?_ GE155.out) | exact HB.out))⟩; clear HO_156002 BK151 BK155 HB hq_; have HO_156002 := n0_; have BK151 := n1_; have BK155 := n2_; have HB := n3_; clear n0_ n1_ n2_ n3_)); have hnb38 := NB151_155.out; have hnc38 := NB155_151.out; have hcz39_0 : wr.cell? ⟨gb151, 0, none⟩ = some (.int .i64 x152000_2) := (blk_cell BK151.out 0).trans rfl; have hcz39_1 : wr.cell? ⟨gb151, 1, none⟩ = some (.int .i64 x152001_2) := (blk_cell BK151.out 1).trans rfl; have hcz39_2 : wr.cell? ⟨gb151, 2, none⟩ = some (.slice none 0 0) := (blk_cell BK151.out 2).trans rfl; have hfz39_0 := blk_frozen BK151.out 0; have hfz39_1 := blk_frozen BK151.out 1; have hfz39_2 := blk_frozen BK151.out 2))
                      refine bodyPost_ret (results_ct rfl _ _ gb151 76 #[.int .i64 0, .int .i64 0, .slice none 0 0] (0, 0) _ rfl (by (with_reducible repeat (first | refine blk_drewN ?_ _ | refine blk_drew ?_ | refine blk_alloc ?_ _)); refine blk_put (cs := #[.int .i64 0, .int .i64 0, .slice none 0 0]) ?_ 2 _ rfl; (with_reducible repeat (first | refine blk_drewN ?_ _ | refine blk_drew ?_ | refine blk_alloc ?_ _)); refine blk_put (cs := #[.int .i64 0, .int .i64 x152001_2, .slice none 0 0]) ?_ 1 _ rfl; (with_reducible repeat (first | refine blk_drewN ?_ _ | refine blk_drew ?_ | refine blk_alloc ?_ _)); refine blk_put (cs := #[.int .i64 x152000_2, .int .i64 x152001_2, .slice none 0 0]) ?_ 0 _ rfl; (with_reducible repeat (first | refine blk_drewN ?_ _ | refine blk_drew ?_ | refine blk_alloc ?_ _)); exact BK151.out) Try.underlying76 rfl (by kernel_rfl)) rfl ?_
                      exact ⟨_, by first | rfl | (simp [errW_none, errW_some] <;> rfl) | (simp [*, errW_none, errW_some] <;> rfl), by first | exact Kd.R_nil _ _ _ _ _ | exact Kd.N_nil _ _ _ _ _ | exact Kd.V_nil _ _ _ _ _ | exact Kd.Q_nil _ _ _ _ _ | exact Kd.S_nil _ _ _ _ _, by repeat (first | (with_reducible first | exact HB.out | apply below_alloc | apply pw_below_drewN | apply below_drew1 | refine below_set ?_ GE151.out | refine below_set ?_ GE155.out) | exact HB.out)⟩
                    · rw [if_neg c37] at H
                      have c37b0 : decide (1024 < (wrap64 ((wrap64 (t159 + 2)) + t160))) = false := decide_eq_false c37
                      clear c37
                      replace H := Option.bind_eq_some_iff.mp H
                      obtain ⟨t161, A400, H⟩ := H
                      replace H : (if 0 ≤ (wrap64 (t159 + 2)) then (if (wrap64 (t159 + 2)) ≤ (wrap64 ((wrap64 (t159 + 2)) + t161)) then (if (wrap64 ((wrap64 (t159 + 2)) + t161)) ≤ (a0.size : Int) then (if x156002_2.length < 8796093022208 then (page_Open.l0 k2 a0 t156 (wrap64 (x37_2 + 1)) (wrap64 (bt a0 4)) t154 (x156002_2 ++ [a0.extract ((wrap64 (t159 + 2)) : Int).toNat ((wrap64 ((wrap64 (t159 + 2)) + t161)) : Int).toNat])) else (none)) else (none)) else (none)) else (none)) = some (r1, r2, r3, r4) := H
                      have A40 := Aside0.mk A400
                      clear A400
                      obtain ⟨ji41, hji41⟩ : ∃ j_ : Int, (wrap64 (t159 + 2)) = j_ := ⟨_, rfl⟩
                      replace H : (if 0 ≤ (ji41) then (if (ji41) ≤ (wrap64 ((ji41) + t161)) then (if (wrap64 ((ji41) + t161)) ≤ (a0.size : Int) then (if x156002_2.length < 8796093022208 then (page_Open.l0 k2 a0 t156 (wrap64 (x37_2 + 1)) (wrap64 (bt a0 4)) t154 (x156002_2 ++ [a0.extract ((ji41) : Int).toNat ((wrap64 ((ji41) + t161)) : Int).toNat])) else (none)) else (none)) else (none)) else (none)) = some (r1, r2, r3, r4) := by first | (rw [hji41] at H; exact H) | (simp only [hji41] at H ⊢; exact H)
                      (try rw [hji41] at c33b0)
                      (try rw [hji41] at c37b0)
                      (try rw [hji41] at A32)
                      (try rw [hji41] at A36)
                      (try rw [hji41] at A40)
                      have hji41w : (IntKind.i64.wrap (t159 + 2)) = ji41 := (i64_w _).trans hji41
                      (try simp only [hji41] at c31b0)
                      (try simp only [hji41] at c16b0)
                      (try simp only [hji41] at c12b1)
                      (try simp only [hji41] at c12b0)
                      by_cases c42 : 0 ≤ (ji41)
                      · rw [if_pos c42] at H
                        have c42b0 := eq_true c42
                        have c42b1 : decide (0 ≤ (ji41)) = true := decide_eq_true c42
                        clear c42
                        by_cases c43 : (ji41) ≤ (wrap64 ((ji41) + t161))
                        · rw [if_pos c43] at H
                          have c43b0 := eq_true c43
                          have c43b1 : decide ((ji41) ≤ (wrap64 ((ji41) + t161))) = true := decide_eq_true c43
                          by_cases c44 : (wrap64 ((ji41) + t161)) ≤ (a0.size : Int)
                          · rw [if_pos c44] at H
                            have c44b0 := eq_true c44
                            have c44b1 : decide ((wrap64 ((ji41) + t161)) ≤ (a0.size : Int)) = true := decide_eq_true c44
                            by_cases c45 : x156002_2.length < 8796093022208
                            · rw [if_pos c45] at H
                              have LMc45 := Aside0.mk c45
                              clear c45
                              obtain ⟨y162, hy162⟩ : ∃ y_ : List ByteArray, y_ = (x156002_2 ++ [a0.extract ((ji41) : Int).toNat ((wrap64 ((ji41) + t161)) : Int).toNat]) := ⟨_, rfl⟩
                              replace H : (page_Open.l0 k2 a0 t156 (wrap64 (x37_2 + 1)) (wrap64 (bt a0 4)) t154 y162) = some (r1, r2, r3, r4) := by first | (rw [hy162]; with_reducible exact H) | (have H2_ := (Option.bind_some _ _).symm.trans H; rw [hy162]; with_reducible exact H2_) | (have H2_ := (Option.bind_some _ _).symm.trans H; with_reducible exact H2_) | with_reducible exact H | (rw [hy162]; exact H) | exact H
                              have Ny162 := Aside0.mk hy162
                              clear hy162
                              have H' := Aside0.mk H
                              clear H
                              try go_wp2_with (first | ((with_reducible refine gate_callee (f := 61) rfl ?_); refine goesL_ (some 44) rfl rfl Try.func61 (by kernel_rfl) rfl #[.string a0, .int .i64 (wrap64 (12 + (wrap64 (2 * x37_2))))] rfl (by (try simp only [List.map_toArray, List.map_cons, List.map_nil]); first | done | rfl | (simp only [List.length_drop, List.length_take]; rfl) | (simp only [Int.ofNat_lt, Int.ofNat_le]; done) | (simp only [Int.ofNat_lt, Int.ofNat_le]; rfl) | (simp only [ByteArray.size_append, Int.natCast_add]; rfl)) ?_; (with_reducible refine (page_at16.calls a0 (wrap64 (12 + (wrap64 (2 * x37_2)))) t159 _ A32.out).mono ?_); rintro e w' ⟨rfl, ⟨nd, rfl⟩⟩; refine ⟨_, rfl, ?_⟩; (try (rw [drewN_self wr]; generalize hq_ : World.drewN wr _ = wr; have n0_ : Aside0 (Kd.R Kd.string 9 wr w.heap.size (fun _ => True) u156002 x156002_2) := ⟨by rw [← hq_]; exact (by (with_reducible repeat (first | apply Kd.R_alloc | apply Kd.R_drewN | apply Kd.R_drew)); exact HO_156002.out)⟩; have n1_ : Aside0 (wr.heap[gb151]? = some (.cells #[.int .i64 x152000_2, .int .i64 x152001_2, .slice none 0 0] 76 (0, 0))) := ⟨by rw [← hq_]; exact (by (with_reducible repeat (first | refine blk_drewN ?_ _ | refine blk_drew ?_ | refine blk_alloc ?_ _)); exact BK151.out)⟩; have n2_ : Aside0 (wr.heap[gb155]? = some (.cells #[.int .i64 (wrap64 (bt a0 4)), .int .i64 t154, u156002] 76 (0, 0))) := ⟨by rw [← hq_]; exact (by (with_reducible repeat (first | refine blk_drewN ?_ _ | refine blk_drew ?_ | refine blk_alloc ?_ _)); exact BK155.out)⟩; have n3_ : Aside0 (Below w.heap.size w wr) := ⟨by rw [← hq_]; exact (by repeat (first | (with_reducible first | exact HB.out | apply below_alloc | apply pw_below_drewN | apply below_drew1 | refine below_set ?_ GE151.out | refine below_set ?_ GE155.out) | exact HB.out))⟩; clear HO_156002 BK151 BK155 HB hq_; have HO_156002 := n0_; have BK151 := n1_; have BK155 := n2_; have HB := n3_; clear n0_ n1_ n2_ n3_))) | (go_at_call 61; (with_reducible refine (page_at16.calls a0 t159 t160 _ A36.out).mono ?_); rintro e w' ⟨rfl, ⟨nd, rfl⟩⟩; (try (rw [drewN_self wr]; generalize hq_ : World.drewN wr _ = wr; have n0_ : Aside0 (Kd.R Kd.string 9 wr w.heap.size (fun _ => True) u156002 x156002_2) := ⟨by rw [← hq_]; exact (by (with_reducible repeat (first | apply Kd.R_alloc | apply Kd.R_drewN | apply Kd.R_drew)); exact HO_156002.out)⟩; have n1_ : Aside0 (wr.heap[gb151]? = some (.cells #[.int .i64 x152000_2, .int .i64 x152001_2, .slice none 0 0] 76 (0, 0))) := ⟨by rw [← hq_]; exact (by (with_reducible repeat (first | refine blk_drewN ?_ _ | refine blk_drew ?_ | refine blk_alloc ?_ _)); exact BK151.out)⟩; have n2_ : Aside0 (wr.heap[gb155]? = some (.cells #[.int .i64 (wrap64 (bt a0 4)), .int .i64 t154, u156002] 76 (0, 0))) := ⟨by rw [← hq_]; exact (by (with_reducible repeat (first | refine blk_drewN ?_ _ | refine blk_drew ?_ | refine blk_alloc ?_ _)); exact BK155.out)⟩; have n3_ : Aside0 (Below w.heap.size w wr) := ⟨by rw [← hq_]; exact (by repeat (first | (with_reducible first | exact HB.out | apply below_alloc | apply pw_below_drewN | apply below_drew1 | refine below_set ?_ GE151.out | refine below_set ?_ GE155.out) | exact HB.out))⟩; clear HO_156002 BK151 BK155 HB hq_; have HO_156002 := n0_; have BK151 := n1_; have BK155 := n2_; have HB := n3_; clear n0_ n1_ n2_ n3_))))
                              have n0_ := Aside0.mk (Kd.R_drew HO_156002.out)
                              have n1_ := Aside0.mk (blk_drew BK151.out)
                              have n2_ := Aside0.mk (blk_drew BK155.out)
                              have n3_ := Aside0.mk (below_drew1 HB.out)
                              clear HO_156002
                              clear BK151
                              clear BK155
                              clear HB
                              have HO_156002 := n0_
                              have BK151 := n1_
                              have BK155 := n2_
                              have HB := n3_
                              clear n0_ n1_ n2_ n3_
                              refine start_ (n := 16) (S := fun w' => w'.cell? ⟨gb155, 0, none⟩ = some (.int .i64 (wrap64 (bt a0 4))) ∧ w'.cell? ⟨gb155, 1, none⟩ = some (.int .i64 t154) ∧ w'.cell? ⟨gb155, 2, none⟩ = some (u156002)) (ds := [15]) (flg 16 0) (by kernel_rfl) rfl rfl ⟨(blk_cell BK155.out 0).trans rfl, (blk_cell BK155.out 1).trans rfl, (blk_cell BK155.out 2).trans rfl⟩ (fun hHeld => ?_); refine with_tabW page_Open.tab13 page_Open.bits13 (fun HT_ HW_ => ?_)
                              generalize wr.drew = w46 at HO_156002 BK151 BK155 HB hHeld ⊢
                              refine pure_ (i := 0) (N := some 58) (v := ?_) (a' := ?_) (flg 16 1) rfl rfl (any_of HT_.out (by kernel_rfl)) (fun _ _ _ h => h) (Or.inl ⟨by rfl, ?_⟩) ?_ ?_
                              rotate_left
                              · intro w'
                                go_simp
                                with_reducible rfl
                              rotate_left
                              · simp only [Act.put, List.setIfInBounds_toArray, List.set_cons_zero, List.set_cons_succ, i64_w, i32_w]
                                rfl
                              refine pure_ (i := 2) (N := some 60) (v := ?_) (a' := ?_) (flg 16 5) rfl rfl (any_of HT_.out (by kernel_rfl)) (fun _ _ _ h => h) (Or.inl ⟨by rfl, ?_⟩) ?_ ?_
                              rotate_left
                              · intro w'
                                go_simp
                                with_reducible rfl
                              rotate_left
                              · simp only [Act.put, List.setIfInBounds_toArray, List.set_cons_zero, List.set_cons_succ, i64_w, i32_w]
                                rfl
                              refine pure_ (i := 3) (N := some 61) (v := ?_) (a' := ?_) (flg 16 13) rfl rfl (any_of HT_.out (by kernel_rfl)) (fun _ _ _ h => h) (Or.inl ⟨by rfl, ?_⟩) ?_ ?_
                              rotate_left
                              · intro w'
                                go_simp
                                with_reducible rfl
                              rotate_left
                              · simp only [Act.put, List.setIfInBounds_toArray, List.set_cons_zero, List.set_cons_succ, i64_w, i32_w]
                                rfl
                              refine pure_ (i := 4) (N := some 62) (v := ?_) (a' := ?_) (flg 16 29) rfl rfl (any_of HT_.out (by kernel_rfl)) (fun _ _ _ h => h) (Or.inl ⟨by rfl, ?_⟩) ?_ ?_
                              rotate_left
                              · intro w'
                                go_simp
                                with_reducible rfl
                              rotate_left
                              · simp only [Act.put, List.setIfInBounds_toArray, List.set_cons_zero, List.set_cons_succ, i64_w, i32_w]
                                rfl
                              refine pure_ (i := 5) (N := some 63) (v := ?_) (a' := ?_) (flg 16 61) rfl rfl (any_of HT_.out (by kernel_rfl)) (fun _ _ _ h => h) (Or.inl ⟨by rfl, ?_⟩) ?_ ?_
                              rotate_left
                              · intro w'
                                go_simp
                                with_reducible rfl
                              rotate_left
                              · simp only [Act.put, List.setIfInBounds_toArray, List.set_cons_zero, List.set_cons_succ, i64_w, i32_w]
                                rfl
                              refine pure_ (i := 6) (N := some 64) (v := ?_) (a' := ?_) (flg 16 125) rfl rfl (any_of HT_.out (by kernel_rfl)) (fun _ _ _ h => h) (Or.inl ⟨by rfl, ?_⟩) ?_ ?_
                              rotate_left
                              · intro w'
                                go_simp
                                with_reducible rfl
                              rotate_left
                              · simp only [Act.put, List.setIfInBounds_toArray, List.set_cons_zero, List.set_cons_succ, i64_w, i32_w]
                                rfl
                              refine pure_ (i := 7) (N := some 65) (v := ?_) (a' := ?_) (flg 16 253) rfl rfl (any_of HT_.out (by kernel_rfl)) (fun _ _ _ h => h) (Or.inl ⟨by rfl, ?_⟩) ?_ ?_
                              rotate_left
                              · intro w'
                                go_simp
                                with_reducible rfl
                              rotate_left
                              · simp only [Act.put, List.setIfInBounds_toArray, List.set_cons_zero, List.set_cons_succ, i64_w, i32_w]
                                rfl
                              refine pure_ (i := 8) (N := some 66) (v := ?_) (a' := ?_) (flg 16 509) rfl rfl (any_of HT_.out (by kernel_rfl)) (fun _ _ _ h => h) (Or.inl ⟨by rfl, ?_⟩) ?_ ?_
                              rotate_left
                              · intro w'
                                go_simp
                                with_reducible rfl
                              rotate_left
                              · simp only [Act.put, List.setIfInBounds_toArray, List.set_cons_zero, List.set_cons_succ, i64_w, i32_w]
                                rfl
                              refine take_ (i := 1) (N := some 59) (v := ?_) (a' := ?_) (flg 16 511) rfl rfl (take_ofW HT_.out HW_.out (by kernel_rfl)) (fun _ _ _ h => h) (Or.inl ⟨by rfl, ?_⟩) hHeld ?_ ?_
                              rotate_left
                              · rintro w' ⟨s0, s1, s2⟩
                                go_simp
                                with_reducible rfl
                              rotate_left
                              · simp only [Act.put, List.setIfInBounds_toArray, List.set_cons_zero, List.set_cons_succ, i64_w, i32_w]
                                rfl
                              refine one_ (i := 9) (N := some 67) (flg 16 1023) rfl rfl (one_of HT_.out (by kernel_rfl)) (by decide) (fun K hK => ?_)
                              refine goes_ Try.func61 (by kernel_rfl) rfl #[.string a0, .int .i64 t159] (by rfl) rfl rfl (by (try simp only [List.map_toArray, List.map_cons, List.map_nil]); first | done | rfl | (simp only [List.length_drop, List.length_take]; rfl) | (simp only [Int.ofNat_lt, Int.ofNat_le]; done) | (simp only [Int.ofNat_lt, Int.ofNat_le]; rfl) | (simp only [ByteArray.size_append, Int.natCast_add]; rfl)) ?_
                              with_reducible refine (page_at16.calls a0 t159 t161 _ A40.out).mono ?_
                              rintro e w' ⟨rfl, ⟨nd, rfl⟩⟩
                              refine ⟨_, rfl, ?_⟩
                              refine hK.out _ _ ⟨(blk_cell BK155.out 0).trans rfl, (blk_cell BK155.out 1).trans rfl, (blk_cell BK155.out 2).trans rfl⟩ (fun hHeld => ?_)
                              clear hK K
                              refine norm_ (a' := ?_) ?_ ?_
                              rotate_left
                              · show Act.put _ (some 67) _ = _
                                simp only [Act.put, List.setIfInBounds_toArray, List.set_cons_zero, List.set_cons_succ, i64_w, i32_w]
                                rfl
                              refine pure_ (i := 10) (N := some 68) (v := ?_) (a' := ?_) (flg 16 2047) rfl rfl (any_of HT_.out (by kernel_rfl)) (fun _ _ _ h => h) (Or.inl ⟨by rfl, ?_⟩) ?_ ?_
                              rotate_left
                              · intro w'
                                go_simp
                                with_reducible rfl
                              rotate_left
                              · simp only [Act.put, List.setIfInBounds_toArray, List.set_cons_zero, List.set_cons_succ, i64_w, i32_w]
                                rfl
                              refine pure_ (i := 11) (N := some 69) (v := ?_) (a' := ?_) (flg 16 4095) rfl rfl (any_of HT_.out (by kernel_rfl)) (fun _ _ _ h => h) (Or.inl ⟨by rfl, ?_⟩) ?_ ?_
                              rotate_left
                              · intro w'
                                go_simp
                                with_reducible rfl
                              rotate_left
                              · simp only [Act.put, List.setIfInBounds_toArray, List.set_cons_zero, List.set_cons_succ, i64_w, i32_w]
                                rfl
                              refine one_ (i := 12) (N := some 70) (flg 16 8191) rfl rfl (one_of HT_.out (by kernel_rfl)) (by decide) (fun K hK => ?_)
                              refine value_ (w1 := ?_) (v := ?_) (by rfl) rfl ?_ ?_
                              rotate_left 2
                              · go_simp
                                constructor
                                · rfl
                                · rfl
                              refine hK.out _ _ ⟨(blk_cell (blk_alloc BK155.out _) 0).trans rfl, (blk_cell (blk_alloc BK155.out _) 1).trans rfl, (blk_cell (blk_alloc BK155.out _) 2).trans rfl⟩ (fun hHeld => ?_)
                              clear hK K
                              refine norm_ (a' := ?_) ?_ ?_
                              rotate_left
                              · show Act.put _ (some 70) _ = _
                                simp only [Act.put, List.setIfInBounds_toArray, List.set_cons_zero, List.set_cons_succ, i64_w, i32_w]
                                rfl
                              refine one_ (i := 13) (N := some 71) (flg 16 16383) rfl rfl (one_of HT_.out (by kernel_rfl)) (by decide) (fun K hK => ?_)
                              refine Kd.R_append_step Kd.string (w0 := w) w.heap.size (by rfl) (.tmp 59) (.tmp 70) 74 9 (.string ⟨#[]⟩) 16 rfl Try.underlying74 info9 rfl (by decide) (by omega) u156002 x156002_2 (a0.extract ((ji41) : Int).toNat ((wrap64 ((ji41) + t161)) : Int).toNat) [.string (a0.extract ((ji41) : Int).toNat ((wrap64 ((ji41) + t161)) : Int).toNat)] (fun _ => True) (fun _ => False) rfl rfl ?aP (fun _ hk => hk.elim) ?aF ?aO ?aB ?aS ?aL ?_
                              (case aP => exact rfl)
                              (case aB => exact (by repeat (first | (with_reducible first | exact HB.out | apply below_alloc | apply pw_below_drewN | apply below_drew1 | refine below_set ?_ GE151.out | refine below_set ?_ GE155.out) | exact HB.out)))
                              (case aF => exact (fun _ _ => trivial))
                              (case aO => exact (by (with_reducible repeat (first | apply Kd.R_alloc | apply Kd.R_drewN | apply Kd.R_drew)); exact HO_156002.out))
                              (case aS => exact (below_size (by repeat (first | (with_reducible first | exact HB.out | apply below_alloc | apply pw_below_drewN | apply below_drew1 | refine below_set ?_ GE151.out | refine below_set ?_ GE155.out) | exact HB.out))))
                              (case aL => have := LMc45.out; omega)
                              intro v163 w47 ho hb hg hat
                              rw [← Ny162.out] at ho
                              have n0_ := Aside0.mk (blk_grown (g := gb151) (o := .cells #[.int .i64 x152000_2, .int .i64 x152001_2, .slice none 0 0] 76 (0, 0)) (by (with_reducible repeat (first | refine blk_drewN ?_ _ | refine blk_drew ?_ | refine blk_alloc ?_ _)); exact BK151.out) hg (Kd.R_ne HO_156002.out BK151.out (by decide)))
                              have n1_ := Aside0.mk (blk_grown (g := gb155) (o := .cells #[.int .i64 (wrap64 (bt a0 4)), .int .i64 t154, u156002] 76 (0, 0)) (by (with_reducible repeat (first | refine blk_drewN ?_ _ | refine blk_drew ?_ | refine blk_alloc ?_ _)); exact BK155.out) hg (Kd.R_ne HO_156002.out BK155.out (by decide)))
                              have n2_ := Aside0.mk (hb)
                              have n3_ := Aside0.mk (ho)
                              clear BK151
                              clear BK155
                              clear HB
                              clear HO_156002
                              have BK151 := n0_
                              have BK155 := n1_
                              have HB := n2_
                              have HO164 := n3_
                              clear n0_ n1_ n2_ n3_
                              clear ho hb hg hat
                              obtain ⟨Ao48, co48, eo48⟩ := Kd.R_slice HO164.out
                              (first | subst eo48 | (injection eo48 with f1_ f2_ f3_; have f4_ := f1_.symm; have f5_ := f3_.symm; clear f1_ f2_ f3_; subst f4_; subst f5_))
                              refine hK.out _ _ ⟨(blk_cell BK155.out 0).trans rfl, (blk_cell BK155.out 1).trans rfl, (blk_cell BK155.out 2).trans rfl⟩ (fun hHeld => ?_)
                              clear hK K
                              refine norm_ (a' := ?_) ?_ ?_
                              rotate_left
                              · show Act.put _ (some 71) _ = _
                                simp only [Act.put, List.setIfInBounds_toArray, List.set_cons_zero, List.set_cons_succ, i64_w, i32_w]
                                rfl
                              refine pure_ (i := 14) (N := some 72) (v := ?_) (a' := ?_) (flg 16 32767) rfl rfl (any_of HT_.out (by kernel_rfl)) (fun _ _ _ h => h) (Or.inl ⟨by rfl, ?_⟩) ?_ ?_
                              rotate_left
                              · intro w'
                                go_simp
                                with_reducible rfl
                              rotate_left
                              · simp only [Act.put, List.setIfInBounds_toArray, List.set_cons_zero, List.set_cons_succ, i64_w, i32_w]
                                rfl
                              refine last_ (i := 15) (N := none) (flg 16 65535) rfl rfl (one_of HT_.out (by kernel_rfl)) (by decide) (fun K hK => ?_)
                              have hs49 : w47.cell? ⟨gb155, 2, none⟩ = some (u156002) := (blk_cell BK155.out 2).trans rfl
                              have hfs49 := blk_frozen BK155.out 2
                              have hns49_0 := NB151_155.out
                              have hms49_0 := NB155_151.out
                              refine skip_ (w1 := ?_) (by rfl) rfl ?_ ?_
                              rotate_left
                              · go_simp
                                rfl
                              refine hK.out _ _ ?_
                              clear hK K
                              refine done_ (done_of HT_.out (by kernel_rfl)) ?_
                              try go_wp2
                              go_roundg k2
                              case measure => have := HJ1.out; have := HK2.out; omega
                              case rel => exact ⟨(wrap64 (x37_2 + 1)), (x152000_2), (x152001_2), (y162), (.slice Ao48 y162.length co48), (by first | rfl | (simp; done) | (simp [*]; done) | exact bq1 _ _ | exact bq2 _ _ | exact congrArg Value.bool (bq2 _ _) | exact congrArg Value.bool (bq1 _ _) | exact congrArg Value.bool (bq1' _ _) | exact bq1' _ _ | exact congrArg Value.bool (bq2' _ _) | exact bq2' _ _), H', ⟨by have := HJ1.out; have := HK2.out; omega⟩, ⟨by (with_reducible repeat (first | apply Kd.R_alloc | apply Kd.R_drewN | apply Kd.R_drew)); exact Kd.R_mono (Kd.R_far (p := ⟨gb155, 2, none⟩) (Kd.R_types HO164.out BK155.out (by decide)) (fun _ hk => hk.2) (.slice Ao48 y162.length co48)) (fun _ hk => trivial)⟩, ⟨by (with_reducible repeat (first | refine blk_drewN ?_ _ | refine blk_drew ?_ | refine blk_alloc ?_ _)); refine blk_far ?_ NB151_155.out _; (with_reducible repeat (first | refine blk_drewN ?_ _ | refine blk_drew ?_ | refine blk_alloc ?_ _)); exact BK151.out⟩, ⟨by (with_reducible repeat (first | refine blk_drewN ?_ _ | refine blk_drew ?_ | refine blk_alloc ?_ _)); refine blk_put (cs := #[.int .i64 (wrap64 (bt a0 4)), .int .i64 t154, u156002]) ?_ 2 _ rfl; (with_reducible repeat (first | refine blk_drewN ?_ _ | refine blk_drew ?_ | refine blk_alloc ?_ _)); exact BK155.out⟩, ⟨by repeat (first | (with_reducible first | exact HB.out | apply below_alloc | apply pw_below_drewN | apply below_drew1 | refine below_set ?_ GE151.out | refine below_set ?_ GE155.out) | exact HB.out)⟩⟩
                            · rw [if_neg c45] at H
                              exact absurd H (by simp)
                          · rw [if_neg c44] at H
                            exact absurd H (by simp)
                        · rw [if_neg c43] at H
                          exact absurd H (by simp)
                      · rw [if_neg c42] at H
                        exact absurd H (by simp)
                · rw [if_neg c31] at H
                  have c31b0 : decide (x37_2 < t156) = false := decide_eq_false c31
                  clear c31
                  replace H := Option.bind_eq_some_iff.mp H
                  obtain ⟨⟨t157, t158⟩, A500, H⟩ := H
                  replace H : (if t158 = 0 then (if t157.toList = a0.toList then (some ((wrap64 (bt a0 4)), t154, x156002_2, 0)) else (some (0, 0, ([] : List ByteArray), 4))) else (some (0, 0, ([] : List ByteArray), 4))) = some (r1, r2, r3, r4) := H
                  have A50 := Aside0.mk A500
                  clear A500
                  by_cases c51 : t158 = 0
                  · rw [if_pos c51] at H
                    have c51b0 : (t158 == 0) = true := beq_iff_eq.mpr c51
                    have c51b1 : (t158 != 0) = false := bne_eq_false_iff_eq.mpr c51
                    clear c51
                    by_cases c52 : t157.toList = a0.toList
                    · rw [if_pos c52] at H
                      have c52b0 : (t157.toList == a0.toList) = true := beq_iff_eq.mpr c52
                      have c52b1 : (t157.toList != a0.toList) = false := bne_eq_false_iff_eq.mpr c52
                      clear c52
                      simp only [Option.some.injEq, Prod.mk.injEq] at H
                      obtain ⟨rfl, rfl, rfl, rfl⟩ := H
                      have hnb53 := NB155_151.out
                      have hnc53 := NB151_155.out
                      have hcz54_0 : wr.cell? ⟨gb155, 0, none⟩ = some (.int .i64 (wrap64 (bt a0 4))) := (blk_cell BK155.out 0).trans rfl
                      have hcz54_1 : wr.cell? ⟨gb155, 1, none⟩ = some (.int .i64 t154) := (blk_cell BK155.out 1).trans rfl
                      have hcz54_2 : wr.cell? ⟨gb155, 2, none⟩ = some (u156002) := (blk_cell BK155.out 2).trans rfl
                      have hfz54_0 := blk_frozen BK155.out 0
                      have hfz54_1 := blk_frozen BK155.out 1
                      have hfz54_2 := blk_frozen BK155.out 2
                      obtain ⟨Ao55, co55, eo55⟩ := Kd.R_slice HO_156002.out
                      subst eo55
                      go_wp2_with (first | ((with_reducible refine gate_callee (f := 28) rfl ?_); refine goesL_ (some 76) rfl rfl Try.func28 (by kernel_rfl) rfl #[.agg #[.int .i64 (wrap64 (bt a0 4)), .int .i64 t154, .slice Ao55 x156002_2.length co55]] rfl (by (try simp only [List.map_toArray, List.map_cons, List.map_nil]); first | done | rfl | (simp only [List.length_drop, List.length_take]; rfl) | (simp only [Int.ofNat_lt, Int.ofNat_le]; done) | (simp only [Int.ofNat_lt, Int.ofNat_le]; rfl) | (simp only [ByteArray.size_append, Int.natCast_add]; rfl)) ?_; (with_reducible refine (page_Seal.calls k2 (wrap64 (bt a0 4)) t154 _ _ x156002_2 t157 t158 _ ?side1 ?side2 A50.out).mono ?_); (case side1 => repeat (first | exact (Kd.R_reads' HO_156002.out).2.2 | (with_reducible refine Kd.C_alloc ?_ _) | (with_reducible refine Kd.C_drewN ?_ _) | (with_reducible refine Kd.C_drew ?_))); (case side2 => exact (Kd.R_reads' HO_156002.out).2.1); rintro e w56 ⟨rfl, hb⟩; refine ⟨_, rfl, ?_⟩; have n0_ := Aside0.mk (Kd.R_below (by (with_reducible repeat (first | apply Kd.R_alloc | apply Kd.R_drewN | apply Kd.R_drew)); exact HO_156002.out) hb); have n1_ := Aside0.mk (blk_below (g := gb151) (o := .cells #[.int .i64 x152000_2, .int .i64 x152001_2, .slice none 0 0] 76 (0, 0)) (by (with_reducible repeat (first | refine blk_drewN ?_ _ | refine blk_drew ?_ | refine blk_alloc ?_ _)); exact BK151.out) hb); have n2_ := Aside0.mk (blk_below (g := gb155) (o := .cells #[.int .i64 (wrap64 (bt a0 4)), .int .i64 t154, .slice Ao55 x156002_2.length co55] 76 (0, 0)) (by (with_reducible repeat (first | refine blk_drewN ?_ _ | refine blk_drew ?_ | refine blk_alloc ?_ _)); exact BK155.out) hb); have n3_ := Aside0.mk (below_step (by repeat (first | (with_reducible first | exact HB.out | apply below_alloc | apply pw_below_drewN | apply below_drew1 | refine below_set ?_ GE151.out | refine below_set ?_ GE155.out) | exact HB.out)) hb); clear HO_156002; clear BK151; clear BK155; clear HB; have HO_156002 := n0_; have BK151 := n1_; have BK155 := n2_; have HB := n3_; clear n0_ n1_ n2_ n3_; (try clear hb); (try clear hb2); (try clear hk); (try clear hi); have hcz57_0 : w56.cell? ⟨gb155, 0, none⟩ = some (.int .i64 (wrap64 (bt a0 4))) := (blk_cell BK155.out 0).trans rfl; have hcz57_1 : w56.cell? ⟨gb155, 1, none⟩ = some (.int .i64 t154) := (blk_cell BK155.out 1).trans rfl; have hcz57_2 : w56.cell? ⟨gb155, 2, none⟩ = some (.slice Ao55 x156002_2.length co55) := (blk_cell BK155.out 2).trans rfl; have hfz57_0 := blk_frozen BK155.out 0; have hfz57_1 := blk_frozen BK155.out 1; have hfz57_2 := blk_frozen BK155.out 2; have hcz58_0 : w56.cell? ⟨gb151, 0, none⟩ = some (.int .i64 x152000_2) := (blk_cell BK151.out 0).trans rfl; have hcz58_1 : w56.cell? ⟨gb151, 1, none⟩ = some (.int .i64 x152001_2) := (blk_cell BK151.out 1).trans rfl; have hcz58_2 : w56.cell? ⟨gb151, 2, none⟩ = some (.slice none 0 0) := (blk_cell BK151.out 2).trans rfl; have hfz58_0 := blk_frozen BK151.out 0; have hfz58_1 := blk_frozen BK151.out 1; have hfz58_2 := blk_frozen BK151.out 2))
                      refine bodyPost_ret (results_ct rfl _ _ gb151 76 #[.int .i64 (wrap64 (bt a0 4)), .int .i64 t154, .slice Ao55 x156002_2.length co55] (0, 0) _ rfl (by (with_reducible repeat (first | refine blk_drewN ?_ _ | refine blk_drew ?_ | refine blk_alloc ?_ _)); refine blk_put (cs := #[.int .i64 (wrap64 (bt a0 4)), .int .i64 t154, .slice none 0 0]) ?_ 2 _ rfl; (with_reducible repeat (first | refine blk_drewN ?_ _ | refine blk_drew ?_ | refine blk_alloc ?_ _)); refine blk_put (cs := #[.int .i64 (wrap64 (bt a0 4)), .int .i64 x152001_2, .slice none 0 0]) ?_ 1 _ rfl; (with_reducible repeat (first | refine blk_drewN ?_ _ | refine blk_drew ?_ | refine blk_alloc ?_ _)); refine blk_put (cs := #[.int .i64 x152000_2, .int .i64 x152001_2, .slice none 0 0]) ?_ 0 _ rfl; (with_reducible repeat (first | refine blk_drewN ?_ _ | refine blk_drew ?_ | refine blk_alloc ?_ _)); exact BK151.out) Try.underlying76 rfl (by kernel_rfl)) rfl ?_
                      exact ⟨_, by first | rfl | (simp [errW_none, errW_some] <;> rfl) | (simp [*, errW_none, errW_some] <;> rfl), by (with_reducible repeat (first | apply Kd.R_alloc | apply Kd.R_drewN | apply Kd.R_drew)); exact Kd.R_mono (Kd.R_far (p := ⟨gb151, 2, none⟩) (Kd.R_far (p := ⟨gb151, 1, none⟩) (Kd.R_far (p := ⟨gb151, 0, none⟩) (Kd.R_types HO_156002.out BK151.out (by decide)) (fun _ hk => hk.2) (.int .i64 (wrap64 (bt a0 4)))) (fun _ hk => hk.2) (.int .i64 t154)) (fun _ hk => hk.2) (.slice Ao55 x156002_2.length co55)) (fun _ hk => trivial), by repeat (first | (with_reducible first | exact HB.out | apply below_alloc | apply pw_below_drewN | apply below_drew1 | refine below_set ?_ GE151.out | refine below_set ?_ GE155.out) | exact HB.out)⟩
                    · rw [if_neg c52] at H
                      have c52b0 : (t157.toList == a0.toList) = false := beq_eq_false_iff_ne.mpr c52
                      have c52b1 : (t157.toList != a0.toList) = true := bne_iff_ne.mpr c52
                      simp only [Option.some.injEq, Prod.mk.injEq] at H
                      obtain ⟨rfl, rfl, rfl, rfl⟩ := H
                      have hnb59 := NB155_151.out
                      have hnc59 := NB151_155.out
                      have hcz60_0 : wr.cell? ⟨gb155, 0, none⟩ = some (.int .i64 (wrap64 (bt a0 4))) := (blk_cell BK155.out 0).trans rfl
                      have hcz60_1 : wr.cell? ⟨gb155, 1, none⟩ = some (.int .i64 t154) := (blk_cell BK155.out 1).trans rfl
                      have hcz60_2 : wr.cell? ⟨gb155, 2, none⟩ = some (u156002) := (blk_cell BK155.out 2).trans rfl
                      have hfz60_0 := blk_frozen BK155.out 0
                      have hfz60_1 := blk_frozen BK155.out 1
                      have hfz60_2 := blk_frozen BK155.out 2
                      obtain ⟨Ao61, co61, eo61⟩ := Kd.R_slice HO_156002.out
                      subst eo61
                      go_wp2_with (first | ((with_reducible refine gate_callee (f := 28) rfl ?_); refine goesL_ (some 76) rfl rfl Try.func28 (by kernel_rfl) rfl #[.agg #[.int .i64 (wrap64 (bt a0 4)), .int .i64 t154, .slice Ao61 x156002_2.length co61]] rfl (by (try simp only [List.map_toArray, List.map_cons, List.map_nil]); first | done | rfl | (simp only [List.length_drop, List.length_take]; rfl) | (simp only [Int.ofNat_lt, Int.ofNat_le]; done) | (simp only [Int.ofNat_lt, Int.ofNat_le]; rfl) | (simp only [ByteArray.size_append, Int.natCast_add]; rfl)) ?_; (with_reducible refine (page_Seal.calls k2 (wrap64 (bt a0 4)) t154 _ _ x156002_2 t157 t158 _ ?side1 ?side2 A50.out).mono ?_); (case side1 => repeat (first | exact (Kd.R_reads' HO_156002.out).2.2 | (with_reducible refine Kd.C_alloc ?_ _) | (with_reducible refine Kd.C_drewN ?_ _) | (with_reducible refine Kd.C_drew ?_))); (case side2 => exact (Kd.R_reads' HO_156002.out).2.1); rintro e w62 ⟨rfl, hb⟩; refine ⟨_, rfl, ?_⟩; have n0_ := Aside0.mk (Kd.R_below (by (with_reducible repeat (first | apply Kd.R_alloc | apply Kd.R_drewN | apply Kd.R_drew)); exact HO_156002.out) hb); have n1_ := Aside0.mk (blk_below (g := gb151) (o := .cells #[.int .i64 x152000_2, .int .i64 x152001_2, .slice none 0 0] 76 (0, 0)) (by (with_reducible repeat (first | refine blk_drewN ?_ _ | refine blk_drew ?_ | refine blk_alloc ?_ _)); exact BK151.out) hb); have n2_ := Aside0.mk (blk_below (g := gb155) (o := .cells #[.int .i64 (wrap64 (bt a0 4)), .int .i64 t154, .slice Ao61 x156002_2.length co61] 76 (0, 0)) (by (with_reducible repeat (first | refine blk_drewN ?_ _ | refine blk_drew ?_ | refine blk_alloc ?_ _)); exact BK155.out) hb); have n3_ := Aside0.mk (below_step (by repeat (first | (with_reducible first | exact HB.out | apply below_alloc | apply pw_below_drewN | apply below_drew1 | refine below_set ?_ GE151.out | refine below_set ?_ GE155.out) | exact HB.out)) hb); clear HO_156002; clear BK151; clear BK155; clear HB; have HO_156002 := n0_; have BK151 := n1_; have BK155 := n2_; have HB := n3_; clear n0_ n1_ n2_ n3_; (try clear hb); (try clear hb2); (try clear hk); (try clear hi); have hcz63_0 : w62.cell? ⟨gb151, 0, none⟩ = some (.int .i64 x152000_2) := (blk_cell BK151.out 0).trans rfl; have hcz63_1 : w62.cell? ⟨gb151, 1, none⟩ = some (.int .i64 x152001_2) := (blk_cell BK151.out 1).trans rfl; have hcz63_2 : w62.cell? ⟨gb151, 2, none⟩ = some (.slice none 0 0) := (blk_cell BK151.out 2).trans rfl; have hfz63_0 := blk_frozen BK151.out 0; have hfz63_1 := blk_frozen BK151.out 1; have hfz63_2 := blk_frozen BK151.out 2))
                      refine bodyPost_ret (results_ct rfl _ _ gb151 76 #[.int .i64 0, .int .i64 0, .slice none 0 0] (0, 0) _ rfl (by (with_reducible repeat (first | refine blk_drewN ?_ _ | refine blk_drew ?_ | refine blk_alloc ?_ _)); refine blk_put (cs := #[.int .i64 0, .int .i64 0, .slice none 0 0]) ?_ 2 _ rfl; (with_reducible repeat (first | refine blk_drewN ?_ _ | refine blk_drew ?_ | refine blk_alloc ?_ _)); refine blk_put (cs := #[.int .i64 0, .int .i64 x152001_2, .slice none 0 0]) ?_ 1 _ rfl; (with_reducible repeat (first | refine blk_drewN ?_ _ | refine blk_drew ?_ | refine blk_alloc ?_ _)); refine blk_put (cs := #[.int .i64 x152000_2, .int .i64 x152001_2, .slice none 0 0]) ?_ 0 _ rfl; (with_reducible repeat (first | refine blk_drewN ?_ _ | refine blk_drew ?_ | refine blk_alloc ?_ _)); exact BK151.out) Try.underlying76 rfl (by kernel_rfl)) rfl ?_
                      exact ⟨_, by first | rfl | (simp [errW_none, errW_some] <;> rfl) | (simp [*, errW_none, errW_some] <;> rfl), by first | exact Kd.R_nil _ _ _ _ _ | exact Kd.N_nil _ _ _ _ _ | exact Kd.V_nil _ _ _ _ _ | exact Kd.Q_nil _ _ _ _ _ | exact Kd.S_nil _ _ _ _ _, by repeat (first | (with_reducible first | exact HB.out | apply below_alloc | apply pw_below_drewN | apply below_drew1 | refine below_set ?_ GE151.out | refine below_set ?_ GE155.out) | exact HB.out)⟩
                  · rw [if_neg c51] at H
                    have c51b0 : (t158 == 0) = false := beq_eq_false_iff_ne.mpr c51
                    have c51b1 : (t158 != 0) = true := bne_iff_ne.mpr c51
                    simp only [Option.some.injEq, Prod.mk.injEq] at H
                    obtain ⟨rfl, rfl, rfl, rfl⟩ := H
                    have hnb64 := NB155_151.out
                    have hnc64 := NB151_155.out
                    have hcz65_0 : wr.cell? ⟨gb155, 0, none⟩ = some (.int .i64 (wrap64 (bt a0 4))) := (blk_cell BK155.out 0).trans rfl
                    have hcz65_1 : wr.cell? ⟨gb155, 1, none⟩ = some (.int .i64 t154) := (blk_cell BK155.out 1).trans rfl
                    have hcz65_2 : wr.cell? ⟨gb155, 2, none⟩ = some (u156002) := (blk_cell BK155.out 2).trans rfl
                    have hfz65_0 := blk_frozen BK155.out 0
                    have hfz65_1 := blk_frozen BK155.out 1
                    have hfz65_2 := blk_frozen BK155.out 2
                    obtain ⟨Ao66, co66, eo66⟩ := Kd.R_slice HO_156002.out
                    subst eo66
                    go_wp2_with (first | ((with_reducible refine gate_callee (f := 28) rfl ?_); refine goesL_ (some 76) rfl rfl Try.func28 (by kernel_rfl) rfl #[.agg #[.int .i64 (wrap64 (bt a0 4)), .int .i64 t154, .slice Ao66 x156002_2.length co66]] rfl (by (try simp only [List.map_toArray, List.map_cons, List.map_nil]); first | done | rfl | (simp only [List.length_drop, List.length_take]; rfl) | (simp only [Int.ofNat_lt, Int.ofNat_le]; done) | (simp only [Int.ofNat_lt, Int.ofNat_le]; rfl) | (simp only [ByteArray.size_append, Int.natCast_add]; rfl)) ?_; (with_reducible refine (page_Seal.calls k2 (wrap64 (bt a0 4)) t154 _ _ x156002_2 t157 t158 _ ?side1 ?side2 A50.out).mono ?_); (case side1 => repeat (first | exact (Kd.R_reads' HO_156002.out).2.2 | (with_reducible refine Kd.C_alloc ?_ _) | (with_reducible refine Kd.C_drewN ?_ _) | (with_reducible refine Kd.C_drew ?_))); (case side2 => exact (Kd.R_reads' HO_156002.out).2.1); rintro e w67 ⟨rfl, hb⟩; refine ⟨_, rfl, ?_⟩; have n0_ := Aside0.mk (Kd.R_below (by (with_reducible repeat (first | apply Kd.R_alloc | apply Kd.R_drewN | apply Kd.R_drew)); exact HO_156002.out) hb); have n1_ := Aside0.mk (blk_below (g := gb151) (o := .cells #[.int .i64 x152000_2, .int .i64 x152001_2, .slice none 0 0] 76 (0, 0)) (by (with_reducible repeat (first | refine blk_drewN ?_ _ | refine blk_drew ?_ | refine blk_alloc ?_ _)); exact BK151.out) hb); have n2_ := Aside0.mk (blk_below (g := gb155) (o := .cells #[.int .i64 (wrap64 (bt a0 4)), .int .i64 t154, .slice Ao66 x156002_2.length co66] 76 (0, 0)) (by (with_reducible repeat (first | refine blk_drewN ?_ _ | refine blk_drew ?_ | refine blk_alloc ?_ _)); exact BK155.out) hb); have n3_ := Aside0.mk (below_step (by repeat (first | (with_reducible first | exact HB.out | apply below_alloc | apply pw_below_drewN | apply below_drew1 | refine below_set ?_ GE151.out | refine below_set ?_ GE155.out) | exact HB.out)) hb); clear HO_156002; clear BK151; clear BK155; clear HB; have HO_156002 := n0_; have BK151 := n1_; have BK155 := n2_; have HB := n3_; clear n0_ n1_ n2_ n3_; (try clear hb); (try clear hb2); (try clear hk); (try clear hi); have hcz68_0 : w67.cell? ⟨gb151, 0, none⟩ = some (.int .i64 x152000_2) := (blk_cell BK151.out 0).trans rfl; have hcz68_1 : w67.cell? ⟨gb151, 1, none⟩ = some (.int .i64 x152001_2) := (blk_cell BK151.out 1).trans rfl; have hcz68_2 : w67.cell? ⟨gb151, 2, none⟩ = some (.slice none 0 0) := (blk_cell BK151.out 2).trans rfl; have hfz68_0 := blk_frozen BK151.out 0; have hfz68_1 := blk_frozen BK151.out 1; have hfz68_2 := blk_frozen BK151.out 2))
                    refine bodyPost_ret (results_ct rfl _ _ gb151 76 #[.int .i64 0, .int .i64 0, .slice none 0 0] (0, 0) _ rfl (by (with_reducible repeat (first | refine blk_drewN ?_ _ | refine blk_drew ?_ | refine blk_alloc ?_ _)); refine blk_put (cs := #[.int .i64 0, .int .i64 0, .slice none 0 0]) ?_ 2 _ rfl; (with_reducible repeat (first | refine blk_drewN ?_ _ | refine blk_drew ?_ | refine blk_alloc ?_ _)); refine blk_put (cs := #[.int .i64 0, .int .i64 x152001_2, .slice none 0 0]) ?_ 1 _ rfl; (with_reducible repeat (first | refine blk_drewN ?_ _ | refine blk_drew ?_ | refine blk_alloc ?_ _)); refine blk_put (cs := #[.int .i64 x152000_2, .int .i64 x152001_2, .slice none 0 0]) ?_ 0 _ rfl; (with_reducible repeat (first | refine blk_drewN ?_ _ | refine blk_drew ?_ | refine blk_alloc ?_ _)); exact BK151.out) Try.underlying76 rfl (by kernel_rfl)) rfl ?_
                    exact ⟨_, by first | rfl | (simp [errW_none, errW_some] <;> rfl) | (simp [*, errW_none, errW_some] <;> rfl), by first | exact Kd.R_nil _ _ _ _ _ | exact Kd.N_nil _ _ _ _ _ | exact Kd.V_nil _ _ _ _ _ | exact Kd.Q_nil _ _ _ _ _ | exact Kd.S_nil _ _ _ _ _, by repeat (first | (with_reducible first | exact HB.out | apply below_alloc | apply pw_below_drewN | apply below_drew1 | refine below_set ?_ GE151.out | refine below_set ?_ GE155.out) | exact HB.out)⟩
        · rw [if_neg c12] at H
          exact absurd H (by simp)
attribute [local go_sem] max2_int min2_int max_two min_two max_three min_three max_four min_four   -- for this text's walks alone
set_option linter.unusedVariables false
set_option linter.unusedSimpArgs false
def relstoreref_unbytes.l0 : Nat → ByteArray → Int → Int → Option (Int)
  | 0, _, _, _ => none
  | k + 1, x0, x3, x4 => if x4 < (x0.size : Int) then (if 0 ≤ x4 then (relstoreref_unbytes.l0 k x0 (IntKind.u64.wrap ((IntKind.u64.wrap (256 * x3)) + (IntKind.u64.wrap (bt x0 x4)))) (wrap64 (x4 + 1))) else (none)) else (some x3)
end Go.Proofs.Ythaoaaboempajab.QPageSeals
namespace Go.Proofs.Ythaoaaboempajab.Pages
open Go.RowKit Go.Proofs.Ythaoaaboempajab.QPageSeals Go.Proofs.YthaoaaboempajabW.PrintWords Go.Proofs.YthaoaaboempajabW.PrintLast Go.Proofs.YthaoaaboempajabE
set_option linter.unusedVariables false
set_option linter.unusedSimpArgs false
theorem xor_nat (a b : Nat) (ha : a < 4294967296) (hb : b < 4294967296) : Go.bits .xor .u32 (a : Int) (b : Int) = ((a ^^^ b : Nat) : Int) := by
  have hp : (2 : Nat) ^ IntKind.u32.bits = 4294967296 := rfl
  have ha' : a % 2 ^ IntKind.u32.bits = a := Nat.mod_eq_of_lt (by rw [hp]; exact ha)
  have hb' : b % 2 ^ IntKind.u32.bits = b := Nat.mod_eq_of_lt (by rw [hp]; exact hb)
  have hx : a ^^^ b < 2 ^ 32 := Nat.xor_lt_two_pow ha hb
  simp only [bits, BitVec.ofInt_natCast, BitVec.toNat_xor, BitVec.toNat_ofNat, ha', hb']
  rw [IntKind.wrap_u32]
  omega
theorem and_one (c : Nat) (h : c < 4294967296) : Go.bits .and .u32 (c : Int) 1 = ((c % 2 : Nat) : Int) := by
  have := bits_mask .u32 32 (by decide) (fun n h0 h1 => by rw [IntKind.wrap_u32]; omega) 1 (by decide) (c : Int) (by omega) (by omega)
  rw [show ((2 : Int) ^ 1 - 1) = 1 from rfl] at this
  rw [this]
  omega
theorem xor_all (c : Nat) (h : c < 4294967296) : 4294967295 ^^^ c = 4294967295 - c := by
  have e : (4294967295 : Nat) = (BitVec.allOnes 32).toNat := rfl
  have h1 : (BitVec.ofNat 32 c).toNat = c := by simp; omega
  have h2 := congrArg BitVec.toNat (BitVec.allOnes_xor (x := BitVec.ofNat 32 c))
  rw [BitVec.toNat_xor, BitVec.toNat_not, h1] at h2
  rw [e, h2]
  rfl
def rnd (c : Nat) : Nat := if c % 2 = 1 then (c / 2) ^^^ 3988292384 else c / 2
def rnd8 (c : Nat) : Nat := rnd (rnd (rnd (rnd (rnd (rnd (rnd (rnd c)))))))
def crc : Nat → List UInt8 → Nat
  | c, [] => c
  | c, b :: r => crc (rnd8 (c ^^^ b.toNat)) r
def sumOf (l : List UInt8) : Nat := 4294967295 - crc 4294967295 l
theorem rnd_lt {c : Nat} (h : c < 4294967296) : rnd c < 4294967296 := by
  unfold rnd
  split
  · exact Nat.xor_lt_two_pow (n := 32) (by omega) (by decide)
  · omega
theorem rnd8_lt {c : Nat} (h : c < 4294967296) : rnd8 c < 4294967296 := rnd_lt (rnd_lt (rnd_lt (rnd_lt (rnd_lt (rnd_lt (rnd_lt (rnd_lt h)))))))
theorem xorb_lt {c : Nat} (h : c < 4294967296) (b : UInt8) : c ^^^ b.toNat < 4294967296 := Nat.xor_lt_two_pow (n := 32) h (by have := b.toNat_lt; omega)
theorem sumOf_lt (l : List UInt8) : sumOf l < 4294967296 := by unfold sumOf; omega
theorem p_step (k : Nat) (s : ByteArray) (c : Nat) (i y : Int) (h0 : 0 ≤ y) (h8 : y < 8) (hc : c < 4294967296) : page_Sum.l1 (k + 1) s (c : Int) i y = page_Sum.l1 k s (rnd c : Nat) i (y + 1) := by
  simp only [page_Sum.l1]
  rw [if_pos h8, and_one c hc, show wrap64 (y + 1) = y + 1 by unfold wrap64; omega]
  unfold rnd
  by_cases h : c % 2 = 1
  · rw [if_pos (by omega), if_pos h]
    rw [show ((c : Int) / 2) = ((c / 2 : Nat) : Int) by omega, show (3988292384 : Int) = ((3988292384 : Nat) : Int) from rfl, xor_nat _ _ (by omega) (by decide)]
  · rw [if_neg (by omega), if_neg h]
    rw [show ((c : Int) / 2) = ((c / 2 : Nat) : Int) by omega]
theorem p_round (k : Nat) (s : ByteArray) (c : Nat) (i : Int) (hc : c < 4294967296) : page_Sum.l1 (k + 9) s (c : Int) i 0 = page_Sum.l0 k s (rnd8 c : Nat) (wrap64 (i + 1)) := by
  have l1 := rnd_lt hc
  have l2 := rnd_lt l1
  have l3 := rnd_lt l2
  have l4 := rnd_lt l3
  have l5 := rnd_lt l4
  have l6 := rnd_lt l5
  have l7 := rnd_lt l6
  rw [p_step (k + 8) s c i 0 (by decide) (by decide) hc, p_step (k + 7) s _ i (0 + 1) (by decide) (by decide) l1, p_step (k + 6) s _ i (0 + 1 + 1) (by decide) (by decide) l2,
    p_step (k + 5) s _ i (0 + 1 + 1 + 1) (by decide) (by decide) l3, p_step (k + 4) s _ i (0 + 1 + 1 + 1 + 1) (by decide) (by decide) l4, p_step (k + 3) s _ i (0 + 1 + 1 + 1 + 1 + 1) (by decide) (by decide) l5,
    p_step (k + 2) s _ i (0 + 1 + 1 + 1 + 1 + 1 + 1) (by decide) (by decide) l6, p_step (k + 1) s _ i (0 + 1 + 1 + 1 + 1 + 1 + 1 + 1) (by decide) (by decide) l7]
  simp only [page_Sum.l1]
  rw [if_neg (by decide)]
  rfl
theorem p_l0 (s : ByteArray) (hs : s.size ≤ 140737488351232) : ∀ (R Q : List UInt8) (c : Nat), s.data.toList = Q ++ R → c < 4294967296 → ∃ n, ∀ k, n ≤ k → page_Sum.l0 k s (c : Int) (Q.length : Int) = some ((4294967295 - crc c R : Nat) : Int)
  | [], Q, c, h, hc => by
    refine ⟨1, fun k hk => ?_⟩
    obtain ⟨k, rfl⟩ : ∃ m, k = m + 1 := ⟨k - 1, by omega⟩
    have hq := size_in h
    rw [List.append_nil] at hq
    simp only [page_Sum.l0]
    rw [if_neg (by omega), show (4294967295 : Int) = ((4294967295 : Nat) : Int) from rfl, xor_nat _ _ (by decide) hc, xor_all c hc]
    rfl
  | b :: R, Q, c, h, hc => by
    obtain ⟨n, ih⟩ := p_l0 s hs R (Q ++ [b]) (rnd8 (c ^^^ b.toNat)) (by simpa using h) (rnd8_lt (xorb_lt hc b))
    refine ⟨n + 10, fun k hk => ?_⟩
    obtain ⟨k, rfl⟩ : ∃ m, k = m + 10 := ⟨k - 10, by omega⟩
    have hq := size_in h
    rw [List.length_append, List.length_cons] at hq
    have hb := bt_in h
    have hb2 := b.toNat_lt
    show page_Sum.l0 (k + 9 + 1) s _ _ = _
    simp only [page_Sum.l0]
    rw [if_pos (by omega), if_pos (by omega), hb, show ((b.toNat : Int) % 4294967296) = ((b.toNat : Nat) : Int) by omega, xor_nat _ _ hc (by omega), p_round k s _ _ (xorb_lt hc b)]
    rw [show wrap64 ((Q.length : Int) + 1) = (((Q ++ [b]).length : Nat) : Int) by rw [List.length_append]; unfold wrap64; simp; omega]
    exact ih k (by omega)
theorem p_sum (s : ByteArray) (hs : s.size ≤ 140737488351232) : ∃ n, ∀ k, n ≤ k → page_Sum.f k s = some ((sumOf s.data.toList : Nat) : Int) := p_l0 s hs s.data.toList [] 4294967295 rfl (by decide)
def b8 (n : Int) : UInt8 := UInt8.ofNat n.toNat
theorem data_inj {a b : ByteArray} (h : a.data.toList = b.data.toList) : a = b := by
  cases a; cases b
  congr 1
  exact Array.ext' h
theorem nums_data (xs : List Int) : (strOfNums xs).data.toList = xs.map b8 := rfl
theorem nums_bytes (s : ByteArray) : strOfNums (bytesOf s) = s := by
  apply data_inj
  rw [nums_data, bytesOf, List.map_map]
  conv => rhs; rw [← List.map_id s.data.toList]
  apply List.map_congr_left
  intro x _
  show UInt8.ofNat ((x.toNat : Int)).toNat = x
  rw [Int.toNat_natCast]
  exact UInt8.ofNat_toNat
theorem nums_size (xs : List Int) : (strOfNums xs).size = xs.length := by simp [strOfNums, ByteArray.size]
def two (n : Nat) : List Int := [((n : Int) / 256) % 256, (n : Int) % 256]
def four (n : Nat) : List Int := two (n / 65536) ++ two n
theorem two_length (n : Nat) : (two n).length = 2 := rfl
theorem four_length (n : Nat) : (four n).length = 4 := rfl
theorem p_two (x : Nat) : page_two.f (x : Int) = some (two x) := rfl
theorem p_four (x : Nat) : page_four.f (x : Int) = some (four x) := by
  unfold page_four.f
  rw [show ((x : Int) / 65536) = ((x / 65536 : Nat) : Int) by omega, p_two, p_two]
  rfl
theorem seal_two (x : Nat) : page_Seal.two x = two x := rfl
def tot : List ByteArray → Nat
  | [] => 0
  | c :: r => 4 + c.size + tot r
theorem tot_append : ∀ (a b : List ByteArray), tot (a ++ b) = tot a + tot b
  | [], b => by simp [tot]
  | c :: r, b => by simp only [List.cons_append, tot, tot_append r b]; omega
theorem rd_in {Q R : List ByteArray} {c : ByteArray} : rdOf ByteArray.empty (Q ++ c :: R) (Q.length : Int) = c := by
  unfold rdOf
  exact getD_in rfl
theorem wadd (a b c : Nat) (h : a + (4 + b) = c) (hc : c ≤ 4611686018427387904) : wrap64 ((a : Int) + wrap64 (4 + (b : Int))) = (c : Int) := by unfold wrap64; omega
theorem wsucc (n m : Nat) (h : n + 1 = m) (hm : m ≤ 4611686018427387904) : wrap64 ((n : Int) + 1) = (m : Int) := by unfold wrap64; omega
theorem len_tot : ∀ l : List ByteArray, 4 * l.length ≤ tot l
  | [] => by simp
  | x :: r => by have := len_tot r; simp only [List.length_cons, tot]; omega
theorem used_l0 (l : List ByteArray) (hb : tot l ≤ 4611686018427387904) : ∀ (R Q : List ByteArray), l = Q ++ R → ∀ k, R.length < k → page_Used.l0 k ((tot Q : Nat) : Int) l (l.length : Int) (Q.length : Int) = some ((tot l : Nat) : Int)
  | [], Q, h => fun k hk => by
    obtain ⟨k, rfl⟩ : ∃ m, k = m + 1 := ⟨k - 1, by omega⟩
    rw [List.append_nil] at h
    subst h
    simp only [page_Used.l0]
    rw [if_neg (by omega)]
  | c :: R, Q, h => fun k hk => by
    obtain ⟨k, rfl⟩ : ∃ m, k = m + 1 := ⟨k - 1, by omega⟩
    have ih := used_l0 l hb R (Q ++ [c]) (by simpa using h) k (by simp at hk; omega)
    have hl : l.length = Q.length + (R.length + 1) := by rw [h]; simp
    have ht : tot l = tot Q + (4 + c.size + tot R) := by rw [h, tot_append]; rfl
    have h4 := len_tot l
    simp only [page_Used.l0]
    rw [if_pos (by omega), if_pos (by omega), if_pos (by omega)]
    have hr : rdOf ByteArray.empty l (Q.length : Int) = c := by rw [h]; exact rd_in
    rw [hr]
    rw [show wrap64 (((tot Q : Nat) : Int) + wrap64 (4 + (c.size : Int))) = ((tot (Q ++ [c]) : Nat) : Int) from wadd _ _ _ (by rw [tot_append]; simp only [tot]; omega) (by rw [tot_append]; simp only [tot]; omega)]
    rw [show wrap64 ((Q.length : Int) + 1) = (((Q ++ [c]).length : Nat) : Int) from wsucc _ _ (by simp) (by simp; omega)]
    exact ih
theorem used_is (l : List ByteArray) (hb : tot l ≤ 4611686018427387904) (k : Nat) (hk : l.length < k) : page_Used.f k l = some ((tot l : Nat) : Int) := used_l0 l hb l [] rfl k hk
def offs : List ByteArray → Nat → List Int
  | [], _ => []
  | c :: r, e => two (e - (2 + c.size)) ++ offs r (e - (2 + c.size))
def bodyL : List ByteArray → List Int → List Int
  | [], acc => acc
  | c :: r, acc => bodyL r (two c.size ++ (bytesOf c ++ acc))
theorem offs_length : ∀ (l : List ByteArray) (e : Nat), (offs l e).length = 2 * l.length
  | [], _ => rfl
  | c :: r, e => by simp only [offs, List.length_append, two_length, offs_length r, List.length_cons]; omega
theorem bodyL_length : ∀ (l : List ByteArray) (acc : List Int), (bodyL l acc).length + 2 * l.length = acc.length + tot l
  | [], _ => by simp [bodyL, tot]
  | c :: r, acc => by
    have := bodyL_length r (two c.size ++ (bytesOf c ++ acc))
    simp only [List.length_append, two_length, bytesOf_length] at this
    simp only [bodyL, tot, List.length_cons]
    omega
theorem spl_mid {P X S Y : List Int} {off : Nat} (ho : off = P.length) (h : X.length = Y.length) : page_Seal.spl (P ++ (X ++ S)) off Y = P ++ (Y ++ S) := by
  subst ho
  unfold page_Seal.spl
  rw [List.take_left, ← h, show P.length + X.length = (P ++ X).length by rw [List.length_append], ← List.append_assoc P X S, List.drop_left]
theorem zeros_split (a b : Nat) : List.replicate (a + b) (0 : Int) = List.replicate a 0 ++ List.replicate b 0 := (List.replicate_append_replicate).symm
theorem cells_is : ∀ (l : List ByteArray) (i z : Nat) (H O B : List Int), H.length = 12 → O.length = 2 * i → tot l ≤ z → 12 + 2 * i + z + B.length = 1024 →
    page_Seal.cells l i (12 + 2 * i + z) (H ++ (O ++ (List.replicate z 0 ++ B))) = some (H ++ ((O ++ offs l (12 + 2 * i + z)) ++ (List.replicate (z - tot l) 0 ++ bodyL l B)))
  | [], i, z, H, O, B, hH, hO, ht, hB => by simp [page_Seal.cells, offs, bodyL, tot]
  | c :: r, i, z, H, O, B, hH, hO, ht, hB => by
    simp only [tot] at ht
    obtain ⟨m, hm⟩ : ∃ m, z = 2 + (m + (2 + c.size)) := ⟨z - (4 + c.size), by omega⟩
    have he : 12 + 2 * i + z - (2 + c.size) = 12 + 2 * (i + 1) + m := by omega
    unfold page_Seal.cells
    rw [if_pos (by omega), he]
    have z1 : List.replicate z (0 : Int) ++ B = List.replicate 2 0 ++ (List.replicate m 0 ++ (List.replicate 2 0 ++ (List.replicate c.size 0 ++ B))) := by
      rw [hm, zeros_split, zeros_split m, zeros_split 2 c.size]; simp only [List.append_assoc]
    rw [z1]
    rw [show H ++ (O ++ (List.replicate 2 (0 : Int) ++ (List.replicate m 0 ++ (List.replicate 2 0 ++ (List.replicate c.size 0 ++ B))))) = (H ++ O) ++ (List.replicate 2 (0 : Int) ++ (List.replicate m 0 ++ (List.replicate 2 0 ++ (List.replicate c.size 0 ++ B)))) by simp only [List.append_assoc]]
    rw [spl_mid (off := 12 + 2 * i) (by rw [List.length_append]; omega) (by rw [List.length_replicate]; rfl)]
    rw [show (H ++ O) ++ (page_Seal.two (12 + 2 * (i + 1) + m) ++ (List.replicate m (0 : Int) ++ (List.replicate 2 0 ++ (List.replicate c.size 0 ++ B)))) = (H ++ (O ++ (page_Seal.two (12 + 2 * (i + 1) + m) ++ List.replicate m (0 : Int)))) ++ (List.replicate 2 0 ++ (List.replicate c.size 0 ++ B)) by simp only [List.append_assoc]]
    rw [spl_mid (off := 12 + 2 * (i + 1) + m) (by simp only [List.length_append, List.length_replicate, seal_two, two_length]; omega) (by rw [List.length_replicate]; rfl)]
    rw [show (H ++ (O ++ (page_Seal.two (12 + 2 * (i + 1) + m) ++ List.replicate m (0 : Int)))) ++ (page_Seal.two c.size ++ (List.replicate c.size (0 : Int) ++ B)) = (H ++ (O ++ (page_Seal.two (12 + 2 * (i + 1) + m) ++ (List.replicate m (0 : Int) ++ page_Seal.two c.size)))) ++ (List.replicate c.size (0 : Int) ++ B) by simp only [List.append_assoc]]
    rw [spl_mid (off := 12 + 2 * (i + 1) + m + 2) (by simp only [List.length_append, List.length_replicate, seal_two, two_length]; omega) (by rw [List.length_replicate, bytesOf_length])]
    have ih := cells_is r (i + 1) m H (O ++ two (12 + 2 * (i + 1) + m)) (two c.size ++ (bytesOf c ++ B)) hH (by simp only [List.length_append, two_length]; omega) (by omega) (by simp only [List.length_append, two_length, bytesOf_length]; omega)
    rw [show (H ++ (O ++ (page_Seal.two (12 + 2 * (i + 1) + m) ++ (List.replicate m (0 : Int) ++ page_Seal.two c.size)))) ++ (bytesOf c ++ B) = H ++ ((O ++ two (12 + 2 * (i + 1) + m)) ++ (List.replicate m 0 ++ (two c.size ++ (bytesOf c ++ B)))) by simp only [List.append_assoc, seal_two]]
    rw [ih]
    simp only [offs, bodyL, tot, he, List.append_assoc]
    rw [show z - (4 + c.size + tot r) = m - tot r by omega]
def restL (kd lk : Int) (l : List ByteArray) : List Int := [kd % 256, 0] ++ (two l.length ++ (four lk.toNat ++ (offs l 1024 ++ (List.replicate (1012 - tot l) 0 ++ bodyL l []))))
def sumL (xs : List Int) : Nat := sumOf (xs.map b8)
def sealed (kd lk : Int) (l : List ByteArray) : ByteArray × Int :=
  if kd < 1 ∨ kd > 5 ∨ lk < 0 ∨ lk > 2147483647 then ((⟨#[]⟩ : ByteArray), 1) else if tot l > 1012 then ((⟨#[]⟩ : ByteArray), 5) else (strOfNums (four (sumL (restL kd lk l)) ++ restL kd lk l), 0)
theorem restL_length {kd lk : Int} {l : List ByteArray} (h : tot l ≤ 1012) : (restL kd lk l).length = 1020 := by
  have := bodyL_length l []
  have h2 := len_tot l
  simp only [restL, List.length_append, List.length_cons, List.length_nil, two_length, four_length, offs_length, List.length_replicate] at this ⊢
  omega
theorem seal_start (kd : Int) (t0 t1 : List Int) (h0 : t0.length = 2) (h1 : t1.length = 4) :
    page_Seal.spl (page_Seal.spl ((List.replicate 1024 (0 : Int)).set 4 (kd % 256)) 6 t0) 8 t1 = ([0, 0, 0, 0] ++ ([kd % 256, 0] ++ (t0 ++ t1))) ++ ([] ++ (List.replicate 1012 0 ++ [])) := by
  have e : (List.replicate 1024 (0 : Int)).set 4 (kd % 256) = ([0, 0, 0, 0, kd % 256, 0] : List Int) ++ (List.replicate 2 0 ++ (List.replicate 4 0 ++ List.replicate 1012 0)) := by
    rw [List.replicate_append_replicate, List.replicate_append_replicate]
    rfl
  rw [e, spl_mid (off := 6) rfl (by rw [List.length_replicate, h0])]
  rw [show ([0, 0, 0, 0, kd % 256, 0] : List Int) ++ (t0 ++ (List.replicate 4 0 ++ List.replicate 1012 0)) = (([0, 0, 0, 0, kd % 256, 0] : List Int) ++ t0) ++ (List.replicate 4 0 ++ List.replicate 1012 0) by simp only [List.append_assoc]]
  rw [spl_mid (off := 8) (by rw [List.length_append, h0]; rfl) (by rw [List.length_replicate, h1])]
  simp only [List.append_assoc, List.nil_append, List.append_nil, List.cons_append]
theorem sealed_drop (kd lk : Int) (l : List ByteArray) (t0 t1 : List Int) (h0 : t0 = two l.length) (h1 : t1 = four lk.toNat) (h : tot l ≤ 1012) :
    page_Seal.cells l 0 1024 (page_Seal.spl (page_Seal.spl ((List.replicate 1024 (0 : Int)).set 4 (kd % 256)) 6 t0) 8 t1) = some ([0, 0, 0, 0] ++ restL kd lk l) := by
  subst h0; subst h1
  rw [seal_start kd _ _ rfl rfl]
  have := cells_is l 0 1012 ([0, 0, 0, 0] ++ ([kd % 256, 0] ++ (two l.length ++ four lk.toNat))) [] [] rfl rfl h rfl
  rw [show (12 + 2 * 0 + 1012 : Nat) = 1024 from rfl] at this
  rw [this]
  simp only [restL, List.append_assoc, List.nil_append, List.append_nil]
theorem p_seal (kd lk : Int) (l : List ByteArray) (hb : tot l ≤ 4611686018427387904) : ∃ n, ∀ k, n ≤ k → page_Seal.f k kd lk l = some (sealed kd lk l) := by
  by_cases h1 : kd < 1 ∨ kd > 5 ∨ lk < 0 ∨ lk > 2147483647
  · refine ⟨0, fun k hk => ?_⟩
    unfold page_Seal.f sealed
    rw [if_pos h1, if_pos h1]
  by_cases h2 : tot l > 1012
  · refine ⟨l.length + 1, fun k hk => ?_⟩
    unfold page_Seal.f sealed
    rw [if_neg h1, if_neg h1, used_is l hb k (by omega)]
    simp only [Option.bind_some]
    rw [if_pos (by omega), if_pos h2]
  obtain ⟨n, hs⟩ := p_sum (strOfNums (restL kd lk l)) (by rw [nums_size, restL_length (by omega)]; decide)
  refine ⟨n + l.length + 1, fun k hk => ?_⟩
  unfold page_Seal.f sealed
  rw [if_neg h1, if_neg h1, used_is l hb k (by omega)]
  simp only [Option.bind_some]
  rw [if_neg (by omega), if_neg h2, p_two]
  simp only [Option.bind_some]
  obtain ⟨m, rfl⟩ := Int.eq_ofNat_of_zero_le (show 0 ≤ lk by omega)
  rw [p_four]
  simp only [Option.bind_some]
  rw [sealed_drop kd (m : Int) l _ _ rfl (by rw [Int.toNat_natCast]) (by omega)]
  simp only [Option.bind_some]
  rw [show (([0, 0, 0, 0] : List Int) ++ restL kd (m : Int) l).drop 4 = restL kd (m : Int) l from rfl, hs k (by omega)]
  simp only [Option.bind_some]
  rw [p_four]
  simp only [Option.bind_some]
  have := spl_mid (P := []) (X := [0, 0, 0, 0]) (S := restL kd (m : Int) l) (Y := four (sumOf (strOfNums (restL kd (m : Int) l)).data.toList)) (off := 0) rfl rfl
  simp only [List.nil_append] at this
  rw [this]
  rfl
theorem w_nat (n : Nat) (h : n ≤ 4611686018427387904) : wrap64 (n : Int) = (n : Int) := by unfold wrap64; omega
theorem w_add2 (i m : Nat) (h : i + 2 = m) (hm : m ≤ 4611686018427387904) : wrap64 ((i : Int) + 2) = (m : Int) := by unfold wrap64; omega
theorem w_add (a b m : Nat) (h : a + b = m) (hm : m ≤ 4611686018427387904) : wrap64 ((a : Int) + (b : Int)) = (m : Int) := by unfold wrap64; omega
theorem w_12 (i m : Nat) (h : 12 + 2 * i = m) (hm : m ≤ 1000000) : wrap64 (12 + wrap64 (2 * (i : Int))) = (m : Int) := by unfold wrap64; omega
theorem w_256 (a : Nat) (h : a < 65536) : wrap64 (wrap64 (a : Int) * 256) = ((a * 256 : Nat) : Int) := by unfold wrap64; omega
theorem w_65536 (a : Nat) (h : a < 65536) : wrap64 ((a : Int) * 65536) = ((a * 65536 : Nat) : Int) := by unfold wrap64; omega
def u8 (L : List UInt8) (i : Nat) : Nat := (L.getD i 0).toNat
def u16 (L : List UInt8) (i : Nat) : Nat := u8 L i * 256 + u8 L (i + 1)
def u32 (L : List UInt8) (i : Nat) : Nat := u16 L i * 65536 + u16 L (i + 2)
theorem u8_lt (L : List UInt8) (i : Nat) : u8 L i < 256 := by unfold u8; exact UInt8.toNat_lt _
theorem u16_lt (L : List UInt8) (i : Nat) : u16 L i < 65536 := by have := u8_lt L i; have := u8_lt L (i + 1); unfold u16; omega
theorem u32_lt (L : List UInt8) (i : Nat) : u32 L i < 4294967296 := by have := u16_lt L i; have := u16_lt L (i + 2); unfold u32; omega
theorem bt_u8 (s : ByteArray) (i : Nat) (h : i < s.size) : bt s (i : Int) = (u8 s.data.toList i : Nat) := by
  have hl : i < s.data.toList.length := by rw [data_length]; exact h
  have e := bt_in (s := s) (X := s.data.toList.take i) (x := s.data.toList[i]) (Y := s.data.toList.drop (i + 1)) (by rw [← List.drop_eq_getElem_cons hl, List.take_append_drop])
  rw [List.length_take, Nat.min_eq_left (by omega)] at e
  rw [e]
  simp [u8, List.getD_eq_getElem?_getD, List.getElem?_eq_getElem hl]
theorem or16 (a b : Nat) (ha : a < 65536 * 256) (hb : b < 256) : Go.bits .or .i64 (((a * 256 : Nat)) : Int) (b : Int) = ((a * 256 + b : Nat) : Int) := by
  have := bits_join .i64 63 (by decide) (fun n h0 h1 => IntWalk.i64_in _ (by omega)) 8 ((a * 256 : Nat) : Int) (b : Int) (by omega) (by omega) (by omega) (by omega) (by omega) (by omega)
  rw [this]
  omega
theorem or32 (a b : Nat) (ha : a < 65536) (hb : b < 65536) : Go.bits .or .i64 (((a * 65536 : Nat)) : Int) (b : Int) = ((a * 65536 + b : Nat) : Int) := by
  have := bits_join .i64 63 (by decide) (fun n h0 h1 => IntWalk.i64_in _ (by omega)) 16 ((a * 65536 : Nat) : Int) (b : Int) (by omega) (by omega) (by omega) (by omega) (by omega) (by omega)
  rw [this]
  omega
theorem or_bytes (a b : Nat) (h1 : a < 256) (h2 : b < 256) : some (Go.bits .or .i64 (wrap64 ((wrap64 (a : Int)) * 256)) (wrap64 (b : Int))) = some ((a * 256 + b : Nat) : Int) := by
  rw [w_256 _ (by omega), w_nat _ (by omega), or16 _ _ (by omega) h2]
theorem or_words (a b : Nat) (h1 : a < 65536) (h2 : b < 65536) : some (Go.bits .or .i64 (wrap64 ((a : Int) * 65536)) (b : Int)) = some ((a * 65536 + b : Nat) : Int) := by
  rw [w_65536 _ h1, or32 _ _ h1 h2]
theorem p_at16 (s : ByteArray) (i : Nat) (h : i + 1 < s.size) (hi : i ≤ 100000) : page_at16.f s (i : Int) = some ((u16 s.data.toList i : Nat) : Int) := by
  unfold u16 page_at16.f
  rw [wsucc i (i + 1) rfl (by omega), if_pos (by omega), if_pos (by omega), if_pos (by omega), if_pos (by omega), bt_u8 s i (by omega), bt_u8 s (i + 1) h]
  exact or_bytes _ _ (u8_lt _ _) (u8_lt _ _)
theorem at32_bind (s : ByteArray) (a b : Nat) (h1 : a < 65536) (h2 : b < 65536) (x y : Int) (hx : page_at16.f s x = some (a : Int)) (hy : page_at16.f s y = some (b : Int)) (he : wrap64 (x + 2) = y) : page_at32.f s x = some ((a * 65536 + b : Nat) : Int) := by
  unfold page_at32.f
  rw [hx]
  simp only [Option.bind_some]
  rw [he, hy]
  simp only [Option.bind_some]
  exact or_words a b h1 h2
theorem p_at32 (s : ByteArray) (i : Nat) (h : i + 3 < s.size) (hi : i ≤ 10000) : page_at32.f s (i : Int) = some ((u32 s.data.toList i : Nat) : Int) := by
  unfold u32
  exact at32_bind s _ _ (u16_lt _ _) (u16_lt _ _) _ ((i + 2 : Nat) : Int) (p_at16 s i (by omega) (by omega)) (p_at16 s (i + 2) (by omega) (by omega)) (w_add2 i (i + 2) rfl (by omega))
theorem extract_list (s : ByteArray) (a b : Nat) : (s.extract a b).data.toList = (s.data.toList.drop a).take (b - a) := by
  rw [ByteArray.data_extract, Array.toList_extract, List.extract_eq_take_drop]
def parse (s : ByteArray) : Nat → Nat → List ByteArray → Option (List ByteArray)
  | 0, _, acc => some acc
  | m + 1, i, acc => if u16 s.data.toList (12 + 2 * i) + 2 > 1024 then none else
      if u16 s.data.toList (12 + 2 * i) + 2 + u16 s.data.toList (u16 s.data.toList (12 + 2 * i)) > 1024 then none else
        parse s m (i + 1) (acc ++ [s.extract (u16 s.data.toList (12 + 2 * i) + 2) (u16 s.data.toList (12 + 2 * i) + 2 + u16 s.data.toList (u16 s.data.toList (12 + 2 * i)))])
theorem extract_size_le (s : ByteArray) (a b : Nat) : (s.extract a b).size ≤ b - a := by
  have : (s.extract a b).size = (s.extract a b).data.toList.length := (data_length _).symm
  rw [this, extract_list, List.length_take]
  omega
theorem parse_tot (s : ByteArray) : ∀ (m i : Nat) (acc l : List ByteArray), parse s m i acc = some l → tot l ≤ tot acc + m * 1028 ∧ l.length = acc.length + m
  | 0, i, acc, l, h => by
    obtain rfl := Option.some.inj h
    exact ⟨by omega, by omega⟩
  | m + 1, i, acc, l, h => by
    unfold parse at h
    split at h
    · cases h
    split at h
    · cases h
    have ih := parse_tot s m (i + 1) _ l h
    rw [tot_append, List.length_append] at ih
    have := extract_size_le s (u16 s.data.toList (12 + 2 * i) + 2) (u16 s.data.toList (12 + 2 * i) + 2 + u16 s.data.toList (u16 s.data.toList (12 + 2 * i)))
    simp only [tot, List.length_cons, List.length_nil] at ih
    have e : (m + 1) * 1028 = m * 1028 + 1028 := by omega
    omega
theorem parse_no1 {s : ByteArray} {m i A : Nat} {acc : List ByteArray} (hA : u16 s.data.toList (12 + 2 * i) = A) (h : A + 2 > 1024) : parse s (m + 1) i acc = none := by
  unfold parse
  rw [hA, if_pos h]
theorem parse_no2 {s : ByteArray} {m i A B : Nat} {acc : List ByteArray} (hA : u16 s.data.toList (12 + 2 * i) = A) (hB : u16 s.data.toList A = B) (h : ¬ A + 2 > 1024) (h2 : A + 2 + B > 1024) : parse s (m + 1) i acc = none := by
  unfold parse
  rw [hA, if_neg h, hB, if_pos h2]
theorem parse_go {s : ByteArray} {m i A B : Nat} {acc : List ByteArray} (hA : u16 s.data.toList (12 + 2 * i) = A) (hB : u16 s.data.toList A = B) (h : ¬ A + 2 > 1024) (h2 : ¬ A + 2 + B > 1024) : parse s (m + 1) i acc = parse s m (i + 1) (acc ++ [s.extract (A + 2) (A + 2 + B)]) := by
  conv => lhs; unfold parse
  rw [hA, if_neg h, hB, if_neg h2]
theorem snoc_tot {s : ByteArray} {A B i : Nat} {acc : List ByteArray} (h2 : ¬ A + 2 + B > 1024) (ht : tot acc ≤ i * 1028) : tot (acc ++ [s.extract (A + 2) (A + 2 + B)]) ≤ (i + 1) * 1028 := by
  rw [tot_append]
  have := extract_size_le s (A + 2) (A + 2 + B)
  simp only [tot]
  omega
abbrev Res := Int × Int × List ByteArray × Int
def dmg : Res := (0, 0, [], 4)
def opened (s : ByteArray) (kd lk : Int) : Option (List ByteArray) → Res
  | none => dmg
  | some l => if (sealed kd lk l).2 = 0 then (if (sealed kd lk l).1.toList = s.toList then (kd, lk, l, 0) else dmg) else dmg
theorem p_loop (s : ByteArray) (hs : s.size = 1024) (kd lk : Int) (n : Nat) (hn : n ≤ 506) : ∀ (m i : Nat) (acc : List ByteArray), i + m = n → acc.length ≤ i → tot acc ≤ i * 1028 → ∃ N, ∀ k, N ≤ k → page_Open.l0 k s (n : Int) (i : Int) kd lk acc = some (opened s kd lk (parse s m i acc))
  | 0, i, acc, hi, ha, ht => by
    obtain ⟨N, h⟩ := p_seal kd lk acc (by omega)
    refine ⟨N + 1, fun k hk => ?_⟩
    obtain ⟨k, rfl⟩ : ∃ m, k = m + 1 := ⟨k - 1, by omega⟩
    simp only [page_Open.l0]
    rw [if_neg (by omega), h k (by omega)]
    simp only [Option.bind_some, parse, opened]
    by_cases h1 : (sealed kd lk acc).2 = 0
    · rw [if_pos h1, if_pos h1]
      by_cases h2 : (sealed kd lk acc).1.toList = s.toList
      · rw [if_pos h2, if_pos h2]
      · rw [if_neg h2, if_neg h2]
        rfl
    · rw [if_neg h1, if_neg h1]
      rfl
  | m + 1, i, acc, hi, ha, ht => by
    obtain ⟨A, hA⟩ : ∃ A, u16 s.data.toList (12 + 2 * i) = A := ⟨_, rfl⟩
    obtain ⟨B, hB⟩ : ∃ B, u16 s.data.toList A = B := ⟨_, rfl⟩
    have b1 : A < 65536 := by rw [← hA]; exact u16_lt _ _
    have b2 : B < 65536 := by rw [← hB]; exact u16_lt _ _
    have r1 : Aside0 (page_at16.f s ((12 + 2 * i : Nat) : Int) = some (A : Int)) := ⟨by rw [← hA]; exact p_at16 s _ (by omega) (by omega)⟩
    have e1 : Aside0 (wrap64 (12 + wrap64 (2 * (i : Int))) = ((12 + 2 * i : Nat) : Int)) := ⟨w_12 _ _ rfl (by omega)⟩
    have e2 : Aside0 (wrap64 ((A : Int) + 2) = ((A + 2 : Nat) : Int)) := ⟨w_add2 _ _ rfl (by omega)⟩
    have e3 : Aside0 (wrap64 (((A + 2 : Nat) : Int) + (B : Int)) = ((A + 2 + B : Nat) : Int)) := ⟨w_add _ _ _ rfl (by omega)⟩
    by_cases h1 : A + 2 > 1024
    · refine ⟨1, fun k hk => ?_⟩
      obtain ⟨k, rfl⟩ : ∃ m, k = m + 1 := ⟨k - 1, by omega⟩
      simp only [page_Open.l0]
      rw [if_pos (by omega), e1.out, r1.out]
      rw [Option.bind_some]
      rw [e2.out, if_pos (by omega), parse_no1 hA h1]
      rfl
    have r2 : Aside0 (page_at16.f s (A : Int) = some (B : Int)) := ⟨by rw [← hB]; exact p_at16 s _ (by omega) (by omega)⟩
    by_cases h2 : A + 2 + B > 1024
    · refine ⟨1, fun k hk => ?_⟩
      obtain ⟨k, rfl⟩ : ∃ m, k = m + 1 := ⟨k - 1, by omega⟩
      simp only [page_Open.l0]
      rw [if_pos (by omega), e1.out, r1.out]
      rw [Option.bind_some]
      rw [e2.out, if_neg (by omega), r2.out]
      rw [Option.bind_some]
      rw [e3.out, if_pos (by omega), parse_no2 hA hB h1 h2]
      rfl
    obtain ⟨N, ih⟩ := p_loop s hs kd lk n hn m (i + 1) (acc ++ [s.extract (A + 2) (A + 2 + B)]) (by omega) (by simp; omega) (snoc_tot h2 ht)
    refine ⟨N + 1, fun k hk => ?_⟩
    obtain ⟨k, rfl⟩ : ∃ m, k = m + 1 := ⟨k - 1, by omega⟩
    simp only [page_Open.l0]
    rw [if_pos (by omega), e1.out, r1.out]
    rw [Option.bind_some]
    rw [e2.out, if_neg (by omega), r2.out]
    rw [Option.bind_some]
    rw [e3.out, if_neg (by omega), Option.bind_some, e3.out, if_pos (by omega), if_pos (by omega), if_pos (by omega), if_pos (by omega), wsucc i (i + 1) rfl (by omega), Int.toNat_natCast, Int.toNat_natCast, ih k (by omega), parse_go hA hB h1 h2]
theorem b8_nat (n : Nat) (h : n < 256) : (b8 (n : Int)).toNat = n := by
  unfold b8
  rw [Int.toNat_natCast]
  simp
  omega
theorem two_u16 (n : Nat) (h : n < 65536) (Y : List UInt8) : u16 ((two n).map b8 ++ Y) 0 = n := by
  have e : (two n).map b8 = [b8 ((n / 256 : Nat) : Int), b8 ((n % 256 : Nat) : Int)] := by
    simp only [two, List.map_cons, List.map_nil]
    rw [show ((n : Int) / 256) % 256 = ((n / 256 : Nat) : Int) by omega, show (n : Int) % 256 = ((n % 256 : Nat) : Int) by omega]
  rw [e]
  simp only [u16, u8, List.cons_append, List.nil_append, List.getD_cons_zero, List.getD_cons_succ]
  rw [b8_nat _ (by omega), b8_nat _ (by omega)]
  omega
theorem u8_append (X Y : List UInt8) (i : Nat) : u8 (X ++ Y) (X.length + i) = u8 Y i := by
  unfold u8
  rw [List.getD_eq_getElem?_getD, List.getD_eq_getElem?_getD, List.getElem?_append_right (by omega), show X.length + i - X.length = i by omega]
theorem u16_append (X Y : List UInt8) (i : Nat) : u16 (X ++ Y) (X.length + i) = u16 Y i := by
  unfold u16
  rw [u8_append, show X.length + i + 1 = X.length + (i + 1) by omega, u8_append]
theorem two_b8_length (n : Nat) : ((two n).map b8).length = 2 := rfl
theorem four_u32 (n : Nat) (h : n < 4294967296) (Y : List UInt8) : u32 ((four n).map b8 ++ Y) 0 = n := by
  have e : (four n).map b8 ++ Y = (two (n / 65536)).map b8 ++ ((two (n % 65536)).map b8 ++ Y) := by
    rw [four, List.map_append, List.append_assoc]
    congr 2
    simp only [two, List.map_cons, List.map_nil]
    rw [show ((n : Int) / 256) % 256 = (((n % 65536 : Nat) : Int) / 256) % 256 by omega, show (n : Int) % 256 = ((n % 65536 : Nat) : Int) % 256 by omega]
  rw [e]
  unfold u32
  have h2 := u16_append ((two (n / 65536)).map b8) ((two (n % 65536)).map b8 ++ Y) 0
  rw [two_b8_length] at h2
  rw [two_u16 _ (by omega), show (0 + 2 : Nat) = 2 + 0 from rfl, h2, two_u16 _ (by omega)]
  omega
theorem sealed_sum {kd lk : Int} {l : List ByteArray} {s : ByteArray} (h : (sealed kd lk l).2 = 0) (h2 : (sealed kd lk l).1.toList = s.toList) : u32 s.data.toList 0 = sumOf (s.data.toList.drop 4) := by
  unfold sealed at h h2
  split at h
  · cases h
  split at h
  · cases h
  rename_i g1 g2
  rw [if_neg g1, if_neg g2, Lib.toList_data, Lib.toList_data, nums_data, List.map_append] at h2
  rw [← h2, four_u32 (sumL (restL kd lk l)) (sumOf_lt _) ((restL kd lk l).map b8)]
  rfl
theorem sealed_short {kd lk : Int} {l : List ByteArray} (h : (sealed kd lk l).2 = 0) : tot l ≤ 1012 := by
  unfold sealed at h
  split at h
  · cases h
  split at h
  · cases h
  omega
def readOf (s : ByteArray) : Res := if s.size = 1024 then opened s ((u8 s.data.toList 4 : Nat) : Int) ((u32 s.data.toList 8 : Nat) : Int) (parse s (min (u16 s.data.toList 6) 506) 0 []) else dmg
theorem opened_some (s : ByteArray) (kd lk : Int) (l : List ByteArray) : opened s kd lk (some l) = if (sealed kd lk l).2 = 0 then (if (sealed kd lk l).1.toList = s.toList then (kd, lk, l, 0) else dmg) else dmg := rfl
theorem opened_sum {s : ByteArray} (h : u32 s.data.toList 0 ≠ sumOf (s.data.toList.drop 4)) (kd lk : Int) : ∀ x, opened s kd lk x = dmg
  | none => rfl
  | some l => by
    rw [opened_some]
    by_cases h1 : (sealed kd lk l).2 = 0
    · rw [if_pos h1, if_neg (fun h2 => h (sealed_sum h1 h2))]
    · rw [if_neg h1]
theorem opened_many {s : ByteArray} (kd lk : Int) (i : Nat) : opened s kd lk (parse s 506 i []) = dmg := by
  cases hp : parse s 506 i [] with
  | none => rfl
  | some l =>
    rw [opened_some]
    by_cases h1 : (sealed kd lk l).2 = 0
    · have h2 := (parse_tot s 506 i [] l hp).2
      have h3 := sealed_short h1
      have h4 := len_tot l
      rw [List.length_nil] at h2
      omega
    · rw [if_neg h1]
theorem p_open (s : ByteArray) : ∃ N, ∀ k, N ≤ k → page_Open.f k s = some (readOf s) := by
  by_cases hs : s.size = 1024
  · have hT := u16_lt s.data.toList 6
    have hx : (s.extract 4 s.size).data.toList = s.data.toList.drop 4 := by
      rw [extract_list, List.take_of_length_le (by rw [List.length_drop, data_length]; omega)]
    obtain ⟨M, hsum⟩ := p_sum (s.extract 4 s.size) (by have := extract_size_le s 4 s.size; omega)
    rw [hx] at hsum
    have start : ∀ k, M ≤ k → page_Open.f k s = page_Open.j0 k s (((u32 s.data.toList 0 : Nat) : Int) != ((sumOf (s.data.toList.drop 4) : Nat) : Int)) := by
      intro k hk
      unfold page_Open.f
      have h32 := p_at32 s 0 (by omega) (by omega)
      rw [show ((0 : Nat) : Int) = 0 from rfl] at h32
      rw [if_pos (by omega), h32, Option.bind_some, if_pos (by omega), hsum k hk, Option.bind_some]
      have := u32_lt s.data.toList 0
      rw [show ((u32 s.data.toList 0 : Nat) : Int) % 4294967296 = ((u32 s.data.toList 0 : Nat) : Int) by omega]
    by_cases he : u32 s.data.toList 0 = sumOf (s.data.toList.drop 4)
    · have hb : wrap64 (bt s 4) = ((u8 s.data.toList 4 : Nat) : Int) := by
        have := bt_u8 s 4 (by omega)
        rw [show ((4 : Nat) : Int) = 4 from rfl] at this
        rw [this]
        exact w_nat _ (by have := u8_lt s.data.toList 4; omega)
      have h8 := p_at32 s 8 (by omega) (by omega)
      have h6 := p_at16 s 6 (by omega) (by omega)
      rw [show ((8 : Nat) : Int) = 8 from rfl] at h8
      rw [show ((6 : Nat) : Int) = 6 from rfl] at h6
      have into : ∀ k, page_Open.j0 (k + 1) s false = if wrap64 (12 + wrap64 (2 * ((u16 s.data.toList 6 : Nat) : Int))) > 1024 then some (0, 0, [], 4) else page_Open.l0 k s ((u16 s.data.toList 6 : Nat) : Int) 0 ((u8 s.data.toList 4 : Nat) : Int) ((u32 s.data.toList 8 : Nat) : Int) [] := by
        intro k
        simp only [page_Open.j0]
        rw [if_neg (by decide), if_pos (by omega), h8, Option.bind_some, h6, Option.bind_some, hb]
      rw [he] at start
      simp only [bne_self_eq_false] at start
      by_cases h1 : 12 + 2 * u16 s.data.toList 6 > 1024
      · refine ⟨M + 1, fun k hk => ?_⟩
        obtain ⟨k, rfl⟩ : ∃ m, k = m + 1 := ⟨k - 1, by omega⟩
        rw [start _ (by omega), into, w_12 _ _ rfl (by omega), if_pos (by omega)]
        unfold readOf
        rw [if_pos hs, Nat.min_eq_right (by omega), opened_many]
        rfl
      · obtain ⟨N, h⟩ := p_loop s hs ((u8 s.data.toList 4 : Nat) : Int) ((u32 s.data.toList 8 : Nat) : Int) (u16 s.data.toList 6) (by omega) (u16 s.data.toList 6) 0 [] (by omega) (by simp) (by simp [tot])
        refine ⟨M + N + 1, fun k hk => ?_⟩
        obtain ⟨k, rfl⟩ : ∃ m, k = m + 1 := ⟨k - 1, by omega⟩
        rw [start _ (by omega), into, w_12 _ _ rfl (by omega), if_neg (by omega)]
        refine (h k (by omega)).trans ?_
        unfold readOf
        rw [if_pos hs, Nat.min_eq_left (by omega)]
    · refine ⟨M + 1, fun k hk => ?_⟩
      obtain ⟨k, rfl⟩ : ∃ m, k = m + 1 := ⟨k - 1, by omega⟩
      rw [start _ (by omega)]
      have hne : (((u32 s.data.toList 0 : Nat) : Int) != ((sumOf (s.data.toList.drop 4) : Nat) : Int)) = true := by
        rw [bne_iff_ne]
        omega
      rw [hne]
      simp only [page_Open.j0]
      unfold readOf
      rw [if_pos hs, opened_sum he]
      rfl
  · refine ⟨1, fun k hk => ?_⟩
    obtain ⟨k, rfl⟩ : ∃ m, k = m + 1 := ⟨k - 1, by omega⟩
    unfold page_Open.f readOf
    rw [if_neg (by omega), if_neg hs]
    rfl
def used2 : List ByteArray → Nat
  | [] => 0
  | c :: r => 2 + c.size + used2 r
theorem bodyL_pre : ∀ (R : List ByteArray) (acc : List Int), ∃ pre, bodyL R acc = pre ++ acc
  | [], acc => ⟨[], rfl⟩
  | c :: r, acc => by
    obtain ⟨pre, h⟩ := bodyL_pre r (two c.size ++ (bytesOf c ++ acc))
    exact ⟨pre ++ (two c.size ++ bytesOf c), by simp only [bodyL, h, List.append_assoc]⟩
theorem bodyL_append : ∀ (Q R : List ByteArray) (acc : List Int), bodyL (Q ++ R) acc = bodyL R (bodyL Q acc)
  | [], R, acc => rfl
  | c :: r, R, acc => bodyL_append r R _
theorem bodyL_used : ∀ (Q : List ByteArray) (acc : List Int), (bodyL Q acc).length = used2 Q + acc.length
  | [], acc => by simp [bodyL, used2]
  | c :: r, acc => by
    simp only [bodyL, used2, bodyL_used r, List.length_append, two_length, bytesOf_length]
    omega
theorem offs_append : ∀ (Q R : List ByteArray) (e : Nat), offs (Q ++ R) e = offs Q e ++ offs R (e - used2 Q)
  | [], R, e => by simp [offs, used2]
  | c :: r, R, e => by
    simp only [List.cons_append, offs, offs_append r R, used2, List.append_assoc]
    rw [Nat.sub_sub]
theorem used2_tot : ∀ l : List ByteArray, used2 l + 2 * l.length = tot l
  | [] => rfl
  | c :: r => by have := used2_tot r; simp only [used2, tot, List.length_cons]; omega
theorem bytesOf_b8 (c : ByteArray) : (bytesOf c).map b8 = c.data.toList := by rw [← nums_data, nums_bytes]
theorem u32_append (X Y : List UInt8) (i : Nat) : u32 (X ++ Y) (X.length + i) = u32 Y i := by
  unfold u32
  rw [u16_append, show X.length + i + 2 = X.length + (i + 2) by omega, u16_append]
section
variable {kd lk : Int} {l : List ByteArray} {s : ByteArray} {F : List Int} {Q R : List ByteArray} {c : ByteArray}
theorem at_off (hF : F.length = 4) (hs : s.data.toList = (F ++ restL kd lk l).map b8) (h : l = Q ++ c :: R) (ht : tot l ≤ 1012) : u16 s.data.toList (12 + 2 * Q.length) = 1024 - (used2 Q + (2 + c.size)) := by
  have e : F ++ restL kd lk l = (F ++ ([kd % 256, 0] ++ (two l.length ++ (four lk.toNat ++ offs Q 1024)))) ++ (two (1024 - (used2 Q + (2 + c.size))) ++ (offs R (1024 - used2 Q - (2 + c.size)) ++ (List.replicate (1012 - tot l) 0 ++ bodyL l []))) := by
    conv => lhs; unfold restL
    rw [show offs l 1024 = offs Q 1024 ++ (two (1024 - (used2 Q + (2 + c.size))) ++ offs R (1024 - used2 Q - (2 + c.size))) by rw [h, offs_append]; simp only [offs]; rw [Nat.sub_sub]]
    simp only [List.append_assoc]
  have hl : ((F ++ ([kd % 256, 0] ++ (two l.length ++ (four lk.toNat ++ offs Q 1024)))).map b8).length = 12 + 2 * Q.length := by
    simp only [List.length_map, List.length_append, hF, two_length, four_length, offs_length, List.length_cons, List.length_nil]
    omega
  rw [hs, e, List.map_append, ← hl]
  have := u16_append ((F ++ ([kd % 256, 0] ++ (two l.length ++ (four lk.toNat ++ offs Q 1024)))).map b8) ((two (1024 - (used2 Q + (2 + c.size))) ++ (offs R (1024 - used2 Q - (2 + c.size)) ++ (List.replicate (1012 - tot l) 0 ++ bodyL l []))).map b8) 0
  rw [Nat.add_zero] at this
  rw [this, List.map_append]
  exact two_u16 _ (by omega) _
theorem at_cell (hF : F.length = 4) (hs : s.data.toList = (F ++ restL kd lk l).map b8) (h : l = Q ++ c :: R) (ht : tot l ≤ 1012) :
    ∃ P Y : List UInt8, s.data.toList = P ++ ((two c.size).map b8 ++ (c.data.toList ++ Y)) ∧ P.length = 1024 - (used2 Q + (2 + c.size)) ∧ used2 Q + (2 + c.size) ≤ 1012 := by
  obtain ⟨pre, hp⟩ := bodyL_pre R (two c.size ++ (bytesOf c ++ bodyL Q []))
  have hb : bodyL l [] = pre ++ (two c.size ++ (bytesOf c ++ bodyL Q [])) := by rw [h, bodyL_append]; exact hp
  have e : F ++ restL kd lk l = (F ++ ([kd % 256, 0] ++ (two l.length ++ (four lk.toNat ++ (offs l 1024 ++ (List.replicate (1012 - tot l) 0 ++ pre)))))) ++ (two c.size ++ (bytesOf c ++ bodyL Q [])) := by
    unfold restL
    rw [hb]
    simp only [List.append_assoc]
  have hlen : (F ++ restL kd lk l).length = 1024 := by rw [List.length_append, hF, restL_length ht]
  have hu := used2_tot Q
  have htq : tot Q + (4 + c.size + tot R) = tot l := by rw [h, tot_append]; rfl
  have h2 : (two c.size ++ (bytesOf c ++ bodyL Q [])).length = 2 + c.size + used2 Q := by
    simp only [List.length_append, two_length, bytesOf_length, bodyL_used, List.length_nil]
    omega
  rw [e, List.length_append, h2] at hlen
  have e2 : (two c.size ++ (bytesOf c ++ bodyL Q [])).map b8 = (two c.size).map b8 ++ (c.data.toList ++ (bodyL Q []).map b8) := by rw [List.map_append, List.map_append, bytesOf_b8]
  refine ⟨_, (bodyL Q []).map b8, by rw [hs, e, List.map_append, e2], ?_, by omega⟩
  rw [List.length_map]
  omega
theorem parse_sealed (hF : F.length = 4) (hs : s.data.toList = (F ++ restL kd lk l).map b8) (ht : tot l ≤ 1012) : ∀ (R Q : List ByteArray), l = Q ++ R → parse s R.length Q.length Q = some l
  | [], Q, h => by rw [List.append_nil] at h; subst h; rfl
  | c :: R, Q, h => by
    have ih := parse_sealed hF hs ht R (Q ++ [c]) (by simpa using h)
    obtain ⟨P, Y, h1, h2, h3⟩ := at_cell hF hs h ht
    have hA := at_off hF hs h ht
    have hB : u16 s.data.toList (1024 - (used2 Q + (2 + c.size))) = c.size := by
      rw [h1, ← h2]
      have := u16_append P ((two c.size).map b8 ++ (c.data.toList ++ Y)) 0
      rw [Nat.add_zero] at this
      rw [this]
      exact two_u16 _ (by omega) _
    have hx : s.extract (1024 - (used2 Q + (2 + c.size)) + 2) (1024 - (used2 Q + (2 + c.size)) + 2 + c.size) = c := by
      apply data_inj
      rw [extract_list, h1, ← h2, show P.length + 2 = (P ++ (two c.size).map b8).length by rw [List.length_append]; rfl, ← List.append_assoc P, List.drop_left, show (P ++ (two c.size).map b8).length + c.size - (P ++ (two c.size).map b8).length = c.data.toList.length by rw [data_length]; omega, List.take_left]
    show parse s (R.length + 1) Q.length Q = _
    rw [parse_go hA hB (by omega) (by omega), hx, show Q.length + 1 = (Q ++ [c]).length by simp]
    exact ih
end
theorem read_sealed (kd lk : Int) (l : List ByteArray) (h : (sealed kd lk l).2 = 0) : (sealed kd lk l).1.size = 1024 ∧ u32 (sealed kd lk l).1.data.toList 0 = sumOf ((sealed kd lk l).1.data.toList.drop 4) ∧ readOf (sealed kd lk l).1 = (kd, lk, l, 0) := by
  have hsum := sealed_sum h rfl
  have hopen : opened (sealed kd lk l).1 kd lk (some l) = (kd, lk, l, 0) := by rw [opened_some, if_pos h, if_pos rfl]
  have ht := sealed_short h
  have hk : ¬ (kd < 1 ∨ kd > 5 ∨ lk < 0 ∨ lk > 2147483647) := by
    intro hc
    unfold sealed at h
    rw [if_pos hc] at h
    cases h
  have hd : (sealed kd lk l).1.data.toList = (four (sumL (restL kd lk l)) ++ restL kd lk l).map b8 := by
    unfold sealed
    rw [if_neg hk, if_neg (by omega)]
    rfl
  have hz : (sealed kd lk l).1.size = 1024 := by rw [← data_length, hd, List.length_map, List.length_append, four_length, restL_length ht]
  refine ⟨hz, hsum, ?_⟩
  have hn := len_tot l
  obtain ⟨a, ha⟩ := Int.eq_ofNat_of_zero_le (show 0 ≤ kd by omega)
  obtain ⟨b, hb⟩ := Int.eq_ofNat_of_zero_le (show 0 ≤ lk by omega)
  have h4 : u8 (sealed kd lk l).1.data.toList 4 = a := by
    rw [hd]
    have := u8_append ((four (sumL (restL kd lk l))).map b8) ((restL kd lk l).map b8) 0
    rw [show ((four (sumL (restL kd lk l))).map b8).length + 0 = 4 from rfl] at this
    rw [List.map_append, this]
    show (b8 (kd % 256)).toNat = a
    rw [show kd % 256 = (a : Int) by omega]
    exact b8_nat a (by omega)
  have h6 : u16 (sealed kd lk l).1.data.toList 6 = l.length := by
    rw [hd, show four (sumL (restL kd lk l)) ++ restL kd lk l = (four (sumL (restL kd lk l)) ++ [kd % 256, 0]) ++ (two l.length ++ (four lk.toNat ++ (offs l 1024 ++ (List.replicate (1012 - tot l) 0 ++ bodyL l [])))) by simp only [restL, List.append_assoc]]
    have := u16_append ((four (sumL (restL kd lk l)) ++ [kd % 256, 0]).map b8) ((two l.length ++ (four lk.toNat ++ (offs l 1024 ++ (List.replicate (1012 - tot l) 0 ++ bodyL l [])))).map b8) 0
    rw [show ((four (sumL (restL kd lk l)) ++ [kd % 256, 0]).map b8).length + 0 = 6 from rfl] at this
    rw [List.map_append, this, List.map_append]
    exact two_u16 _ (by omega) _
  have h8 : u32 (sealed kd lk l).1.data.toList 8 = b := by
    rw [hd, show four (sumL (restL kd lk l)) ++ restL kd lk l = (four (sumL (restL kd lk l)) ++ ([kd % 256, 0] ++ two l.length)) ++ (four lk.toNat ++ (offs l 1024 ++ (List.replicate (1012 - tot l) 0 ++ bodyL l []))) by simp only [restL, List.append_assoc]]
    have := u32_append ((four (sumL (restL kd lk l)) ++ ([kd % 256, 0] ++ two l.length)).map b8) ((four lk.toNat ++ (offs l 1024 ++ (List.replicate (1012 - tot l) 0 ++ bodyL l []))).map b8) 0
    rw [show ((four (sumL (restL kd lk l)) ++ ([kd % 256, 0] ++ two l.length)).map b8).length + 0 = 8 from rfl] at this
    rw [List.map_append, this, List.map_append, four_u32 _ (by omega)]
    omega
  have hps : parse (sealed kd lk l).1 l.length 0 [] = some l := parse_sealed (four_length _) hd ht l [] rfl
  unfold readOf
  rw [if_pos hz, h4, h6, h8, Nat.min_eq_left (by omega), ← ha, ← hb, hps]
  exact hopen
end Go.Proofs.Ythaoaaboempajab.Pages
namespace Go.Proofs.Ythaoaaboempajab.Pool
open Go.RowKit Go.Proofs.Ythaoaaboempajab.Disk Go.Proofs.Ythaoaaboempajab.Log
set_option linter.unusedVariables false
set_option linter.unusedSimpArgs false
structure Fm where
  n : Int
  t : ByteArray
  p : Int
  d : Bool
def noFm : Fm := ⟨0, ByteArray.empty, 0, false⟩
def metaB (free : Int) (cells : List ByteArray) : ByteArray := (Pages.sealed 4 free cells).1
def freeB (link : Int) : ByteArray := (Pages.sealed 3 link []).1
structure Po where
  s : St
  g : Lg
  most : Int
  held : List Fm
  pages : Int
  free : Int
  turned : List Int
  hits : Int
  misses : Int
  spills : Int
def unpin : List Fm → Option (List Fm × Fm × List Fm)
  | [] => none
  | f :: l => if f.p > 0 then (unpin l).map (fun x => (f :: x.1, x.2.1, x.2.2)) else some ([], f, l)
def pickF (n : Int) : List Fm → Option (List Fm × Fm × List Fm)
  | [] => none
  | f :: l => if f.n = n then some ([], f, l) else (pickF n l).map (fun x => (f :: x.1, x.2.1, x.2.2))
theorem unpin_some : ∀ {l xs ys : List Fm} {f : Fm}, unpin l = some (xs, f, ys) → l = xs ++ f :: ys ∧ ¬ f.p > 0 ∧ ∀ x ∈ xs, x.p > 0
  | [], _, _, _, h => by cases h
  | a :: l, xs, ys, f, h => by
    unfold unpin at h
    by_cases e : a.p > 0
    · rw [if_pos e] at h
      obtain ⟨⟨x1, x2, x3⟩, h1, h2⟩ := Option.map_eq_some_iff.1 h
      simp only [Prod.mk.injEq] at h2
      obtain ⟨rfl, rfl, rfl⟩ := h2
      obtain ⟨i1, i2, i3⟩ := unpin_some h1
      refine ⟨by rw [i1]; rfl, i2, fun x hx => ?_⟩
      rcases List.mem_cons.1 hx with rfl | hx
      · exact e
      · exact i3 x hx
    · rw [if_neg e] at h
      simp only [Option.some.injEq, Prod.mk.injEq] at h
      obtain ⟨rfl, rfl, rfl⟩ := h
      exact ⟨rfl, e, fun x hx => by cases hx⟩
theorem pickF_some : ∀ {n : Int} {l xs ys : List Fm} {f : Fm}, pickF n l = some (xs, f, ys) → l = xs ++ f :: ys ∧ f.n = n ∧ ∀ x ∈ xs, x.n ≠ n
  | _, [], _, _, _, h => by cases h
  | n, a :: l, xs, ys, f, h => by
    unfold pickF at h
    by_cases e : a.n = n
    · rw [if_pos e] at h
      simp only [Option.some.injEq, Prod.mk.injEq] at h
      obtain ⟨rfl, rfl, rfl⟩ := h
      exact ⟨rfl, e, fun x hx => by cases hx⟩
    · rw [if_neg e] at h
      obtain ⟨⟨x1, x2, x3⟩, h1, h2⟩ := Option.map_eq_some_iff.1 h
      simp only [Prod.mk.injEq] at h2
      obtain ⟨rfl, rfl, rfl⟩ := h2
      obtain ⟨i1, i2, i3⟩ := pickF_some h1
      refine ⟨by rw [i1]; rfl, i2, fun x hx => ?_⟩
      rcases List.mem_cons.1 hx with rfl | hx
      · exact e
      · exact i3 x hx
theorem pickF_none : ∀ {n : Int} {l : List Fm}, pickF n l = none → ∀ x ∈ l, x.n ≠ n
  | _, [], _, _, hx => by cases hx
  | n, a :: l, h, x, hx => by
    unfold pickF at h
    by_cases e : a.n = n
    · rw [if_pos e] at h
      cases h
    · rw [if_neg e] at h
      rcases List.mem_cons.1 hx with rfl | hx
      · exact e
      · exact pickF_none (Option.map_eq_none_iff.1 h) x hx
def w64 (x : Int) : Int := wrap64 x
def Po.room (P : Po) : Int × Po :=
  if (P.held.length : Int) < P.most then (0, P) else
  match unpin P.held with
  | none => (6, P)
  | some (xs, f, ys) =>
    if f.d = true then
      if (Lg.append P.s P.g f.n f.t).1 ≠ 0 then ((Lg.append P.s P.g f.n f.t).1, { P with s := (Lg.append P.s P.g f.n f.t).2.1, g := (Lg.append P.s P.g f.n f.t).2.2 })
      else (0, { P with s := (Lg.append P.s P.g f.n f.t).2.1, g := (Lg.append P.s P.g f.n f.t).2.2, held := xs ++ ys, spills := w64 (P.spills + 1) })
    else (0, { P with held := xs ++ ys })
def Po.fetch (P : Po) (n : Int) : Int × Po :=
  if (Lg.read P.s P.g n).2 ≠ 0 then ((Lg.read P.s P.g n).2, P) else (0, { P with held := P.held ++ [⟨n, (Lg.read P.s P.g n).1, 0, false⟩], misses := w64 (P.misses + 1) })
def Po.get (P : Po) (n : Int) : Int × Po :=
  if n < 0 ∨ n ≥ P.pages then (7, P) else
  match pickF n P.held with
  | some (xs, f, ys) => (0, { P with held := xs ++ ys ++ [f], hits := w64 (P.hits + 1) })
  | none => if P.room.1 ≠ 0 then P.room else P.room.2.fetch n
def lastF (l : List Fm) : Fm := l.getLast?.getD noFm
def Po.read (P : Po) (n : Int) : ByteArray × Int × Po := if (P.get n).1 ≠ 0 then (ByteArray.empty, (P.get n).1, (P.get n).2) else ((lastF (P.get n).2.held).t, 0, (P.get n).2)
def addT (l : List Int) (n : Int) : List Int := if n ∈ l then l else l ++ [n]
def Po.dirt (P : Po) (n : Int) (t : ByteArray) : Po := { P with held := P.held.dropLast ++ [{ lastF P.held with t := t, d := true }], turned := addT P.turned n }
def Po.put (P : Po) (n : Int) (t : ByteArray) : Int × Po := if (P.get n).1 ≠ 0 then P.get n else (0, (P.get n).2.dirt n t)
def Po.write (P : Po) (n : Int) (t : ByteArray) : Int × Po := if n = 0 ∨ t.size ≠ 1024 then (1, P) else P.put n t
def Po.setFree (P : Po) (n : Int) : Int × Po :=
  if (P.read 0).2.1 ≠ 0 then ((P.read 0).2.1, (P.read 0).2.2) else
  if (Pages.readOf (P.read 0).1).2.2.2 ≠ 0 then ((Pages.readOf (P.read 0).1).2.2.2, (P.read 0).2.2) else
  if ((P.read 0).2.2.put 0 (metaB n (Pages.readOf (P.read 0).1).2.2.1)).1 = 0 then (0, { ((P.read 0).2.2.put 0 (metaB n (Pages.readOf (P.read 0).1).2.2.1)).2 with free := n })
  else (P.read 0).2.2.put 0 (metaB n (Pages.readOf (P.read 0).1).2.2.1)
def Po.grow (P : Po) : Po := { P with pages := P.pages + 1, held := P.held ++ [⟨P.pages, freeB 0, 0, true⟩], turned := addT P.turned P.pages }
def Po.alloc (P : Po) : Int × Int × Po :=
  if P.free = 0 then
    if (P.pages + 1) * 1024 > 67108864 then (0, 8, P) else
    if P.room.1 ≠ 0 then (0, P.room.1, P.room.2) else (P.room.2.pages, 0, P.room.2.grow)
  else
    let r := P.read P.free
    if r.2.1 ≠ 0 then (0, r.2.1, r.2.2) else
    if (Pages.readOf r.1).2.2.2 ≠ 0 then (0, (Pages.readOf r.1).2.2.2, r.2.2) else
    let q := r.2.2.setFree (Pages.readOf r.1).2.1
    if q.1 ≠ 0 then (0, q.1, q.2) else
    let u := q.2.put P.free (freeB 0)
    if u.1 ≠ 0 then (0, u.1, u.2) else (P.free, 0, u.2)
def Po.free_ (P : Po) (n : Int) : Int × Po :=
  if n = 0 then (1, P) else
  if (P.put n (freeB P.free)).1 ≠ 0 then P.put n (freeB P.free) else (P.put n (freeB P.free)).2.setFree n
def ins (n : Int) : List Int → List Int
  | [] => [n]
  | m :: l => if n ≤ m then n :: m :: l else m :: ins n l
def sortI : List Int → List Int
  | [] => []
  | n :: l => ins n (sortI l)
def dirtyN (l : List Fm) : List Int := sortI ((l.filter (·.d)).map (·.n))
def textN (l : List Fm) (n : Int) : ByteArray := match pickF n l with | some (_, f, _) => f.t | none => ByteArray.empty
def cleanN (l : List Fm) (n : Int) : List Fm := l.map (fun f => if f.n = n then { f with d := false } else f)
def Po.flush (P : Po) : List Int → Int × Po
  | [] => (0, P)
  | [n] =>
    let r := Lg.commit P.s P.g n (textN P.held n) P.pages
    if r.c ≠ 0 then (r.c, { P with s := r.s, g := r.g }) else (0, { P with s := r.s, g := r.g, held := cleanN P.held n })
  | n :: m :: l =>
    let r := Lg.append P.s P.g n (textN P.held n)
    if r.1 ≠ 0 then (r.1, { P with s := r.2.1, g := r.2.2 }) else Po.flush { P with s := r.2.1, g := r.2.2, held := cleanN P.held n } (m :: l)
def Po.check (P : Po) : Int × Po := let r := Lg.checkpoint P.s P.g; (r.c, { P with s := r.s, g := r.g })
def Po.flushed (P : Po) (l : List Int) : Int × Po :=
  if (P.flush l).1 ≠ 0 then P.flush l else
  if ((P.flush l).2.g.fr.length : Int) ≥ 1000 then Po.check { (P.flush l).2 with turned := [] } else (0, { (P.flush l).2 with turned := [] })
def Po.commit (P : Po) : Int × Po :=
  if P.turned = [] then (0, P) else
  if dirtyN P.held = [] then (if (P.get 0).1 ≠ 0 then P.get 0 else (P.get 0).2.flushed [0]) else P.flushed (dirtyN P.held)
def Po.rolled (P : Po) : Po := { P with g := P.g.back, held := P.held.filter (fun f => !P.turned.contains f.n), turned := [], pages := P.g.pages }
def Po.rollback (P : Po) : Int × Po :=
  if P.held.any (fun f => f.p > 0) then (6, P) else
  let r := P.rolled.read 0
  if r.2.1 ≠ 0 then (r.2.1, r.2.2) else ((Pages.readOf r.1).2.2.2, { r.2.2 with free := (Pages.readOf r.1).2.1 })
end Go.Proofs.Ythaoaaboempajab.Pool
