-- Lines written for this claim by a program of this session (wip/print). Lean checks them.
import Derived.Test.YthaoaaboempajaaQPageSealsx0
namespace Go.Proofs.Ythaoaaboempajaa.QPageSeals
open Go.RowKit Go.Proofs.YthaoaaboempajaaW.PrintWords Go.Proofs.YthaoaaboempajaaW.PrintLast Go.Proofs.YthaoaaboempajaaW.PrintMore Go.Proofs.YthaoaaboempajaaX
attribute [local go_sem] max2_int min2_int max_two min_two max_three min_three max_four min_four   -- for this text's walks alone
set_option linter.unusedVariables false
set_option linter.unusedSimpArgs false

/-! ### relstorelaw_num: function 15 -/
def relstorelaw_num.f (a0 : Int) : Option (Int) := some a0
set_option maxHeartbeats 8000000 in
set_option maxRecDepth 100000 in
theorem relstorelaw_num.calls (a0 : Int) (r : Int) (w : World) (h : relstorelaw_num.f a0 = some r) :
    Calls Try.prog 15 #[.int .i64 a0] w fun e w' => e = .returned (.int .i64 r) ∧ Drawn0 w w' := by
  have H : (some a0) = some r := h
  clear h
  obtain rfl := Option.some.inj H
  go_enter Try.func15, Try.ntmps15
  go_wp2
  go_ret
  exact ⟨by first | rfl | (simp; done) | (simp [*]; done) | exact bq1 _ _ | exact bq2 _ _ | exact congrArg Value.bool (bq2 _ _) | exact congrArg Value.bool (bq1 _ _) | exact congrArg Value.bool (bq1' _ _) | exact bq1' _ _ | exact congrArg Value.bool (bq2' _ _) | exact bq2' _ _, by repeat (first | exact Drawn0.refl _ | apply Drawn0.step)⟩

/-! ### relstorelaw_lentTexts: function 29 -/
def relstorelaw_lentTexts.f (l0 : List ByteArray) : Option (List ByteArray) := if ([] : List ByteArray).length + l0.length < 8796093022208 then ((some (([] : List ByteArray) ++ l0 : List ByteArray)).bind fun y101 => ((some (([(⟨#[109, 97, 114, 107, 32, 55]⟩ : ByteArray), (⟨#[109, 97, 114, 107, 32, 56]⟩ : ByteArray)] : List ByteArray) : List ByteArray)).bind fun y104 => (if y101.length + y104.length < 8796093022208 then (some (y101 ++ y104)) else (none)))) else (none)
set_option maxHeartbeats 8000000 in
set_option maxRecDepth 100000 in
theorem relstorelaw_lentTexts.calls (A0 : Option Addr) (c0 : Nat) (l0 : List ByteArray) (r : List ByteArray) (w : World) (hr0 : Kd.C Kd.string w A0 l0.length l0) (hc0 : l0.length ≤ c0) (h : relstorelaw_lentTexts.f l0 = some r) :
    Calls Try.prog 29 #[.slice A0 l0.length c0] w fun e w' => ∃ v0_ : Value, e = .returned (v0_) ∧ Kd.R Kd.string 9 w' w.heap.size (fun _ => True) v0_ r ∧ Below w.heap.size w w' := by
  have HR0 := Aside0.mk hr0
  have HC0 := Aside0.mk hc0
  clear hr0 hc0
  have HB := Aside0.mk (Below.refl w.heap.size w)
  have H : (if ([] : List ByteArray).length + l0.length < 8796093022208 then ((some (([] : List ByteArray) ++ l0 : List ByteArray)).bind fun y101 => ((some (([(⟨#[109, 97, 114, 107, 32, 55]⟩ : ByteArray), (⟨#[109, 97, 114, 107, 32, 56]⟩ : ByteArray)] : List ByteArray) : List ByteArray)).bind fun y104 => (if y101.length + y104.length < 8796093022208 then (some (y101 ++ y104)) else (none)))) else (none)) = some r := h
  clear h
  by_cases c2 : ([] : List ByteArray).length + l0.length < 8796093022208
  · rw [if_pos c2] at H
    have LMc2 := Aside0.mk c2
    clear c2
    obtain ⟨y101, hy101⟩ : ∃ y_ : List ByteArray, y_ = (([] : List ByteArray) ++ l0) := ⟨_, rfl⟩
    replace H : ((some (([(⟨#[109, 97, 114, 107, 32, 55]⟩ : ByteArray), (⟨#[109, 97, 114, 107, 32, 56]⟩ : ByteArray)] : List ByteArray) : List ByteArray)).bind fun y104 => (if y101.length + y104.length < 8796093022208 then (some (y101 ++ y104)) else (none))) = some r := by first | (rw [hy101]; with_reducible exact H) | (have H2_ := (Option.bind_some _ _).symm.trans H; rw [hy101]; with_reducible exact H2_) | (have H2_ := (Option.bind_some _ _).symm.trans H; with_reducible exact H2_) | with_reducible exact H | (rw [hy101]; exact H) | exact H
    have Ny101 := Aside0.mk hy101
    clear hy101
    obtain ⟨y104, hy104⟩ : ∃ y_ : List ByteArray, y_ = (([(⟨#[109, 97, 114, 107, 32, 55]⟩ : ByteArray), (⟨#[109, 97, 114, 107, 32, 56]⟩ : ByteArray)] : List ByteArray)) := ⟨_, rfl⟩
    replace H : (if y101.length + y104.length < 8796093022208 then (some (y101 ++ y104)) else (none)) = some r := by first | (rw [hy104]; with_reducible exact H) | (have H2_ := (Option.bind_some _ _).symm.trans H; rw [hy104]; with_reducible exact H2_) | (have H2_ := (Option.bind_some _ _).symm.trans H; with_reducible exact H2_) | with_reducible exact H | (rw [hy104]; exact H) | exact H
    have Ny104 := Aside0.mk hy104
    clear hy104
    by_cases c3 : y101.length + y104.length < 8796093022208
    · rw [if_pos c3] at H
      have LMc3 := Aside0.mk c3
      clear c3
      obtain ⟨y107, hy107⟩ : ∃ y_ : List ByteArray, y_ = (y101 ++ y104) := ⟨_, rfl⟩
      replace H : (some y107) = some r := by first | (rw [hy107]; with_reducible exact H) | (have H2_ := (Option.bind_some _ _).symm.trans H; rw [hy107]; with_reducible exact H2_) | (have H2_ := (Option.bind_some _ _).symm.trans H; with_reducible exact H2_) | with_reducible exact H | (rw [hy107]; exact H) | exact H
      have Ny107 := Aside0.mk hy107
      clear hy107
      obtain rfl := Option.some.inj H
      go_enter Try.func29, Try.ntmps29
      go_wp2_with (first | ((with_reducible refine gate_builtin (b := .append) (xs := #[.const (.slice none 0 0), .tmp 3]) rfl ?_); at_builtin; refine Kd.R_append_rows Kd.string (w0 := w) w.heap.size rfl (.const (.slice none 0 0)) (.tmp 3) 38 9 (.string ⟨#[]⟩) 16 rfl Try.underlying38 info9 rfl (by decide) (by omega) (.slice none 0 0) ([] : List ByteArray) l0 _ _ _ (fun _ => True) (fun _ => False) rfl rfl ?aO ?aR (fun _ _ h => h) (fun _ h => h.elim) ?aF ?aB ?aS ?aL ?_; (case aR => repeat (first | exact HR0.out | (with_reducible refine Kd.C_alloc ?_ _) | (with_reducible refine Kd.C_drewN ?_ _) | (with_reducible refine Kd.C_drew ?_))); (case aB => exact (by repeat (first | (with_reducible first | exact HB.out | apply below_alloc | apply pw_below_drewN | apply below_drew1) | exact HB.out))); (case aF => exact (fun _ _ => trivial)); (case aO => exact ((Kd.R_nil _ _ _ _ (fun _ => True)))); (case aS => exact (below_size (by repeat (first | (with_reducible first | exact HB.out | apply below_alloc | apply pw_below_drewN | apply below_drew1) | exact HB.out)))); (case aL => have := LMc2.out; omega); intro v102 w4 ho hb hg hat; rw [← Ny101.out] at ho; have n0_ := Aside0.mk (hb); have n1_ := Aside0.mk (ho); clear HB; have HB := n0_; have HO103 := n1_; clear n0_ n1_; clear ho hb hg hat) | ((with_reducible refine gate_dst (N := 5) rfl ?_); refine Kd.R_lit Kd.string _ 9 ?hg (N := 5) ?hd (xs := ([(⟨#[109, 97, 114, 107, 32, 55]⟩ : ByteArray), (⟨#[109, 97, 114, 107, 32, 56]⟩ : ByteArray)] : List ByteArray)) (inner := [.string (⟨#[109, 97, 114, 107, 32, 55]⟩ : ByteArray), .string (⟨#[109, 97, 114, 107, 32, 56]⟩ : ByteArray)]) (ok := fun _ => True) (okp := fun _ => True) ?hr ?hp (fun _ hk => hk) trivial (Below.refl _ _) (Nat.le_refl _) (by simp) ?_; (case hd => rfl); (case hg => rfl); (case hr => first | (go_simp; done) | (go_simp; rfl)); (case hp => exact (Reps.one (show Kd.M Kd.string _ _ _ (⟨#[109, 97, 114, 107, 32, 55]⟩ : ByteArray) [.string (⟨#[109, 97, 114, 107, 32, 55]⟩ : ByteArray)] from rfl) (Reps.one (show Kd.M Kd.string _ _ _ (⟨#[109, 97, 114, 107, 32, 56]⟩ : ByteArray) [.string (⟨#[109, 97, 114, 107, 32, 56]⟩ : ByteArray)] from rfl) (Reps.none _ _)))); intro v105 w5 ho6 hb hg_ hnew_; clear hg_ hnew_; (first | rw [← Ny104.out] at ho6 | (simp only [Int.reduceToNat] at ho6; rw [← Ny104.out] at ho6)); have n0_ := Aside0.mk (Kd.R_elder' (by (with_reducible repeat (first | apply Kd.R_alloc | apply Kd.R_drewN | apply Kd.R_drew)); exact HO103.out) (Kd.R_base ho6) hb); have n1_ := Aside0.mk (Kd.R_lower (Kd.R_new' ho6 (Kd.R_lt (by (with_reducible repeat (first | apply Kd.R_alloc | apply Kd.R_drewN | apply Kd.R_drew)); exact HO103.out))) (below_size (by repeat (first | (with_reducible first | exact HB.out | apply below_alloc | apply pw_below_drewN | apply below_drew1) | exact HB.out)))); have n2_ := Aside0.mk (below_step (by repeat (first | (with_reducible first | exact HB.out | apply below_alloc | apply pw_below_drewN | apply below_drew1) | exact HB.out)) hb); clear HO103; clear HB; have HO103 := n0_; have HO106 := n1_; have HB := n2_; clear n0_ n1_ n2_; clear hb ho6; obtain ⟨Ao8, co8, eo8⟩ := Kd.R_slice HO106.out; subst eo8) | ((with_reducible refine gate_builtin (b := .append) (xs := #[.tmp 4, .tmp 5]) rfl ?_); at_builtin; refine Kd.R_append_rows Kd.string (w0 := w) w.heap.size rfl (.tmp 4) (.tmp 5) 38 9 (.string ⟨#[]⟩) 16 rfl Try.underlying38 info9 rfl (by decide) (by omega) v102 y101 y104 _ _ _ (fun k_ => some k_ ≠ (.slice Ao8 y104.length co8 : Value).ownBlock) (fun _ => False) rfl rfl ?aO ?aR (fun _ _ h => h) (fun _ h => h.elim) ?aF ?aB ?aS ?aL ?_; (case aR => repeat (first | exact (Kd.R_reads' HO106.out).2.2 | (with_reducible refine Kd.C_alloc ?_ _) | (with_reducible refine Kd.C_drewN ?_ _) | (with_reducible refine Kd.C_drew ?_))); (case aB => exact (by repeat (first | (with_reducible first | exact HB.out | apply below_alloc | apply pw_below_drewN | apply below_drew1) | exact HB.out))); (case aF => exact (fun k_ hk => Kd.fresh' (Kd.R_lt (by (with_reducible repeat (first | apply Kd.R_alloc | apply Kd.R_drewN | apply Kd.R_drew)); exact HO106.out)) k_ hk)); (case aO => exact (by (with_reducible repeat (first | apply Kd.R_alloc | apply Kd.R_drewN | apply Kd.R_drew)); exact Kd.R_mono HO103.out (fun _ hk => hk.2))); (case aS => exact (below_size (by repeat (first | (with_reducible first | exact HB.out | apply below_alloc | apply pw_below_drewN | apply below_drew1) | exact HB.out)))); (case aL => have := LMc3.out; omega); intro v108 w7 ho hb hg hat; rw [← Ny107.out] at ho; have n0_ := Aside0.mk (Kd.R_after (ok := (fun _ => True)) (by (with_reducible repeat (first | apply Kd.R_alloc | apply Kd.R_drewN | apply Kd.R_drew)); exact HO106.out) hg hat); have n1_ := Aside0.mk (hb); have n2_ := Aside0.mk (ho); clear HO106; clear HB; clear HO103; have HO106 := n0_; have HB := n1_; have HO109 := n2_; clear n0_ n1_ n2_; clear ho hb hg hat))
      go_ret
      exact ⟨_, by first | rfl | (simp [errW_none, errW_some] <;> rfl) | (simp [*, errW_none, errW_some] <;> rfl), by (with_reducible repeat (first | apply Kd.R_alloc | apply Kd.R_drewN | apply Kd.R_drew)); exact Kd.R_mono HO109.out (fun _ hk => trivial), by repeat (first | (with_reducible first | exact HB.out | apply below_alloc | apply pw_below_drewN | apply below_drew1) | exact HB.out)⟩
    · rw [if_neg c3] at H
      exact absurd H (by simp)
  · rw [if_neg c2] at H
    exact absurd H (by simp)

/-! ### page_Used: function 31 -/
def page_Used.l0 : Nat → Int → List ByteArray → Int → Int → Option (Int)
  | 0, _, _, _, _ => none
  | k + 1, x3, x6, x7, x8 => if x8 < x7 then (if 0 ≤ x8 then (if x8 < (x6.length : Int) then (page_Used.l0 k (wrap64 (x3 + (wrap64 (4 + ((rdOf ByteArray.empty x6 x8).size : Int))))) x6 x7 (wrap64 (x8 + 1))) else (none)) else (none)) else (some x3)
def page_Used.f (k : Nat) (l0 : List ByteArray) : Option (Int) := page_Used.l0 k 0 l0 (l0.length : Int) 0
theorem page_Used.mono_l : ∀ k, (∀ y0 y1 y2 y3, LeO (page_Used.l0 k y0 y1 y2 y3) (page_Used.l0 (k + 1) y0 y1 y2 y3))
  | 0 => fun _ _ _ _ r h => by simp [page_Used.l0] at h
  | k + 1 => by
    have ih0 := page_Used.mono_l k
    · intro y0 y1 y2 y3
      unfold page_Used.l0
      repeat' first
      | (with_reducible exact ih0 _ _ _ _)
      | (with_reducible exact LeO.refl _)
      | (with_reducible exact LeO.none _)
      | (with_reducible refine LeO.ite ?_ ?_)
      | (with_reducible refine LeO.bind ?_ (fun _ => ?_))
      | exact ih0 _ _ _ _
      | exact LeO.none _
      | refine LeO.ite ?_ ?_
      | refine LeO.bind ?_ (fun _ => ?_)
theorem page_Used.mono : ∀ a0 k, LeO (page_Used.f k a0) (page_Used.f (k + 1) a0) := by
  intro a0 k
  have ih0 := page_Used.mono_l k
  unfold page_Used.f
  repeat' first
      | (with_reducible exact ih0 _ _ _ _)
      | (with_reducible exact LeO.refl _)
      | (with_reducible exact LeO.none _)
      | (with_reducible refine LeO.ite ?_ ?_)
      | (with_reducible refine LeO.bind ?_ (fun _ => ?_))
      | exact ih0 _ _ _ _
      | exact LeO.none _
      | refine LeO.ite ?_ ?_
      | refine LeO.bind ?_ (fun _ => ?_)
set_option maxHeartbeats 8000000 in
set_option maxRecDepth 100000 in
theorem page_Used.calls (k : Nat) (A0 : Option Addr) (c0 : Nat) (l0 : List ByteArray) (r : Int) (w : World) (hr0 : Kd.C Kd.string w A0 l0.length l0) (hc0 : l0.length ≤ c0) (h : page_Used.f k l0 = some r) :
    Calls Try.prog 31 #[.slice A0 l0.length c0] w fun e w' => e = .returned (.int .i64 r) ∧ Drawn0 w w' := by
  have HR0 := Aside0.mk hr0
  have HC0 := Aside0.mk hc0
  clear hr0 hc0
  have H : (page_Used.l0 k 0 l0 (l0.length : Int) 0) = some r := h
  clear h
  have H' := Aside0.mk H
  clear H
  go_enter Try.func31, Try.ntmps31
  go_wp2
  go_loopg [3, 8] k (fun kq v3 v8 w' => ∃ (x3_1 : Int) (x8_1 : Int), v3 = .int .i64 x3_1 ∧ v8 = .int .i64 x8_1 ∧ Aside0 (page_Used.l0 kq x3_1 l0 (l0.length : Int) x8_1 = some r) ∧ Aside0 (kq ≤ k) ∧ Drawn0 w w')
  case atStart => exact ⟨(0), (0), (by first | rfl | (simp; done) | (simp [*]; done) | exact bq1 _ _ | exact bq2 _ _ | exact congrArg Value.bool (bq2 _ _) | exact congrArg Value.bool (bq1 _ _) | exact congrArg Value.bool (bq1' _ _) | exact bq1' _ _ | exact congrArg Value.bool (bq2' _ _) | exact bq2' _ _), (by first | rfl | (simp; done) | (simp [*]; done) | exact bq1 _ _ | exact bq2 _ _ | exact congrArg Value.bool (bq2 _ _) | exact congrArg Value.bool (bq1 _ _) | exact congrArg Value.bool (bq1' _ _) | exact bq1' _ _ | exact congrArg Value.bool (bq2' _ _) | exact bq2' _ _), H', ⟨Nat.le_refl _⟩, by repeat (first | exact Drawn0.refl _ | apply Drawn0.step)⟩
  case round =>
    clear H'
    try clear q1
    obtain ⟨x3_1, x8_1, rfl, rfl, HA, HK1, ⟨m1, rfl⟩⟩ := hrel
    cases gk with
    | zero => exact absurd HA.out (by simp [page_Used.l0])
    | succ k1 =>
      have H := HA.out
      clear HA
      simp only [page_Used.l0] at H
      by_cases c2 : x8_1 < (l0.length : Int)
      · rw [if_pos c2] at H
        have c2b0 : decide (x8_1 < (l0.length : Int)) = true := decide_eq_true c2
        clear c2
        by_cases c3 : 0 ≤ x8_1
        · rw [if_pos c3] at H
          have c3b0 : decide (0 ≤ x8_1) = true := decide_eq_true c3
          clear c3
          by_cases c4 : x8_1 < (l0.length : Int)
          · rw [if_pos c4] at H
            have c4b0 : decide (x8_1 < (l0.length : Int)) = true := decide_eq_true c4
            clear c4
            have H' := Aside0.mk H
            clear H
            have p110 : 0 ≤ (x8_1 : Int) := of_decide_eq_true (by first | (with_reducible assumption) | assumption)
            have q110 : x8_1 < (l0.length : Int) := of_decide_eq_true (by first | (with_reducible assumption) | assumption)
            obtain ⟨ad110, e110, hx110_0⟩ := Kd.at_string HR0.out x8_1 p110 q110
            cases e110
            replace p110 := eq_true p110
            replace q110 := eq_true q110
            go_wp2
            go_roundg k1
            case measure => have := HK1.out; omega
            case rel => exact ⟨(wrap64 (x3_1 + (wrap64 (4 + ((rdOf ByteArray.empty l0 x8_1).size : Int))))), (wrap64 (x8_1 + 1)), (by first | rfl | (simp; done) | (simp [*]; done) | exact bq1 _ _ | exact bq2 _ _ | exact congrArg Value.bool (bq2 _ _) | exact congrArg Value.bool (bq1 _ _) | exact congrArg Value.bool (bq1' _ _) | exact bq1' _ _ | exact congrArg Value.bool (bq2' _ _) | exact bq2' _ _), (by first | rfl | (simp; done) | (simp [*]; done) | exact bq1 _ _ | exact bq2 _ _ | exact congrArg Value.bool (bq2 _ _) | exact congrArg Value.bool (bq1 _ _) | exact congrArg Value.bool (bq1' _ _) | exact bq1' _ _ | exact congrArg Value.bool (bq2' _ _) | exact bq2' _ _), H', ⟨by have := HK1.out; omega⟩, by repeat (first | exact Drawn0.refl _ | apply Drawn0.step)⟩
          · rw [if_neg c4] at H
            exact absurd H (by simp)
        · rw [if_neg c3] at H
          exact absurd H (by simp)
      · rw [if_neg c2] at H
        have c2b0 : decide (x8_1 < (l0.length : Int)) = false := decide_eq_false c2
        clear c2
        obtain rfl := Option.some.inj H
        go_wp2
        go_ret
        exact ⟨by first | rfl | (simp; done) | (simp [*]; done) | exact bq1 _ _ | exact bq2 _ _ | exact congrArg Value.bool (bq2 _ _) | exact congrArg Value.bool (bq1 _ _) | exact congrArg Value.bool (bq1' _ _) | exact bq1' _ _ | exact congrArg Value.bool (bq2' _ _) | exact bq2' _ _, by repeat (first | exact Drawn0.refl _ | apply Drawn0.step)⟩

/-! ### page_Sum: function 37 -/
mutual
def page_Sum.l0 : Nat → ByteArray → Int → Int → Option (Int)
  | 0, _, _, _ => none
  | k + 1, x0, x3, x4 => if x4 < (x0.size : Int) then (if 0 ≤ x4 then (page_Sum.l1 k x0 (Go.bits .xor .u32 x3 ((bt x0 x4) % 4294967296)) x4 0) else (none)) else (some (Go.bits .xor .u32 4294967295 x3))
def page_Sum.l1 : Nat → ByteArray → Int → Int → Int → Option (Int)
  | 0, _, _, _, _ => none
  | k + 1, x0, x3, x4, x17 => if x17 < 8 then (if (Go.bits .and .u32 x3 1) = 1 then (page_Sum.l1 k x0 (Go.bits .xor .u32 (x3 / 2) 3988292384) x4 (wrap64 (x17 + 1))) else (page_Sum.l1 k x0 (x3 / 2) x4 (wrap64 (x17 + 1)))) else (page_Sum.l0 k x0 x3 (wrap64 (x4 + 1)))
end
def page_Sum.f (k : Nat) (a0 : ByteArray) : Option (Int) := page_Sum.l0 k a0 4294967295 0
theorem page_Sum.mono_l : ∀ k, (∀ y0 y1 y2, LeO (page_Sum.l0 k y0 y1 y2) (page_Sum.l0 (k + 1) y0 y1 y2)) ∧ (∀ y0 y1 y2 y3, LeO (page_Sum.l1 k y0 y1 y2 y3) (page_Sum.l1 (k + 1) y0 y1 y2 y3))
  | 0 => ⟨fun _ _ _ r h => by simp [page_Sum.l0] at h, fun _ _ _ _ r h => by simp [page_Sum.l1] at h⟩
  | k + 1 => by
    obtain ⟨ih0, ih1⟩ := page_Sum.mono_l k
    refine ⟨?_, ?_⟩
    · intro y0 y1 y2
      unfold page_Sum.l0
      repeat' first
      | (with_reducible exact ih0 _ _ _)
      | (with_reducible exact ih1 _ _ _ _)
      | (with_reducible exact LeO.refl _)
      | (with_reducible exact LeO.none _)
      | (with_reducible refine LeO.ite ?_ ?_)
      | (with_reducible refine LeO.bind ?_ (fun _ => ?_))
      | exact ih0 _ _ _
      | exact ih1 _ _ _ _
      | exact LeO.none _
      | refine LeO.ite ?_ ?_
      | refine LeO.bind ?_ (fun _ => ?_)
    · intro y0 y1 y2 y3
      unfold page_Sum.l1
      repeat' first
      | (with_reducible exact ih0 _ _ _)
      | (with_reducible exact ih1 _ _ _ _)
      | (with_reducible exact LeO.refl _)
      | (with_reducible exact LeO.none _)
      | (with_reducible refine LeO.ite ?_ ?_)
      | (with_reducible refine LeO.bind ?_ (fun _ => ?_))
      | exact ih0 _ _ _
      | exact ih1 _ _ _ _
      | exact LeO.none _
      | refine LeO.ite ?_ ?_
      | refine LeO.bind ?_ (fun _ => ?_)
theorem page_Sum.mono : ∀ a0 k, LeO (page_Sum.f k a0) (page_Sum.f (k + 1) a0) := by
  intro a0 k
  obtain ⟨ih0, ih1⟩ := page_Sum.mono_l k
  unfold page_Sum.f
  repeat' first
      | (with_reducible exact ih0 _ _ _)
      | (with_reducible exact ih1 _ _ _ _)
      | (with_reducible exact LeO.refl _)
      | (with_reducible exact LeO.none _)
      | (with_reducible refine LeO.ite ?_ ?_)
      | (with_reducible refine LeO.bind ?_ (fun _ => ?_))
      | exact ih0 _ _ _
      | exact ih1 _ _ _ _
      | exact LeO.none _
      | refine LeO.ite ?_ ?_
      | refine LeO.bind ?_ (fun _ => ?_)
set_option maxHeartbeats 8000000 in
set_option maxRecDepth 100000 in
theorem page_Sum.calls (k : Nat) (a0 : ByteArray) (r : Int) (w : World) (h : page_Sum.f k a0 = some r) :
    Calls Try.prog 37 #[.string a0] w fun e w' => e = .returned (.int .u32 r) ∧ Drawn0 w w' := by
  have H : (page_Sum.l0 k a0 4294967295 0) = some r := h
  clear h
  have H' := Aside0.mk H
  clear H
  go_enter Try.func37, Try.ntmps37
  go_wp2
  go_loopg [3, 4] k (fun kq v3 v4 w' => ∃ (x3_1 : Int) (x4_1 : Int), v3 = .int .u32 x3_1 ∧ v4 = .int .i64 x4_1 ∧ Aside0 (page_Sum.l0 kq a0 x3_1 x4_1 = some r) ∧ Aside0 (kq ≤ k) ∧ Drawn0 w w')
  case atStart => exact ⟨(4294967295), (0), (by first | rfl | (simp; done) | (simp [*]; done) | exact bq1 _ _ | exact bq2 _ _ | exact congrArg Value.bool (bq2 _ _) | exact congrArg Value.bool (bq1 _ _) | exact congrArg Value.bool (bq1' _ _) | exact bq1' _ _ | exact congrArg Value.bool (bq2' _ _) | exact bq2' _ _), (by first | rfl | (simp; done) | (simp [*]; done) | exact bq1 _ _ | exact bq2 _ _ | exact congrArg Value.bool (bq2 _ _) | exact congrArg Value.bool (bq1 _ _) | exact congrArg Value.bool (bq1' _ _) | exact bq1' _ _ | exact congrArg Value.bool (bq2' _ _) | exact bq2' _ _), H', ⟨Nat.le_refl _⟩, by repeat (first | exact Drawn0.refl _ | apply Drawn0.step)⟩
  case round =>
    clear H'
    try clear q1
    obtain ⟨x3_1, x4_1, rfl, rfl, HA, HK1, ⟨m1, rfl⟩⟩ := hrel
    cases gk with
    | zero => exact absurd HA.out (by simp [page_Sum.l0])
    | succ k1 =>
      have H := HA.out
      clear HA
      simp only [page_Sum.l0] at H
      by_cases c2 : x4_1 < (a0.size : Int)
      · rw [if_pos c2] at H
        have c2b0 : decide (x4_1 < (a0.size : Int)) = true := decide_eq_true c2
        clear c2
        by_cases c3 : 0 ≤ x4_1
        · rw [if_pos c3] at H
          have c3b0 : decide (0 ≤ x4_1) = true := decide_eq_true c3
          clear c3
          have H' := Aside0.mk H
          clear H
          have p4 : 0 ≤ (x4_1 : Int) := of_decide_eq_true (by first | (with_reducible assumption) | assumption)
          have q4 : x4_1 < (a0.size : Int) := of_decide_eq_true (by first | (with_reducible assumption) | assumption)
          have hx4 := bt_at a0 x4_1
          replace p4 := eq_true p4
          replace q4 := eq_true q4
          go_wp2
          go_loopg [3, 17] k1 (fun kq v3 v17 w' => ∃ (x3_2 : Int) (x17_2 : Int), v3 = .int .u32 x3_2 ∧ v17 = .int .i64 x17_2 ∧ Aside0 (page_Sum.l1 kq a0 x3_2 x4_1 x17_2 = some r) ∧ Aside0 (kq ≤ k1) ∧ Drawn0 w w')
          case atStart => exact ⟨(Go.bits .xor .u32 x3_1 ((bt a0 x4_1) % 4294967296)), (0), (by first | rfl | (simp; done) | (simp [*]; done) | exact bq1 _ _ | exact bq2 _ _ | exact congrArg Value.bool (bq2 _ _) | exact congrArg Value.bool (bq1 _ _) | exact congrArg Value.bool (bq1' _ _) | exact bq1' _ _ | exact congrArg Value.bool (bq2' _ _) | exact bq2' _ _), (by first | rfl | (simp; done) | (simp [*]; done) | exact bq1 _ _ | exact bq2 _ _ | exact congrArg Value.bool (bq2 _ _) | exact congrArg Value.bool (bq1 _ _) | exact congrArg Value.bool (bq1' _ _) | exact bq1' _ _ | exact congrArg Value.bool (bq2' _ _) | exact bq2' _ _), H', ⟨Nat.le_refl _⟩, by repeat (first | exact Drawn0.refl _ | apply Drawn0.step)⟩
          case round =>
            clear H'
            try clear q1
            try clear c2
            try clear c2b0
            try clear p2
            try clear q2
            try clear c3
            try clear c3b0
            try clear p4
            try clear q4
            try clear hx4
            try clear p4
            try clear q1
            try clear q4
            obtain ⟨x3_2, x17_2, rfl, rfl, HA, HK2, ⟨m2, rfl⟩⟩ := hrel
            cases gk with
            | zero => exact absurd HA.out (by simp [page_Sum.l1])
            | succ k2 =>
              have H := HA.out
              clear HA
              simp only [page_Sum.l1] at H
              by_cases c5 : x17_2 < 8
              · rw [if_pos c5] at H
                have c5b0 : decide (x17_2 < 8) = true := decide_eq_true c5
                clear c5
                by_cases c6 : (Go.bits .and .u32 x3_2 1) = 1
                · rw [if_pos c6] at H
                  have c6b0 : ((Go.bits .and .u32 x3_2 1) == 1) = true := beq_iff_eq.mpr c6
                  have c6b1 : ((Go.bits .and .u32 x3_2 1) != 1) = false := bne_eq_false_iff_eq.mpr c6
                  clear c6
                  have H' := Aside0.mk H
                  clear H
                  go_wp2
                  go_roundg k2
                  case measure => have := HK1.out; have := HK2.out; omega
                  case rel => exact ⟨(Go.bits .xor .u32 (x3_2 / 2) 3988292384), (wrap64 (x17_2 + 1)), (by first | rfl | (simp; done) | (simp [*]; done) | exact bq1 _ _ | exact bq2 _ _ | exact congrArg Value.bool (bq2 _ _) | exact congrArg Value.bool (bq1 _ _) | exact congrArg Value.bool (bq1' _ _) | exact bq1' _ _ | exact congrArg Value.bool (bq2' _ _) | exact bq2' _ _), (by first | rfl | (simp; done) | (simp [*]; done) | exact bq1 _ _ | exact bq2 _ _ | exact congrArg Value.bool (bq2 _ _) | exact congrArg Value.bool (bq1 _ _) | exact congrArg Value.bool (bq1' _ _) | exact bq1' _ _ | exact congrArg Value.bool (bq2' _ _) | exact bq2' _ _), H', ⟨by have := HK1.out; have := HK2.out; omega⟩, by repeat (first | exact Drawn0.refl _ | apply Drawn0.step)⟩
                · rw [if_neg c6] at H
                  have c6b0 : ((Go.bits .and .u32 x3_2 1) == 1) = false := beq_eq_false_iff_ne.mpr c6
                  have c6b1 : ((Go.bits .and .u32 x3_2 1) != 1) = true := bne_iff_ne.mpr c6
                  have H' := Aside0.mk H
                  clear H
                  go_wp2
                  go_roundg k2
                  case measure => have := HK1.out; have := HK2.out; omega
                  case rel => exact ⟨(x3_2 / 2), (wrap64 (x17_2 + 1)), (by first | rfl | (simp; done) | (simp [*]; done) | exact bq1 _ _ | exact bq2 _ _ | exact congrArg Value.bool (bq2 _ _) | exact congrArg Value.bool (bq1 _ _) | exact congrArg Value.bool (bq1' _ _) | exact bq1' _ _ | exact congrArg Value.bool (bq2' _ _) | exact bq2' _ _), (by first | rfl | (simp; done) | (simp [*]; done) | exact bq1 _ _ | exact bq2 _ _ | exact congrArg Value.bool (bq2 _ _) | exact congrArg Value.bool (bq1 _ _) | exact congrArg Value.bool (bq1' _ _) | exact bq1' _ _ | exact congrArg Value.bool (bq2' _ _) | exact bq2' _ _), H', ⟨by have := HK1.out; have := HK2.out; omega⟩, by repeat (first | exact Drawn0.refl _ | apply Drawn0.step)⟩
              · rw [if_neg c5] at H
                have c5b0 : decide (x17_2 < 8) = false := decide_eq_false c5
                clear c5
                have H' := Aside0.mk H
                clear H
                go_wp2
                go_roundg k2
                case measure => have := HK1.out; have := HK2.out; omega
                case rel => exact ⟨(x3_2), (wrap64 (x4_1 + 1)), (by first | rfl | (simp; done) | (simp [*]; done) | exact bq1 _ _ | exact bq2 _ _ | exact congrArg Value.bool (bq2 _ _) | exact congrArg Value.bool (bq1 _ _) | exact congrArg Value.bool (bq1' _ _) | exact bq1' _ _ | exact congrArg Value.bool (bq2' _ _) | exact bq2' _ _), (by first | rfl | (simp; done) | (simp [*]; done) | exact bq1 _ _ | exact bq2 _ _ | exact congrArg Value.bool (bq2 _ _) | exact congrArg Value.bool (bq1 _ _) | exact congrArg Value.bool (bq1' _ _) | exact bq1' _ _ | exact congrArg Value.bool (bq2' _ _) | exact bq2' _ _), H', ⟨by have := HK1.out; have := HK2.out; omega⟩, by repeat (first | exact Drawn0.refl _ | apply Drawn0.step)⟩
        · rw [if_neg c3] at H
          exact absurd H (by simp)
      · rw [if_neg c2] at H
        have c2b0 : decide (x4_1 < (a0.size : Int)) = false := decide_eq_false c2
        clear c2
        obtain rfl := Option.some.inj H
        go_wp2
        go_ret
        exact ⟨by first | rfl | (simp; done) | (simp [*]; done) | exact bq1 _ _ | exact bq2 _ _ | exact congrArg Value.bool (bq2 _ _) | exact congrArg Value.bool (bq1 _ _) | exact congrArg Value.bool (bq1' _ _) | exact bq1' _ _ | exact congrArg Value.bool (bq2' _ _) | exact bq2' _ _, by repeat (first | exact Drawn0.refl _ | apply Drawn0.step)⟩

/-! ### page_two: function 103 -/
def page_two.f (a0 : Int) : Option (List Int) := some (([(a0 / 256) % 256, (a0) % 256] : List Int))
set_option maxHeartbeats 8000000 in
set_option maxRecDepth 100000 in
theorem page_two.calls (a0 : Int) (r : List Int) (w : World) (h : page_two.f a0 = some r) :
    Calls Try.prog 103 #[.int .i64 a0] w fun e w' => ∃ v0_ : Value, e = .returned (v0_) ∧ Kd.R (Kd.int .u8) 5 w' w.heap.size (fun _ => True) v0_ r ∧ Below w.heap.size w w' := by
  have HB := Aside0.mk (Below.refl w.heap.size w)
  have H : (some (([(a0 / 256) % 256, (a0) % 256] : List Int))) = some r := h
  clear h
  obtain ⟨y111, hy111⟩ : ∃ y_ : List Int, y_ = (([(a0 / 256) % 256, (a0) % 256] : List Int)) := ⟨_, rfl⟩
  replace H : (some y111) = some r := by first | (rw [hy111]; with_reducible exact H) | (have H2_ := (Option.bind_some _ _).symm.trans H; rw [hy111]; with_reducible exact H2_) | (have H2_ := (Option.bind_some _ _).symm.trans H; with_reducible exact H2_) | with_reducible exact H | (rw [hy111]; exact H) | exact H
  have Ny111 := Aside0.mk hy111
  clear hy111
  obtain rfl := Option.some.inj H
  go_enter Try.func103, Try.ntmps103
  go_wp2_with (first | ((with_reducible refine gate_dst (N := 8) rfl ?_); refine Kd.R_lit (Kd.int .u8) _ 5 ?hg (N := 8) ?hd (xs := ([(a0 / 256) % 256, (a0) % 256] : List Int)) (inner := [.int .u8 ((a0 / 256) % 256), .int .u8 ((a0) % 256)]) (ok := fun _ => True) (okp := fun _ => True) ?hr ?hp (fun _ hk => hk) trivial (Below.refl _ _) (Nat.le_refl _) (by simp) ?_; (case hd => rfl); (case hg => rfl); (case hr => first | (go_simp; done) | (go_simp; rfl)); (case hp => exact (Reps.one (show Kd.M (Kd.int .u8) _ _ _ ((a0 / 256) % 256) [.int .u8 ((a0 / 256) % 256)] from rfl) (Reps.one (show Kd.M (Kd.int .u8) _ _ _ ((a0) % 256) [.int .u8 ((a0) % 256)] from rfl) (Reps.none _ _)))); intro v112 w2 ho3 hb hg_ hnew_; clear hg_ hnew_; (first | rw [← Ny111.out] at ho3 | (simp only [Int.reduceToNat] at ho3; rw [← Ny111.out] at ho3)); have n0_ := Aside0.mk (Kd.R_lower ho3 (below_size (by repeat (first | (with_reducible first | exact HB.out | apply below_alloc | apply pw_below_drewN | apply below_drew1) | exact HB.out)))); have n1_ := Aside0.mk (below_step (by repeat (first | (with_reducible first | exact HB.out | apply below_alloc | apply pw_below_drewN | apply below_drew1) | exact HB.out)) hb); clear HB; have HO113 := n0_; have HB := n1_; clear n0_ n1_; clear hb ho3))
  go_ret
  exact ⟨_, by first | rfl | (simp [errW_none, errW_some] <;> rfl) | (simp [*, errW_none, errW_some] <;> rfl), by (with_reducible repeat (first | apply Kd.R_alloc | apply Kd.R_drewN | apply Kd.R_drew)); exact HO113.out, by repeat (first | (with_reducible first | exact HB.out | apply below_alloc | apply pw_below_drewN | apply below_drew1) | exact HB.out)⟩

/-! ### page_four: function 104 -/
def page_four.f (a0 : Int) : Option (List Int) := (page_two.f (a0 / 65536)).bind fun t114 => ((page_two.f a0).bind fun t117 => (if t114.length + t117.length < 140737488355328 then (some (t114 ++ t117)) else (none)))
set_option maxHeartbeats 8000000 in
set_option maxRecDepth 100000 in
theorem page_four.calls (a0 : Int) (r : List Int) (w : World) (h : page_four.f a0 = some r) :
    Calls Try.prog 104 #[.int .i64 a0] w fun e w' => ∃ v0_ : Value, e = .returned (v0_) ∧ Kd.R (Kd.int .u8) 5 w' w.heap.size (fun _ => True) v0_ r ∧ Below w.heap.size w w' := by
  have HB := Aside0.mk (Below.refl w.heap.size w)
  have H : ((page_two.f (a0 / 65536)).bind fun t114 => ((page_two.f a0).bind fun t117 => (if t114.length + t117.length < 140737488355328 then (some (t114 ++ t117)) else (none)))) = some r := h
  clear h
  replace H := Option.bind_eq_some_iff.mp H
  obtain ⟨t114, A20, H⟩ := H
  replace H : ((page_two.f a0).bind fun t117 => (if t114.length + t117.length < 140737488355328 then (some (t114 ++ t117)) else (none))) = some r := H
  have A2 := Aside0.mk A20
  clear A20
  replace H := Option.bind_eq_some_iff.mp H
  obtain ⟨t117, A30, H⟩ := H
  replace H : (if t114.length + t117.length < 140737488355328 then (some (t114 ++ t117)) else (none)) = some r := H
  have A3 := Aside0.mk A30
  clear A30
  by_cases c4 : t114.length + t117.length < 140737488355328
  · rw [if_pos c4] at H
    have LMc4 := Aside0.mk c4
    clear c4
    obtain ⟨y120, hy120⟩ : ∃ y_ : List Int, y_ = (t114 ++ t117) := ⟨_, rfl⟩
    replace H : (some y120) = some r := by first | (rw [hy120]; with_reducible exact H) | (have H2_ := (Option.bind_some _ _).symm.trans H; rw [hy120]; with_reducible exact H2_) | (have H2_ := (Option.bind_some _ _).symm.trans H; with_reducible exact H2_) | with_reducible exact H | (rw [hy120]; exact H) | exact H
    have Ny120 := Aside0.mk hy120
    clear hy120
    obtain rfl := Option.some.inj H
    go_enter Try.func104, Try.ntmps104
    go_wp2_with (first | ((with_reducible refine gate_callee (f := 103) rfl ?_); refine goesL_ (some 5) rfl rfl Try.func103 (by kernel_rfl) rfl #[.int .i64 (a0 / 65536)] rfl (by (try simp only [List.map_toArray, List.map_cons, List.map_nil]); first | done | rfl | (simp only [List.length_drop, List.length_take]; rfl) | (simp only [Int.ofNat_lt, Int.ofNat_le]; done) | (simp only [Int.ofNat_lt, Int.ofNat_le]; rfl) | (simp only [ByteArray.size_append, Int.natCast_add]; rfl)) ?_; (with_reducible refine (page_two.calls (a0 / 65536) t114 _ A2.out).mono ?_); rintro e w5 ⟨v115, rfl, ho0, hb⟩; refine ⟨_, rfl, ?_⟩; have n0_ := Aside0.mk (Kd.R_lower ho0 (below_size (by repeat (first | (with_reducible first | exact HB.out | apply below_alloc | apply pw_below_drewN | apply below_drew1) | exact HB.out)))); have n1_ := Aside0.mk (below_step (by repeat (first | (with_reducible first | exact HB.out | apply below_alloc | apply pw_below_drewN | apply below_drew1) | exact HB.out)) hb); clear HB; have HO116 := n0_; have HB := n1_; clear n0_ n1_; (try clear hb); (try clear hb2); (try clear hk); (try clear hi); (try clear ho0)) | ((with_reducible refine gate_callee (f := 103) rfl ?_); refine goesL_ (some 7) rfl rfl Try.func103 (by kernel_rfl) rfl #[.int .i64 a0] rfl (by (try simp only [List.map_toArray, List.map_cons, List.map_nil]); first | done | rfl | (simp only [List.length_drop, List.length_take]; rfl) | (simp only [Int.ofNat_lt, Int.ofNat_le]; done) | (simp only [Int.ofNat_lt, Int.ofNat_le]; rfl) | (simp only [ByteArray.size_append, Int.natCast_add]; rfl)) ?_; (with_reducible refine (page_two.calls a0 t117 _ A3.out).mono ?_); rintro e w6 ⟨v118, rfl, ho0, hb⟩; refine ⟨_, rfl, ?_⟩; have n0_ := Aside0.mk (Kd.R_elder' (by (with_reducible repeat (first | apply Kd.R_alloc | apply Kd.R_drewN | apply Kd.R_drew)); exact HO116.out) (Kd.R_base ho0) hb); have n1_ := Aside0.mk (Kd.R_lower (Kd.R_new' ho0 (Kd.R_lt (by (with_reducible repeat (first | apply Kd.R_alloc | apply Kd.R_drewN | apply Kd.R_drew)); exact HO116.out))) (below_size (by repeat (first | (with_reducible first | exact HB.out | apply below_alloc | apply pw_below_drewN | apply below_drew1) | exact HB.out)))); have n2_ := Aside0.mk (below_step (by repeat (first | (with_reducible first | exact HB.out | apply below_alloc | apply pw_below_drewN | apply below_drew1) | exact HB.out)) hb); clear HO116; clear HB; have HO116 := n0_; have HO119 := n1_; have HB := n2_; clear n0_ n1_ n2_; (try clear hb); (try clear hb2); (try clear hk); (try clear hi); (try clear ho0); obtain ⟨Ao8, co8, eo8⟩ := Kd.R_slice HO119.out; subst eo8) | ((with_reducible refine gate_builtin (b := .append) (xs := #[.tmp 5, .tmp 7]) rfl ?_); at_builtin; refine Kd.R_append_rows (Kd.int .u8) (w0 := w) w.heap.size rfl (.tmp 5) (.tmp 7) 55 5 (.int .u8 0) 1 rfl Try.underlying55 info5 rfl (by decide) (by omega) v115 t114 t117 _ _ _ (fun k_ => some k_ ≠ (.slice Ao8 t117.length co8 : Value).ownBlock) (fun _ => False) rfl rfl ?aO ?aR (fun _ _ h => h) (fun _ h => h.elim) ?aF ?aB ?aS ?aL ?_; (case aR => repeat (first | exact (Kd.R_reads' HO119.out).2.2 | (with_reducible refine Kd.C_alloc ?_ _) | (with_reducible refine Kd.C_drewN ?_ _) | (with_reducible refine Kd.C_drew ?_))); (case aB => exact (by repeat (first | (with_reducible first | exact HB.out | apply below_alloc | apply pw_below_drewN | apply below_drew1) | exact HB.out))); (case aF => exact (fun k_ hk => Kd.fresh' (Kd.R_lt (by (with_reducible repeat (first | apply Kd.R_alloc | apply Kd.R_drewN | apply Kd.R_drew)); exact HO119.out)) k_ hk)); (case aO => exact (by (with_reducible repeat (first | apply Kd.R_alloc | apply Kd.R_drewN | apply Kd.R_drew)); exact Kd.R_mono HO116.out (fun _ hk => hk.2))); (case aS => exact (below_size (by repeat (first | (with_reducible first | exact HB.out | apply below_alloc | apply pw_below_drewN | apply below_drew1) | exact HB.out)))); (case aL => have := LMc4.out; omega); intro v121 w7 ho hb hg hat; rw [← Ny120.out] at ho; have n0_ := Aside0.mk (Kd.R_after (ok := (fun _ => True)) (by (with_reducible repeat (first | apply Kd.R_alloc | apply Kd.R_drewN | apply Kd.R_drew)); exact HO119.out) hg hat); have n1_ := Aside0.mk (hb); have n2_ := Aside0.mk (ho); clear HO119; clear HB; clear HO116; have HO119 := n0_; have HB := n1_; have HO122 := n2_; clear n0_ n1_ n2_; clear ho hb hg hat))
    go_ret
    exact ⟨_, by first | rfl | (simp [errW_none, errW_some] <;> rfl) | (simp [*, errW_none, errW_some] <;> rfl), by (with_reducible repeat (first | apply Kd.R_alloc | apply Kd.R_drewN | apply Kd.R_drew)); exact Kd.R_mono HO122.out (fun _ hk => trivial), by repeat (first | (with_reducible first | exact HB.out | apply below_alloc | apply pw_below_drewN | apply below_drew1) | exact HB.out)⟩
  · rw [if_neg c4] at H
    exact absurd H (by simp)

/-! ### page_Seal: function 30 (a contract of this session's own) -/
def page_Seal.spl (L : List Int) (off : Nat) (cs : List Int) : List Int := L.take off ++ (cs ++ L.drop (off + cs.length))
def page_Seal.two (n : Nat) : List Int := [((n : Int) / 256) % 256, (n : Int) % 256]
def page_Seal.cells : List ByteArray → Nat → Nat → List Int → Option (List Int)
  | [], _, _, b => some b
  | c :: r, i, e, b => if 14 + 2 * i ≤ 1024 ∧ c.size + 2 ≤ e then page_Seal.cells r (i + 1) (e - (2 + c.size)) (page_Seal.spl (page_Seal.spl (page_Seal.spl b (12 + 2 * i) (page_Seal.two (e - (2 + c.size)))) (e - (2 + c.size)) (page_Seal.two c.size)) (e - (2 + c.size) + 2) (bytesOf c)) else none
def page_Seal.f (k : Nat) (a0_0 : Int) (a0_1 : Int) (l0_2 : List ByteArray) : Option (ByteArray × Int) := if a0_0 < 1 ∨ a0_0 > 5 ∨ a0_1 < 0 ∨ a0_1 > 2147483647 then some ((⟨#[]⟩ : ByteArray), 1) else ((page_Used.f k l0_2).bind fun u => if u > 1012 then some ((⟨#[]⟩ : ByteArray), 5) else ((page_two.f (l0_2.length : Int)).bind fun t0 => ((page_four.f a0_1).bind fun t1 => ((page_Seal.cells l0_2 0 1024 (page_Seal.spl (page_Seal.spl ((List.replicate 1024 (0 : Int)).set 4 (a0_0 % 256)) 6 t0) 8 t1)).bind fun b => ((page_Sum.f k (strOfNums (b.drop 4))).bind fun c => ((page_four.f c).bind fun t => some (strOfNums (page_Seal.spl b 0 t), 0)))))))
theorem page_Seal.mono : ∀ a0 a1 a2 k, LeO (page_Seal.f k a0 a1 a2) (page_Seal.f (k + 1) a0 a1 a2) := by
  intro a0 a1 a2 k
  unfold page_Seal.f
  repeat' first
   | exact LeO.refl _
   | exact page_Used.mono _ _
   | exact page_Sum.mono _ _
   | refine LeO.ite ?_ ?_
   | refine LeO.bind ?_ (fun _ => ?_)
/-- The array's cells. -/
def u8s (xs : List Int) : Array Value := (nums .u8 xs).toArray
/-- What stands in memory while a page is being sealed: the page that came in, boxed, and the array. -/
structure PS (w0 : World) (gp gb : Nat) (kd lk : Int) (A : Option Addr) (n c : Nat) (arr : List Int) (w : World) : Prop where
  hb : Below w0.heap.size w0 w
  bp : w.heap[gp]? = some (.cells #[.int .i64 kd, .int .i64 lk, .slice A n c] 40 (0, 0))
  ba : w.heap[gb]? = some (.cells (u8s arr) 118 (0, 0))
  gp0 : w0.heap.size ≤ gp
  gb0 : w0.heap.size ≤ gb
  ne : gp < gb
  len : arr.length = 1024
theorem PS.below {w0 gp gb kd lk A n c arr w w1} (h : PS w0 gp gb kd lk A n c arr w) (hb : Below w.heap.size w w1) : PS w0 gp gb kd lk A n c arr w1 :=
  ⟨below_step h.hb hb, blk_below h.bp hb, blk_below h.ba hb, h.gp0, h.gb0, h.ne, h.len⟩
theorem PS.drew {w0 gp gb kd lk A n c arr w} (h : PS w0 gp gb kd lk A n c arr w) : PS w0 gp gb kd lk A n c arr w.drew :=
  ⟨below_drew1 h.hb, blk_drew h.bp, blk_drew h.ba, h.gp0, h.gb0, h.ne, h.len⟩
theorem PS.moved {w0 gp gb kd lk A n c xs xs' W w'} (h : PS w0 gp gb kd lk A n c xs W) (hg : w'.heap[gb]? = some (.cells (u8s xs') 118 (0, 0))) (hb : Below gb W w') (hl : xs'.length = 1024) : PS w0 gp gb kd lk A n c xs' w' :=
  ⟨h.hb.trans ⟨hb.os, hb.tape, hb.output, hb.size, fun k hk => hb.block k (by have := h.gb0; omega)⟩, (hb.block gp h.ne).trans h.bp, hg, h.gp0, h.gb0, h.ne, hl⟩
theorem spl_length (xs ys : List Int) (off : Nat) (h : off + ys.length ≤ xs.length) : (page_Seal.spl xs off ys).length = xs.length := by simp [page_Seal.spl]; omega
theorem byteCells_nums (s : ByteArray) : Lib.byteCells s.data.toList = nums .u8 (bytesOf s) := by simp [Lib.byteCells, nums, bytesOf]
/-- 'copy(b[off:], s)', s a string. -/
theorem PS.copyS {w0 gp gb kd lk A n c xs} {ops : Array Oper} {rest : List Oper} {o : Oper} {a : Act} {W : World} {Q : Exit → Act → World → Prop} (S : PS w0 gp gb kd lk A n c xs W) (hgd : o.guard = none) (d s : Operand)
    (ho : o.op = .call { callee := .builtin .copy, args := #[d, s], argTypes := #[55, 9] }) (off dLen dCap : Nat) (ad : Addr) (t : ByteArray)
    (hd : a.eval d = .slice (some ad) dLen dCap) (had : 0 < t.size → ad = ⟨gb, off, none⟩) (hs : a.eval s = .string t) (hfit : off + t.size ≤ 1024) (hdl : t.size ≤ dLen)
    (h : ∀ w', PS w0 gp gb kd lk A n c (page_Seal.spl xs off (bytesOf t)) w' → wpList Try.prog ops Q rest (a.put o.dst (goInt t.size)) w') :
    wpList Try.prog ops Q (o :: rest) a W := by
  by_cases h0 : t.size = 0
  · have hb : bytesOf t = [] := List.eq_nil_of_length_eq_zero (by rw [bytesOf_length, h0])
    have hx : page_Seal.spl xs off (bytesOf t) = xs := by rw [hb]; simp [page_Seal.spl]
    have := h W (by rw [hx]; exact S)
    refine wpList_plain hgd fun K hK => ?_
    have hrun := Lib.run_copy_empty_string (P := Try.prog) W 55 9 o.type 5 (some ad) dLen dCap t Try.underlying55 (by kernel_rfl) h0
    unfold Oper.wp
    simp [execOp, ho, resolve, invoke, builtin, hd, hs, hrun, Result.andThen]
    rw [h0] at this
    exact hK _ _ this
  · obtain rfl := had (by omega)
    have hrun := Lib.run_copy_row_string (P := Try.prog) W 55 9 o.type 5 gb off dLen dCap t (u8s xs) 118 Try.underlying55 (by kernel_rfl) S.ba hdl (by simp [u8s, nums, S.len]; omega)
    have hr : ((u8s xs).toList.take off ++ Lib.byteCells t.data.toList ++ (u8s xs).toList.drop (off + t.size)).toArray = u8s (page_Seal.spl xs off (bytesOf t)) := by
      rw [byteCells_nums]
      simp [u8s, page_Seal.spl, nums, List.map_take, List.map_drop, bytesOf_length]
    rw [hr] at hrun
    have := h _ (S.moved (setRow_heap W gb (u8s xs) (u8s (page_Seal.spl xs off (bytesOf t))) 118 (0, 0) S.ba) (below_setRow (Below.refl gb W) (Nat.le_refl gb) _) (by rw [spl_length _ _ _ (by rw [bytesOf_length, S.len]; exact hfit), S.len]))
    refine wpList_plain hgd fun K hK => ?_
    unfold Oper.wp
    simp [execOp, ho, resolve, invoke, builtin, hd, hs, hrun, Result.andThen]
    exact hK _ _ this
theorem slice_arr2 (gb off : Nat) (x : Int) (hx : x = off) (h : off ≤ 1024) : ∃ ad : Addr, (off < 1024 → ad = ⟨gb, off, none⟩) ∧ ∀ W : World,
    (Instr.sliceAt 118 (.pointer (some ⟨gb, 0, none⟩)) (some (.int .i64 x)) none none).run Try.prog W = .ok (.slice (some ad) (1024 - off) (1024 - off)) W := by
  subst hx
  have ha : Try.prog.arrayLen 118 = 1024 := by kernel_rfl
  have hs : (Try.prog.info? 5).map (·.size) = some 1 := by kernel_rfl
  have hu : Try.prog.underlying 118 = some (.array (Try.prog.arrayLen 118) (Try.prog.elem 118)) := by kernel_rfl
  have he : Try.prog.elem 118 = 5 := by kernel_rfl
  refine ⟨if 1024 = off then ⟨gb, 0, none⟩ else ⟨gb, off, none⟩, fun h => if_neg (by omega), fun W => ?_⟩
  rw [run_sliceAt_array_l W 118 _ hu .i64 (off : Int) (by omega) (by rw [ha]; omega), he, ha]
  cases hq : Try.prog.info? 5 with
  | none => simp [hq] at hs
  | some i =>
    simp [hq] at hs
    simp [sizeOf, typeInfo, hq, hs, slicedAt, Result.andThen, Addr.add]
    by_cases h0 : off = 0
    · subst h0; simp
    · rw [if_neg h0]
theorem slice_arr (gb off : Nat) (x : Int) (hx : x = off) (h : off < 1024) (W : World) :
    (Instr.sliceAt 118 (.pointer (some ⟨gb, 0, none⟩)) (some (.int .i64 x)) none none).run Try.prog W = .ok (.slice (some ⟨gb, off, none⟩) (1024 - off) (1024 - off)) W := by
  obtain ⟨ad, h1, h2⟩ := slice_arr2 gb off x hx (by omega)
  rw [h2 W, h1 h]
theorem PS.rows {w0 gp gb kd lk A n c xs W} (S : PS w0 gp gb kd lk A n c xs W) (off : Nat) (h : off ≤ 1024) : (Kd.int .u8).C W (some ⟨gb, off, none⟩) (1024 - off) (xs.drop off) := by
  refine ⟨by rw [List.length_drop, S.len], by omega, fun hn => ⟨_, rfl, fun j p hp => ⟨[.int .u8 p], rfl, rfl, fun i u hu => ?_⟩⟩⟩
  have h0 : i = 0 := by
    have := (List.getElem?_eq_some_iff.1 hu).1
    simpa using this
  subst h0
  simp at hu
  subst hu
  rw [List.getElem?_drop] at hp
  have := blk_cell S.ba (off + j)
  have hz : (Kd.int IntKind.u8).sz = 1 := rfl
  have e : (Addr.mk gb off none).add (j * (Kd.int IntKind.u8).sz + 0) = ⟨gb, off + j, none⟩ := by
    rw [hz, Nat.mul_one, Nat.add_zero]
    unfold Addr.add
    split
    · rename_i h0; subst h0; rfl
    · rfl
  rw [e, this]
  simp [u8s, nums, hp]
theorem sum_wf : ∀ k, (∀ a x i r, page_Sum.l0 k a x i = some r → (Lit.int .u32 r).wf = true) ∧ (∀ a x i y r, page_Sum.l1 k a x i y = some r → (Lit.int .u32 r).wf = true)
  | 0 => ⟨fun _ _ _ _ h => (by simp [page_Sum.l0] at h), fun _ _ _ _ _ h => (by simp [page_Sum.l1] at h)⟩
  | k + 1 => by
    have ih := sum_wf k
    refine ⟨fun a x i r h => ?_, fun a x i y r h => ?_⟩
    · unfold page_Sum.l0 at h
      split at h
      · split at h
        · exact ih.2 _ _ _ _ _ h
        · cases h
      · rw [← Option.some.inj h]
        exact wf_bits _ _ _ _
    · unfold page_Sum.l1 at h
      split at h
      · split at h
        · exact ih.2 _ _ _ _ _ h
        · exact ih.2 _ _ _ _ _ h
      · exact ih.1 _ _ _ _ h
theorem sum_range {k a r} (h : page_Sum.f k a = some r) : 0 ≤ r ∧ r ≤ 4294967295 := by
  have := bounds_u32 ((sum_wf k).1 _ _ _ _ h)
  omega
theorem cells_step {l : List ByteArray} {j e : Nat} {b arr : List Int} (hj : j < l.length) (h : page_Seal.cells (l.drop j) j e b = some arr) :
    14 + 2 * j ≤ 1024 ∧ ∃ e2, e = e2 + (2 + (rdOf ByteArray.empty l (j : Int)).size) ∧ page_Seal.cells (l.drop (j + 1)) (j + 1) e2 (page_Seal.spl (page_Seal.spl (page_Seal.spl b (12 + 2 * j) (page_Seal.two e2)) e2 (page_Seal.two (rdOf ByteArray.empty l (j : Int)).size)) (e2 + 2) (bytesOf (rdOf ByteArray.empty l (j : Int)))) = some arr := by
  have hd : rdOf ByteArray.empty l (j : Int) = l[j] := by simp [rdOf, hj]
  rw [List.drop_eq_getElem_cons hj] at h
  unfold page_Seal.cells at h
  rw [← hd] at h
  split at h
  · rename_i hc
    refine ⟨hc.1, e - (2 + (rdOf ByteArray.empty l (j : Int)).size), by omega, h⟩
  · cases h
theorem u8s_toList (xs : List Int) : (nums .u8 xs).toArray = u8s xs := rfl
theorem spl_nums (xs ys : List Int) (off : Nat) : splice (nums .u8 xs) off (nums .u8 ys) = nums .u8 (page_Seal.spl xs off ys) := by
  simp [splice, page_Seal.spl, nums, List.map_take, List.map_drop]
theorem nums_one (xs : List Int) : ∀ v ∈ nums .u8 xs, v.oneCell' = true := by
  intro v hv
  simp only [nums, List.mem_map] at hv
  obtain ⟨b, _, rfl⟩ := hv
  rfl
/-- 'copy(b[off:], ys)', ys a row that is read, as one step of a region. -/
theorem PS.copy {w0 gp gb kd lk A n c xs} {ops : Array Oper} {o : Oper} {a : Act} {W : World} {K : Act → World → Prop} {Q : Exit → Act → World → Prop} {E : Prop} (S : PS w0 gp gb kd lk A n c xs W) (hgd : o.guard = none) (d s : Operand)
    (ho : o.op = .call { callee := .builtin .copy, args := #[d, s], argTypes := #[55, 55] }) (off dLen dCap : Nat) (sp : Option Addr) (m cc : Nat) (ys : List Int)
    (hd : a.eval d = .slice (some ⟨gb, off, none⟩) dLen dCap) (hs : a.eval s = .slice sp m cc) (src : (Kd.int .u8).C W sp m ys) (hfit : off + m ≤ 1024) (hdl : m ≤ dLen)
    (h : ∀ w', PS w0 gp gb kd lk A n c (page_Seal.spl xs off ys) w' → K (a.put o.dst (goInt m)) w') :
    if Region.wanted o (yielded ops a.tmps) = true then Oper.wp Try.prog o a W K Q else E := by
  have hr := Kd.reads_of_C (enc := Value.int .u8) (d := (0 : Int)) (h1 := fun _ => rfl) src
  have hl : ys.length = m := hr.1
  refine step_copy_splice (B := gb) (w0 := W) hgd d s 55 55 ho 5 Try.underlying55 (by kernel_rfl) _ _ dLen dCap m cc hd hs gb off (nums .u8 xs) 118 S.ba (nums .u8 ys) ?_ ?_ ?_ (nums_one ys) (Below.refl _ _) (Nat.le_refl _) ?_
  · rw [nums_length, hl]; exact (Nat.min_eq_left hdl).symm
  · intro hp
    rw [nums_length, hl] at hp
    obtain ⟨ad, e, hc⟩ := hr.2.2 hp
    refine ⟨rfl, ad, e, fun j v hj => ?_⟩
    simp only [nums, List.getElem?_map, Option.map_eq_some_iff] at hj
    obtain ⟨x, hx, rfl⟩ := hj
    have hjl := (List.getElem?_eq_some_iff.1 hx).1
    rw [hc j (by omega), List.getD_eq_getElem?_getD, hx]
    rfl
  · rw [nums_length, nums_length, hl, S.len]; exact hfit
  · intro w' hg hb
    have hg' := hg.out
    rw [spl_nums] at hg'
    have := h w' (S.moved hg' hb (by rw [spl_length _ _ _ (by rw [hl, S.len]; exact hfit), S.len]))
    rwa [nums_length, hl]
def zeros : List Int := List.replicate 1024 0
set_option maxHeartbeats 8000000 in
set_option maxRecDepth 100000 in
theorem page_Seal.calls (k : Nat) (a0_0 : Int) (a0_1 : Int) (A0_2 : Option Addr) (c0_2 : Nat) (l0_2 : List ByteArray) (r1 : ByteArray) (r2 : Int) (w : World) (hr0_2 : Kd.C Kd.string w A0_2 l0_2.length l0_2) (hc0_2 : l0_2.length ≤ c0_2) (h : page_Seal.f k a0_0 a0_1 l0_2 = some (r1, r2)) :
    Calls Try.prog 30 #[.agg #[.int .i64 a0_0, .int .i64 a0_1, .slice A0_2 l0_2.length c0_2]] w fun e w' => e = .returned (.tuple #[.string r1, .int .i64 r2]) ∧ Below w.heap.size w w' := by
  have HR := Aside0.mk hr0_2
  clear hr0_2 
  have H := Aside0.mk h
  clear h
  go_enter Try.func30, Try.ntmps30
  go_upto_region 1 with (first | ((with_reducible refine gate_dst (N := 1) rfl ?_); refine box_event ?hg (N := 1) ?hd (cs := #[.int .i64 a0_0, .int .i64 a0_1, .slice A0_2 l0_2.length c0_2]) (t := 40) ?hr ?_; (case hd => rfl); (case hg => rfl); (case hr => first | (go_simp; done) | (go_simp; rfl)); intro gp hgp w1 hbox hb; have HG := Aside0.mk (Nat.le_of_eq hgp.symm); have HB := Aside0.mk hb; have HX := Aside0.mk hbox; clear hgp hb hbox))
  have c0 := blk_cell HX.out 0
  have c1 := blk_cell HX.out 1
  have c2 := blk_cell HX.out 2
  simp only [List.getElem?_toArray, List.getElem?_cons_zero, List.getElem?_cons_succ] at c0 c1 c2
  by_cases h1 : a0_0 < 1
  · have H1 := H.out
    unfold page_Seal.f at H1
    rw [if_pos (.inl h1)] at H1
    obtain ⟨rfl, rfl⟩ := Prod.mk.inj (Option.some.inj H1)
    clear H1 H
    go_wp2
    go_ret2
    exact ⟨rfl, by repeat (first | exact HB.out | apply below_alloc | apply pw_below_drewN | apply below_drew1)⟩
  by_cases h2 : a0_0 > 5
  · have H1 := H.out
    unfold page_Seal.f at H1
    rw [if_pos (.inr (.inl h2))] at H1
    obtain ⟨rfl, rfl⟩ := Prod.mk.inj (Option.some.inj H1)
    clear H1 H
    go_wp2
    go_ret2
    exact ⟨rfl, by repeat (first | exact HB.out | apply below_alloc | apply pw_below_drewN | apply below_drew1)⟩
  by_cases h3 : a0_1 < 0
  · have H1 := H.out
    unfold page_Seal.f at H1
    rw [if_pos (.inr (.inr (.inl h3)))] at H1
    obtain ⟨rfl, rfl⟩ := Prod.mk.inj (Option.some.inj H1)
    clear H1 H
    go_wp2
    go_ret2
    exact ⟨rfl, by repeat (first | exact HB.out | apply below_alloc | apply pw_below_drewN | apply below_drew1)⟩
  by_cases h4 : a0_1 > 2147483647
  · have H1 := H.out
    unfold page_Seal.f at H1
    rw [if_pos (.inr (.inr (.inr h4)))] at H1
    obtain ⟨rfl, rfl⟩ := Prod.mk.inj (Option.some.inj H1)
    clear H1 H
    go_wp2
    go_ret2
    exact ⟨rfl, by repeat (first | exact HB.out | apply below_alloc | apply pw_below_drewN | apply below_drew1)⟩
  have H1 := H.out
  unfold page_Seal.f at H1
  rw [if_neg (by omega)] at H1
  clear H
  obtain ⟨u, hu, H1⟩ := Option.bind_eq_some_iff.1 H1
  have HU := Aside0.mk hu
  clear hu
  have HC := Aside0.mk (Kd.C_below HR.out HB.out)
  go_upto_region 3 with (fail)
  by_cases h5 : u > 1012
  · rw [if_pos h5] at H1
    obtain ⟨rfl, rfl⟩ := Prod.mk.inj (Option.some.inj H1)
    clear H1
    go_wp2_with (go_at_call 31; (with_reducible refine (page_Used.calls k A0_2 c0_2 l0_2 u _ (by exact HC.out) hc0_2 HU.out).mono ?_); rintro e w2 ⟨rfl, nd, rfl⟩)
    go_ret2
    exact ⟨rfl, by repeat (first | exact HB.out | apply below_alloc | apply pw_below_drewN | apply below_drew1)⟩
  rw [if_neg h5] at H1
  obtain ⟨t0, ht0, H1⟩ := Option.bind_eq_some_iff.1 H1
  obtain ⟨t1, ht1, H1⟩ := Option.bind_eq_some_iff.1 H1
  obtain ⟨arr, harr, H1⟩ := Option.bind_eq_some_iff.1 H1
  obtain ⟨cs, hcs, H1⟩ := Option.bind_eq_some_iff.1 H1
  obtain ⟨t4, ht4, H1⟩ := Option.bind_eq_some_iff.1 H1
  obtain ⟨rfl, rfl⟩ := Prod.mk.inj (Option.some.inj H1)
  clear H1
  have HT0 := Aside0.mk ht0
  have HT1 := Aside0.mk ht1
  have HAR := Aside0.mk harr
  have HCS := Aside0.mk hcs
  have HT4 := Aside0.mk ht4
  clear ht0 ht1 harr hcs ht4
  go_upto_region 6 with (first | (go_at_call 31; (with_reducible refine (page_Used.calls k A0_2 c0_2 l0_2 u _ (by exact HC.out) hc0_2 HU.out).mono ?_); rintro e w2 ⟨rfl, nd, rfl⟩) | ((with_reducible refine gate_dst (N := 4) rfl ?_); refine box_event ?hg (N := 4) ?hd (cs := u8s zeros) (t := 118) ?hr ?_; (case hd => rfl); (case hg => rfl); (case hr => first | rfl | (go_simp; done) | (go_simp; rfl)); intro gb hg w3 hbox hb; have S := Aside0.mk (PS.mk (w0 := w) (gp := gp) (gb := gb) (kd := a0_0) (lk := a0_1) (A := A0_2) (n := l0_2.length) (c := c0_2) (arr := zeros) (below_step (pw_below_drewN HB.out _) hb) (blk_below (blk_drewN HX.out _) hb) hbox HG.out (by rw [hg]; exact (pw_below_drewN HB.out _).size) (by rw [hg]; exact blk_lt (blk_drewN HX.out _)) (by simp [zeros])); clear hg hbox hb))
  clear c0 c1 c2 HB HX HG HC
  have c0 := blk_cell S.out.bp 0
  have c1 := blk_cell S.out.bp 1
  have c2 := blk_cell S.out.bp 2
  have f4 := blk_frozen S.out.ba 4
  have g4 := blk_cell S.out.ba 4
  simp only [List.getElem?_toArray, List.getElem?_cons_zero, List.getElem?_cons_succ] at c0 c1 c2
  go_upto_region 7 with (fail)
  have S1 := Aside0.mk (S.out.moved (w' := w3.setCell ⟨gb, 4, none⟩ (.int .u8 a0_0)) (xs' := zeros.set 4 a0_0) (blk_put S.out.ba 4 _ (by simp [u8s, nums])) ((Below.refl gb w3).setCell (p := ⟨gb, 4, none⟩) (Nat.le_refl gb) _) (by simp [zeros]))
  clear S c0 c1 c2 f4 g4
  generalize w3.setCell ⟨gb, 4, none⟩ (.int .u8 a0_0) = w4 at S1 ⊢
  have c2 := blk_cell S1.out.bp 2
  simp only [List.getElem?_toArray, List.getElem?_cons_zero, List.getElem?_cons_succ] at c2
  have HL0 : Aside0 (t0.length = 2) := ⟨by have := HT0.out; unfold page_two.f at this; rw [← Option.some.inj this]; rfl⟩
  go_region_law (first
    | (refine goes_ Try.func103 (by kernel_rfl) rfl #[.int .i64 (l0_2.length : Int)] (by rfl) rfl rfl (by (try simp only [List.map_toArray, List.map_cons, List.map_nil]); first | done | rfl) ?_; refine (page_two.calls _ t0 _ HT0.out).mono ?_; rintro e w5 ⟨v5, rfl, ho, hb⟩; obtain ⟨Ao, co, rfl⟩ := Kd.R_slice ho; refine ⟨_, rfl, ?_⟩; have S2 := Aside0.mk (S1.out.drew.below hb); have R2 := Aside0.mk (Kd.R_reads' ho); clear ho hb)
    | (refine S2.out.copy rfl (.tmp 34) (.tmp 38) rfl 6 1018 1018 Ao t0.length co t0 (by rfl) (by rfl) R2.out.2.2 (by rw [HL0.out]; decide) (by rw [HL0.out]; decide) ?_; intro w6 S3_; have S3 := Aside0.mk S3_; clear S3_))
  clear S1 c2 S2 R2
  go_upto_region 8 with (fail)
  have c1 := blk_cell S3.out.bp 1
  simp only [List.getElem?_toArray, List.getElem?_cons_zero, List.getElem?_cons_succ] at c1
  have HL1 : Aside0 (t1.length = 4) := ⟨by have := HT1.out; unfold page_four.f page_two.f at this; simp at this; rw [← this]; rfl⟩
  go_region_law (first
    | (refine goes_ Try.func104 (by kernel_rfl) rfl #[.int .i64 a0_1] (by rfl) rfl rfl (by (try simp only [List.map_toArray, List.map_cons, List.map_nil]); first | done | rfl) ?_; refine (page_four.calls _ t1 _ HT1.out).mono ?_; rintro e w7 ⟨v7, rfl, ho, hb⟩; obtain ⟨Ao7, co7, rfl⟩ := Kd.R_slice ho; refine ⟨_, rfl, ?_⟩; have S4 := Aside0.mk (S3.out.drew.below hb); have R4 := Aside0.mk (Kd.R_reads' ho); clear ho hb)
    | (refine S4.out.copy rfl (.tmp 40) (.tmp 43) rfl 8 1016 1016 Ao7 t1.length co7 t1 (by rfl) (by rfl) R4.out.2.2 (by rw [HL1.out]; decide) (by rw [HL1.out]; decide) ?_; intro w8 S5_; have S5 := Aside0.mk S5_; clear S5_))
  clear S3 c1 S4 R4
  have c2 := blk_cell S5.out.bp 2
  simp only [List.getElem?_toArray, List.getElem?_cons_zero, List.getElem?_cons_succ] at c2
  go_wp2_with (fail)
  have HL : Aside0 (l0_2.length ≤ 9223372036854775807) := ⟨HR.out.2.1⟩
  have HAR' : Aside0 (page_Seal.cells l0_2 0 1024 (page_Seal.spl (page_Seal.spl (zeros.set 4 a0_0) 6 t0) 8 t1) = some arr) := ⟨by
    have := HAR.out
    rwa [show a0_0 % 256 = a0_0 by omega] at this⟩
  clear HAR c2
  go_loopw [5, 48] (fun v5 v48 wr => ∃ (j e : Nat) (b : List Int), j ≤ l0_2.length ∧ v5 = .int .i64 (e : Int) ∧ v48 = .int .i64 (j : Int) ∧ e ≤ 1024 ∧ Aside0 (page_Seal.cells (l0_2.drop j) j e b = some arr) ∧ Aside0 (PS w gp gb a0_0 a0_1 A0_2 l0_2.length c0_2 b wr)) (fun _ v48 _ => l0_2.length - (intOf v48).toNat)
  case atStart => exact ⟨0, 1024, _, Nat.zero_le _, rfl, rfl, Nat.le_refl _, HAR', S5⟩
  case round =>
    clear S5 HAR'
    obtain ⟨j, e, b, hj, rfl, rfl, he, HJ, SJ⟩ := hrel
    have hm := HL.out
    by_cases hlt : j < l0_2.length
    · obtain ⟨hj2, e2, rfl, hnext⟩ := cells_step hlt HJ.out
      have HN := Aside0.mk hnext
      clear hnext
      obtain ⟨ad, hA, hx⟩ := Kd.at_string HR.out (j : Int) (by omega) (by omega)
      subst hA
      replace hx := (SJ.out.hb.cell (World.block_lt_of_cell? w _ hx)).trans hx
      generalize hd : rdOf ByteArray.empty l0_2 (j : Int) = d at *
      have HD := Aside0.mk hd
      clear hd
      rw [Int.toNat_natCast] at hx
      go_upto_region 14 with (fail)
      have w1_ : IntKind.i64.wrap (2 * (j : Int)) = 2 * (j : Int) := IntWalk.i64_in _ (by omega)
      have w2_ : IntKind.i64.wrap (12 + 2 * (j : Int)) = 12 + 2 * (j : Int) := IntWalk.i64_in _ (by omega)
      have sl_ := slice_arr gb (12 + 2 * j) (12 + 2 * (j : Int)) (by omega) (by omega)
      go_region_law (first
        | (refine goes_ Try.func103 (by kernel_rfl) rfl #[.int .i64 (e2 : Int)] (by rfl) rfl rfl (by (try simp only [List.map_toArray, List.map_cons, List.map_nil]); first | done | rfl) ?_; refine (page_two.calls _ (page_Seal.two e2) _ rfl).mono ?_; rintro e w9 ⟨v9, rfl, ho, hb⟩; obtain ⟨Ao9, co9, rfl⟩ := Kd.R_slice ho; refine ⟨_, rfl, ?_⟩; have S9 := Aside0.mk (SJ.out.drew.below hb); have R9 := Aside0.mk (Kd.R_reads' ho); clear ho hb)
        | (refine S9.out.copy rfl (.tmp 61) (.tmp 63) rfl (12 + 2 * j) (1024 - (12 + 2 * j)) (1024 - (12 + 2 * j)) Ao9 2 co9 (page_Seal.two e2) (by rfl) (by rfl) R9.out.2.2 (by omega) (by omega) ?_; intro w10 S10_; have S10 := Aside0.mk S10_; clear S10_))
      clear S9 R9 w1_ w2_ sl_
      go_upto_region 15 with (fail)
      have sl_ := slice_arr gb e2 (e2 : Int) rfl (by omega)
      go_region_law (first
        | (refine goes_ Try.func103 (by kernel_rfl) rfl #[.int .i64 (d.size : Int)] (by rfl) rfl rfl (by (try simp only [List.map_toArray, List.map_cons, List.map_nil]); first | done | rfl) ?_; refine (page_two.calls _ (page_Seal.two d.size) _ rfl).mono ?_; rintro e w11 ⟨v11, rfl, ho, hb⟩; obtain ⟨Ao11, co11, rfl⟩ := Kd.R_slice ho; refine ⟨_, rfl, ?_⟩; have S11 := Aside0.mk (S10.out.drew.below hb); have R11 := Aside0.mk (Kd.R_reads' ho); clear ho hb)
        | (refine S11.out.copy rfl (.tmp 66) (.tmp 69) rfl e2 (1024 - e2) (1024 - e2) Ao11 2 co11 (page_Seal.two d.size) (by rfl) (by rfl) R11.out.2.2 (by omega) (by omega) ?_; intro w12 S12_; have S12 := Aside0.mk S12_; clear S12_))
      clear S10 S11 R11 sl_
      go_upto_region 16 with (fail)
      obtain ⟨ad2, hd2, sl_⟩ := slice_arr2 gb (e2 + 2) ((e2 : Int) + 2) (by omega) (by omega)
      have HD2 := Aside0.mk hd2
      clear hd2
      go_upto_region 17 with (refine S12.out.copyS rfl (.tmp 73) (.tmp 74) rfl (e2 + 2) (1022 - e2) (1022 - e2) ad2 d (by rfl) (fun h => HD2.out (by omega)) (by rfl) (by omega) (by omega) ?_; intro w13 S13_; have S13 := Aside0.mk S13_; clear S13_)
      clear S12 sl_
      go_wp2_with (fail)
      go_roundw
      case rel => exact ⟨j + 1, e2, _, by omega, rfl, by go_num, by omega, HN, S13⟩
      case measure => simp [intOf]; omega
    · obtain rfl : j = l0_2.length := by omega
      have hb : b = arr := by
        have := HJ.out
        rw [List.drop_length] at this
        exact Option.some.inj this
      subst hb
      clear HJ
      have cv_ := Kd.C_string (P := Try.prog) (src := 55) (dst := 9) (e := 5) (c := 1020) Try.underlying55 Try.underlying5 Try.underlying9 (SJ.out.drew.rows 4 (by omega))
      go_upto_region 18 with (fail)
      obtain ⟨k1_, k2_⟩ := sum_range HCS.out
      have w1_ : IntKind.i64.wrap cs = cs := IntWalk.i64_in _ (by omega)
      have HL4 : Aside0 (t4.length = 4) := ⟨by have := HT4.out; unfold page_four.f page_two.f at this; simp at this; rw [← this]; rfl⟩
      go_region_law (first
        | (refine goes_ Try.func37 (by kernel_rfl) rfl #[.string (strOfNums (b.drop 4))] (by rfl) rfl rfl (by (try simp only [List.map_toArray, List.map_cons, List.map_nil]); first | done | rfl) ?_; refine (page_Sum.calls k _ cs _ HCS.out).mono ?_; rintro e w14 ⟨rfl, nd, rfl⟩; refine ⟨_, rfl, ?_⟩)
        | (refine goes_ Try.func104 (by kernel_rfl) rfl #[.int .i64 cs] (by rfl) rfl rfl (by (try simp only [List.map_toArray, List.map_cons, List.map_nil]); first | done | rfl) ?_; refine (page_four.calls _ t4 _ HT4.out).mono ?_; rintro e w15 ⟨v15, rfl, ho, hb⟩; obtain ⟨Ao15, co15, rfl⟩ := Kd.R_slice ho; refine ⟨_, rfl, ?_⟩; have S15 := Aside0.mk ((SJ.out.below (pw_below_drewN (Below.refl _ _) _)).below hb); have R15 := Aside0.mk (Kd.R_reads' ho); clear ho hb)
        | (refine S15.out.copy rfl (.tmp 77) (.tmp 82) rfl 0 1024 1024 Ao15 t4.length co15 t4 (by rfl) (by rfl) R15.out.2.2 (by rw [HL4.out]; decide) (by rw [HL4.out]; decide) ?_; intro w16 S16_; have S16 := Aside0.mk S16_; clear S16_))
      clear cv_ w1_ k1_ k2_
      have cv_ := Kd.C_string (P := Try.prog) (src := 55) (dst := 9) (e := 5) (c := 1024) Try.underlying55 Try.underlying5 Try.underlying9 (S16.out.rows 0 (by omega))
      rw [List.drop_zero] at cv_
      go_wp2
      go_ret2
      exact ⟨rfl, S16.out.hb⟩

/-! ### relstorelaw_sameTexts: function 36 -/
def relstorelaw_sameTexts.l0 : Nat → List ByteArray → List ByteArray → Int → Int → Option (Bool)
  | 0, _, _, _, _ => none
  | k + 1, x0, x1, x12, x13 => if x13 < x12 then (if 0 ≤ x13 then (if x13 < (x0.length : Int) then (if x13 < (x1.length : Int) then (if (rdOf ByteArray.empty x0 x13).toList = (rdOf ByteArray.empty x1 x13).toList then (relstorelaw_sameTexts.l0 k x0 x1 x12 (wrap64 (x13 + 1))) else (some false)) else (none)) else (none)) else (none)) else (some true)
def relstorelaw_sameTexts.f (k : Nat) (l0 : List ByteArray) (l1 : List ByteArray) : Option (Bool) := if (l0.length : Int) = (l1.length : Int) then (relstorelaw_sameTexts.l0 k l0 l1 (l0.length : Int) 0) else (some false)
theorem relstorelaw_sameTexts.mono_l : ∀ k, (∀ y0 y1 y2 y3, LeO (relstorelaw_sameTexts.l0 k y0 y1 y2 y3) (relstorelaw_sameTexts.l0 (k + 1) y0 y1 y2 y3))
  | 0 => fun _ _ _ _ r h => by simp [relstorelaw_sameTexts.l0] at h
  | k + 1 => by
    have ih0 := relstorelaw_sameTexts.mono_l k
    · intro y0 y1 y2 y3
      unfold relstorelaw_sameTexts.l0
      repeat' first
      | (with_reducible exact ih0 _ _ _ _)
      | (with_reducible exact LeO.refl _)
      | (with_reducible exact LeO.none _)
      | (with_reducible refine LeO.ite ?_ ?_)
      | (with_reducible refine LeO.bind ?_ (fun _ => ?_))
      | exact ih0 _ _ _ _
      | exact LeO.none _
      | refine LeO.ite ?_ ?_
      | refine LeO.bind ?_ (fun _ => ?_)
theorem relstorelaw_sameTexts.mono : ∀ a0 a1 k, LeO (relstorelaw_sameTexts.f k a0 a1) (relstorelaw_sameTexts.f (k + 1) a0 a1) := by
  intro a0 a1 k
  have ih0 := relstorelaw_sameTexts.mono_l k
  unfold relstorelaw_sameTexts.f
  repeat' first
      | (with_reducible exact ih0 _ _ _ _)
      | (with_reducible exact LeO.refl _)
      | (with_reducible exact LeO.none _)
      | (with_reducible refine LeO.ite ?_ ?_)
      | (with_reducible refine LeO.bind ?_ (fun _ => ?_))
      | exact ih0 _ _ _ _
      | exact LeO.none _
      | refine LeO.ite ?_ ?_
      | refine LeO.bind ?_ (fun _ => ?_)
set_option maxHeartbeats 8000000 in
set_option maxRecDepth 100000 in
theorem relstorelaw_sameTexts.calls (k : Nat) (A0 : Option Addr) (c0 : Nat) (l0 : List ByteArray) (A1 : Option Addr) (c1 : Nat) (l1 : List ByteArray) (r : Bool) (w : World) (hr0 : Kd.C Kd.string w A0 l0.length l0) (hc0 : l0.length ≤ c0) (hr1 : Kd.C Kd.string w A1 l1.length l1) (hc1 : l1.length ≤ c1) (h : relstorelaw_sameTexts.f k l0 l1 = some r) :
    Calls Try.prog 36 #[.slice A0 l0.length c0, .slice A1 l1.length c1] w fun e w' => e = .returned (.bool r) ∧ Drawn0 w w' := by
  have HR0 := Aside0.mk hr0
  have HC0 := Aside0.mk hc0
  clear hr0 hc0
  have HR1 := Aside0.mk hr1
  have HC1 := Aside0.mk hc1
  clear hr1 hc1
  have H : (if (l0.length : Int) = (l1.length : Int) then (relstorelaw_sameTexts.l0 k l0 l1 (l0.length : Int) 0) else (some false)) = some r := h
  clear h
  by_cases c3 : (l0.length : Int) = (l1.length : Int)
  · rw [if_pos c3] at H
    have c3b0 : ((l0.length : Int) == (l1.length : Int)) = true := beq_iff_eq.mpr c3
    have c3b1 : ((l0.length : Int) != (l1.length : Int)) = false := bne_eq_false_iff_eq.mpr c3
    have c3b2 : (l0.length == l1.length) = true := by first | simpa using c3 | (simp at c3 ⊢; omega)
    clear c3
    have H' := Aside0.mk H
    clear H
    go_enter Try.func36, Try.ntmps36
    go_wp2
    repeat (go_quiet (fail); try go_wp2)
    go_loopg [13] k (fun kq v13 w' => ∃ (x13_1 : Int), v13 = .int .i64 x13_1 ∧ Aside0 (relstorelaw_sameTexts.l0 kq l0 l1 (l0.length : Int) x13_1 = some r) ∧ Aside0 (kq ≤ k) ∧ Drawn0 w w')
    case atStart => exact ⟨(0), (by first | rfl | (simp; done) | (simp [*]; done) | exact bq1 _ _ | exact bq2 _ _ | exact congrArg Value.bool (bq2 _ _) | exact congrArg Value.bool (bq1 _ _) | exact congrArg Value.bool (bq1' _ _) | exact bq1' _ _ | exact congrArg Value.bool (bq2' _ _) | exact bq2' _ _), H', ⟨Nat.le_refl _⟩, by repeat (first | exact Drawn0.refl _ | apply Drawn0.step)⟩
    case round =>
      clear H'
      try clear c1
      try clear q1
      try clear p2
      try clear q2
      try clear c3
      try clear c3b0
      try clear c3b1
      try clear c3b2
      obtain ⟨x13_1, rfl, HA, HK1, ⟨m1, rfl⟩⟩ := hrel
      cases gk with
      | zero => exact absurd HA.out (by simp [relstorelaw_sameTexts.l0])
      | succ k1 =>
        have H := HA.out
        clear HA
        simp only [relstorelaw_sameTexts.l0] at H
        by_cases c4 : x13_1 < (l0.length : Int)
        · rw [if_pos c4] at H
          have c4b0 : decide (x13_1 < (l0.length : Int)) = true := decide_eq_true c4
          clear c4
          by_cases c5 : 0 ≤ x13_1
          · rw [if_pos c5] at H
            have c5b0 : decide (0 ≤ x13_1) = true := decide_eq_true c5
            clear c5
            by_cases c6 : x13_1 < (l0.length : Int)
            · rw [if_pos c6] at H
              have c6b0 : decide (x13_1 < (l0.length : Int)) = true := decide_eq_true c6
              clear c6
              by_cases c7 : x13_1 < (l1.length : Int)
              · rw [if_pos c7] at H
                have c7b0 : decide (x13_1 < (l1.length : Int)) = true := decide_eq_true c7
                clear c7
                by_cases c8 : (rdOf ByteArray.empty l0 x13_1).toList = (rdOf ByteArray.empty l1 x13_1).toList
                · rw [if_pos c8] at H
                  have c8b0 : ((rdOf ByteArray.empty l0 x13_1).toList == (rdOf ByteArray.empty l1 x13_1).toList) = true := beq_iff_eq.mpr c8
                  have c8b1 : ((rdOf ByteArray.empty l0 x13_1).toList != (rdOf ByteArray.empty l1 x13_1).toList) = false := bne_eq_false_iff_eq.mpr c8
                  clear c8
                  have H' := Aside0.mk H
                  clear H
                  have p123 : 0 ≤ (x13_1 : Int) := of_decide_eq_true (by first | (with_reducible assumption) | assumption)
                  have q123 : x13_1 < (l0.length : Int) := of_decide_eq_true (by first | (with_reducible assumption) | assumption)
                  obtain ⟨ad123, e123, hx123_0⟩ := Kd.at_string HR0.out x13_1 p123 q123
                  cases e123
                  replace p123 := eq_true p123
                  replace q123 := eq_true q123
                  have p124 : 0 ≤ (x13_1 : Int) := of_decide_eq_true (by first | (with_reducible assumption) | assumption)
                  have q124 : x13_1 < (l1.length : Int) := of_decide_eq_true (by first | (with_reducible assumption) | assumption)
                  obtain ⟨ad124, e124, hx124_0⟩ := Kd.at_string HR1.out x13_1 p124 q124
                  cases e124
                  replace p124 := eq_true p124
                  replace q124 := eq_true q124
                  go_wp2
                  repeat (go_quiet (fail); try go_wp2)
                  go_roundg k1
                  case measure => have := HK1.out; omega
                  case rel => exact ⟨(wrap64 (x13_1 + 1)), (by first | rfl | (simp; done) | (simp [*]; done) | exact bq1 _ _ | exact bq2 _ _ | exact congrArg Value.bool (bq2 _ _) | exact congrArg Value.bool (bq1 _ _) | exact congrArg Value.bool (bq1' _ _) | exact bq1' _ _ | exact congrArg Value.bool (bq2' _ _) | exact bq2' _ _), H', ⟨by have := HK1.out; omega⟩, by repeat (first | exact Drawn0.refl _ | apply Drawn0.step)⟩
                · rw [if_neg c8] at H
                  have c8b0 : ((rdOf ByteArray.empty l0 x13_1).toList == (rdOf ByteArray.empty l1 x13_1).toList) = false := beq_eq_false_iff_ne.mpr c8
                  have c8b1 : ((rdOf ByteArray.empty l0 x13_1).toList != (rdOf ByteArray.empty l1 x13_1).toList) = true := bne_iff_ne.mpr c8
                  obtain rfl := Option.some.inj H
                  have p123 : 0 ≤ (x13_1 : Int) := of_decide_eq_true (by first | (with_reducible assumption) | assumption)
                  have q123 : x13_1 < (l0.length : Int) := of_decide_eq_true (by first | (with_reducible assumption) | assumption)
                  obtain ⟨ad123, e123, hx123_0⟩ := Kd.at_string HR0.out x13_1 p123 q123
                  cases e123
                  replace p123 := eq_true p123
                  replace q123 := eq_true q123
                  have p124 : 0 ≤ (x13_1 : Int) := of_decide_eq_true (by first | (with_reducible assumption) | assumption)
                  have q124 : x13_1 < (l1.length : Int) := of_decide_eq_true (by first | (with_reducible assumption) | assumption)
                  obtain ⟨ad124, e124, hx124_0⟩ := Kd.at_string HR1.out x13_1 p124 q124
                  cases e124
                  replace p124 := eq_true p124
                  replace q124 := eq_true q124
                  go_wp2
                  repeat (go_quiet (fail); try go_wp2)
                  go_ret
                  exact ⟨by first | rfl | (simp; done) | (simp [*]; done) | exact bq1 _ _ | exact bq2 _ _ | exact congrArg Value.bool (bq2 _ _) | exact congrArg Value.bool (bq1 _ _) | exact congrArg Value.bool (bq1' _ _) | exact bq1' _ _ | exact congrArg Value.bool (bq2' _ _) | exact bq2' _ _, by repeat (first | exact Drawn0.refl _ | apply Drawn0.step)⟩
              · rw [if_neg c7] at H
                exact absurd H (by simp)
            · rw [if_neg c6] at H
              exact absurd H (by simp)
          · rw [if_neg c5] at H
            exact absurd H (by simp)
        · rw [if_neg c4] at H
          have c4b0 : decide (x13_1 < (l0.length : Int)) = false := decide_eq_false c4
          clear c4
          obtain rfl := Option.some.inj H
          go_wp2
          repeat (go_quiet (fail); try go_wp2)
          go_ret
          exact ⟨by first | rfl | (simp; done) | (simp [*]; done) | exact bq1 _ _ | exact bq2 _ _ | exact congrArg Value.bool (bq2 _ _) | exact congrArg Value.bool (bq1 _ _) | exact congrArg Value.bool (bq1' _ _) | exact bq1' _ _ | exact congrArg Value.bool (bq2' _ _) | exact bq2' _ _, by repeat (first | exact Drawn0.refl _ | apply Drawn0.step)⟩
  · rw [if_neg c3] at H
    have c3b0 : ((l0.length : Int) == (l1.length : Int)) = false := beq_eq_false_iff_ne.mpr c3
    have c3b1 : ((l0.length : Int) != (l1.length : Int)) = true := bne_iff_ne.mpr c3
    have c3b2 : (l0.length == l1.length) = false := by first | simpa using c3 | (simp at c3 ⊢; omega)
    obtain rfl := Option.some.inj H
    go_enter Try.func36, Try.ntmps36
    go_wp2
    repeat (go_quiet (fail); try go_wp2)
    go_ret
    exact ⟨by first | rfl | (simp; done) | (simp [*]; done) | exact bq1 _ _ | exact bq2 _ _ | exact congrArg Value.bool (bq2 _ _) | exact congrArg Value.bool (bq1 _ _) | exact congrArg Value.bool (bq1' _ _) | exact bq1' _ _ | exact congrArg Value.bool (bq2' _ _) | exact bq2' _ _, by repeat (first | exact Drawn0.refl _ | apply Drawn0.step)⟩

end Go.Proofs.Ythaoaaboempajaa.QPageSeals
