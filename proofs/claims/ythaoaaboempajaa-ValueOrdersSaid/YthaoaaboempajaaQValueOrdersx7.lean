-- Lines written for this claim by a program of this session (wip/print). Lean checks them.
import Derived.Test.YthaoaaboempajaaQValueOrdersx0
import Derived.Test.YthaoaaboempajaaQValueOrdersx1
import Derived.Test.YthaoaaboempajaaQValueOrdersx6
namespace Go.Proofs.Ythaoaaboempajaa.QValueOrders
open Go.RowKit Go.Proofs.YthaoaaboempajaaW.PrintWords Go.Proofs.YthaoaaboempajaaW.PrintLast Go.Proofs.YthaoaaboempajaaW.PrintMore Go.Proofs.YthaoaaboempajaaX
attribute [local go_sem] max2_int min2_int max_two min_two max_three min_three max_four min_four   -- for this text's walks alone
set_option linter.unusedVariables false
set_option linter.unusedSimpArgs false

attribute [local go_sem high] eqA29
/-! ### relstorelaw_back: function 23 -/
def relstorelaw_back.f (k : Nat) (l0 : List (S29)) (l1 : List (S29)) : Option (Bool) := if 0 ≤ (l1.length : Int) then (if (l1.length : Int) ≤ (l0.length : Int) then ((relstorelaw_sameValues.f k (l0.take ((l1.length : Int) : Int).toNat) l1).bind fun t192 => (if t192 = true then (if (l1.length : Int) < (l0.length : Int) then (if (((rd_T29 l0 (l1.length : Int)).f0) == 9 && (((rd_T29 l0 (l1.length : Int)).f1) == 7 && ((((rd_T29 l0 (l1.length : Int)).f2).toList) == ([] : List UInt8)))) = true then (if 0 ≤ (wrap64 ((l1.length : Int) + 1)) then (if (wrap64 ((l1.length : Int) + 1)) < (l0.length : Int) then (some (((rd_T29 l0 (wrap64 ((l1.length : Int) + 1))).f0) == 9 && (((rd_T29 l0 (wrap64 ((l1.length : Int) + 1))).f1) == 8 && ((((rd_T29 l0 (wrap64 ((l1.length : Int) + 1))).f2).toList) == ([] : List UInt8))))) else (none)) else (none)) else (some false)) else (none)) else (some false))) else (none)) else (none)
theorem relstorelaw_back.mono : ∀ a0 a1 k, LeO (relstorelaw_back.f k a0 a1) (relstorelaw_back.f (k + 1) a0 a1) := by
  intro a0 a1 k
  unfold relstorelaw_back.f
  repeat' first
      | (with_reducible exact relstorelaw_sameValues.mono _ _ _)
      | (with_reducible exact LeO.refl _)
      | (with_reducible exact LeO.none _)
      | (with_reducible refine LeO.ite ?_ ?_)
      | (with_reducible refine LeO.bind ?_ (fun _ => ?_))
      | exact relstorelaw_sameValues.mono _ _ _
      | exact LeO.none _
      | refine LeO.ite ?_ ?_
      | refine LeO.bind ?_ (fun _ => ?_)
set_option maxHeartbeats 8000000 in
set_option maxRecDepth 100000 in
theorem relstorelaw_back.calls (k : Nat) (A0 : Option Addr) (c0 : Nat) (l0 : List (S29)) (A1 : Option Addr) (c1 : Nat) (l1 : List (S29)) (r : Bool) (w : World) (hr0 : Kd.C k29 w A0 l0.length l0) (hc0 : l0.length ≤ c0) (hr1 : Kd.C k29 w A1 l1.length l1) (hc1 : l1.length ≤ c1) (h : relstorelaw_back.f k l0 l1 = some r) :
    Calls Try.prog 23 #[.slice A0 l0.length c0, .slice A1 l1.length c1] w fun e w' => e = .returned (.bool r) ∧ Below w.heap.size w w' := by
  have hu29 := Try.underlying29
  have HR0 := Aside0.mk hr0
  have HC0 := Aside0.mk hc0
  clear hr0 hc0
  have HR1 := Aside0.mk hr1
  have HC1 := Aside0.mk hc1
  clear hr1 hc1
  have HB := Aside0.mk (Below.refl w.heap.size w)
  have H : (if 0 ≤ (l1.length : Int) then (if (l1.length : Int) ≤ (l0.length : Int) then ((relstorelaw_sameValues.f k (l0.take ((l1.length : Int) : Int).toNat) l1).bind fun t192 => (if t192 = true then (if (l1.length : Int) < (l0.length : Int) then (if (((rd_T29 l0 (l1.length : Int)).f0) == 9 && (((rd_T29 l0 (l1.length : Int)).f1) == 7 && ((((rd_T29 l0 (l1.length : Int)).f2).toList) == ([] : List UInt8)))) = true then (if 0 ≤ (wrap64 ((l1.length : Int) + 1)) then (if (wrap64 ((l1.length : Int) + 1)) < (l0.length : Int) then (some (((rd_T29 l0 (wrap64 ((l1.length : Int) + 1))).f0) == 9 && (((rd_T29 l0 (wrap64 ((l1.length : Int) + 1))).f1) == 8 && ((((rd_T29 l0 (wrap64 ((l1.length : Int) + 1))).f2).toList) == ([] : List UInt8))))) else (none)) else (none)) else (some false)) else (none)) else (some false))) else (none)) else (none)) = some r := h
  clear h
  by_cases c3 : 0 ≤ (l1.length : Int)
  · rw [if_pos c3] at H
    have c3b0 := eq_true c3
    have c3b1 : decide (0 ≤ (l1.length : Int)) = true := decide_eq_true c3
    clear c3
    by_cases c4 : (l1.length : Int) ≤ (l0.length : Int)
    · rw [if_pos c4] at H
      have c4b0 := eq_true c4
      have c4b1 : decide ((l1.length : Int) ≤ (l0.length : Int)) = true := decide_eq_true c4
      clear c4
      obtain ⟨y188, hy188⟩ : ∃ y_ : List (S29), y_ = (l0.take ((l1.length : Int) : Int).toNat) := ⟨_, rfl⟩
      replace H : ((relstorelaw_sameValues.f k y188 l1).bind fun t192 => (if t192 = true then (if (l1.length : Int) < (l0.length : Int) then (if (((rd_T29 l0 (l1.length : Int)).f0) == 9 && (((rd_T29 l0 (l1.length : Int)).f1) == 7 && ((((rd_T29 l0 (l1.length : Int)).f2).toList) == ([] : List UInt8)))) = true then (if 0 ≤ (wrap64 ((l1.length : Int) + 1)) then (if (wrap64 ((l1.length : Int) + 1)) < (l0.length : Int) then (some (((rd_T29 l0 (wrap64 ((l1.length : Int) + 1))).f0) == 9 && (((rd_T29 l0 (wrap64 ((l1.length : Int) + 1))).f1) == 8 && ((((rd_T29 l0 (wrap64 ((l1.length : Int) + 1))).f2).toList) == ([] : List UInt8))))) else (none)) else (none)) else (some false)) else (none)) else (some false))) = some r := by first | (rw [hy188]; with_reducible exact H) | (have H2_ := (Option.bind_some _ _).symm.trans H; rw [hy188]; with_reducible exact H2_) | (have H2_ := (Option.bind_some _ _).symm.trans H; with_reducible exact H2_) | with_reducible exact H | (rw [hy188]; exact H) | exact H
      have Ny188 := Aside0.mk hy188
      clear hy188
      replace H := Option.bind_eq_some_iff.mp H
      obtain ⟨t192, A50, H⟩ := H
      replace H : (if t192 = true then (if (l1.length : Int) < (l0.length : Int) then (if (((rd_T29 l0 (l1.length : Int)).f0) == 9 && (((rd_T29 l0 (l1.length : Int)).f1) == 7 && ((((rd_T29 l0 (l1.length : Int)).f2).toList) == ([] : List UInt8)))) = true then (if 0 ≤ (wrap64 ((l1.length : Int) + 1)) then (if (wrap64 ((l1.length : Int) + 1)) < (l0.length : Int) then (some (((rd_T29 l0 (wrap64 ((l1.length : Int) + 1))).f0) == 9 && (((rd_T29 l0 (wrap64 ((l1.length : Int) + 1))).f1) == 8 && ((((rd_T29 l0 (wrap64 ((l1.length : Int) + 1))).f2).toList) == ([] : List UInt8))))) else (none)) else (none)) else (some false)) else (none)) else (some false)) = some r := H
      have A5 := Aside0.mk A50
      clear A50
      by_cases c6 : t192 = true
      · subst c6
        have H1 : (if (l1.length : Int) < (l0.length : Int) then (if (((rd_T29 l0 (l1.length : Int)).f0) == 9 && (((rd_T29 l0 (l1.length : Int)).f1) == 7 && ((((rd_T29 l0 (l1.length : Int)).f2).toList) == ([] : List UInt8)))) = true then (if 0 ≤ (wrap64 ((l1.length : Int) + 1)) then (if (wrap64 ((l1.length : Int) + 1)) < (l0.length : Int) then (some (((rd_T29 l0 (wrap64 ((l1.length : Int) + 1))).f0) == 9 && (((rd_T29 l0 (wrap64 ((l1.length : Int) + 1))).f1) == 8 && ((((rd_T29 l0 (wrap64 ((l1.length : Int) + 1))).f2).toList) == ([] : List UInt8))))) else (none)) else (none)) else (some false)) else (none)) = some r := by rw [if_pos rfl] at H; exact H
        clear H
        have H := H1
        clear H1
        by_cases c7 : (l1.length : Int) < (l0.length : Int)
        · rw [if_pos c7] at H
          have c7b0 : decide ((l1.length : Int) < (l0.length : Int)) = true := decide_eq_true c7
          have c7b1 : decide (l1.length < l0.length) = true := decide_eq_true (Int.ofNat_lt.mp c7)
          clear c7
          by_cases c8 : (((rd_T29 l0 (l1.length : Int)).f0) == 9 && (((rd_T29 l0 (l1.length : Int)).f1) == 7 && ((((rd_T29 l0 (l1.length : Int)).f2).toList) == ([] : List UInt8)))) = true
          · rw [if_pos c8] at H
            have c8b0 : (((rd_T29 l0 (l1.length : Int)).f0) == 9 && (((rd_T29 l0 (l1.length : Int)).f1) == 7 && ((((rd_T29 l0 (l1.length : Int)).f2).toList) == ([] : List UInt8)))) = true := c8
            (try (have c8b1 : ((rd_T29 l0 (l1.length : Int)).f0) = 9 ∧ ((rd_T29 l0 (l1.length : Int)).f1) = 7 ∧ (((rd_T29 l0 (l1.length : Int)).f2).toList) = ([] : List UInt8) := by simpa using c8))
            (try (have c8b2 : decide (((rd_T29 l0 (l1.length : Int)).f0) = 9 && (((rd_T29 l0 (l1.length : Int)).f1) == 7 && ((((rd_T29 l0 (l1.length : Int)).f2).toList) == ([] : List UInt8)))) = true := by simpa using c8))
            (try (have c8b3 : (((rd_T29 l0 (l1.length : Int)).f0) == 9 && (((rd_T29 l0 (l1.length : Int)).f1) == 7 && ((((rd_T29 l0 (l1.length : Int)).f2).toList) == ([] : List UInt8)))) = true := by simpa using c8))
            (try (have c8b4 : (!((rd_T29 l0 (l1.length : Int)).f0) == 9 && (((rd_T29 l0 (l1.length : Int)).f1) == 7 && ((((rd_T29 l0 (l1.length : Int)).f2).toList) == ([] : List UInt8)))) = false := by (have z_ := c8; revert z_; generalize (((rd_T29 l0 (l1.length : Int)).f0)) = p_; generalize (9 && (((rd_T29 l0 (l1.length : Int)).f1) == 7 && ((((rd_T29 l0 (l1.length : Int)).f2).toList) == ([] : List UInt8)))) = q_; revert p_ q_; decide)))
            clear c8
            obtain ⟨ji9, hji9⟩ : ∃ j_ : Int, (wrap64 ((l1.length : Int) + 1)) = j_ := ⟨_, rfl⟩
            replace H : (if 0 ≤ (ji9) then (if (ji9) < (l0.length : Int) then (some (((rd_T29 l0 (ji9)).f0) == 9 && (((rd_T29 l0 (ji9)).f1) == 8 && ((((rd_T29 l0 (ji9)).f2).toList) == ([] : List UInt8))))) else (none)) else (none)) = some r := by first | (rw [hji9] at H; exact H) | (simp only [hji9] at H ⊢; exact H)
            (try rw [hji9] at A5)
            have hji9w : (IntKind.i64.wrap ((l1.length : Int) + 1)) = ji9 := (i64_w _).trans hji9
            by_cases c10 : 0 ≤ (ji9)
            · rw [if_pos c10] at H
              have c10b0 : decide (0 ≤ (ji9)) = true := decide_eq_true c10
              clear c10
              by_cases c11 : (ji9) < (l0.length : Int)
              · rw [if_pos c11] at H
                have c11b0 : decide ((ji9) < (l0.length : Int)) = true := decide_eq_true c11
                clear c11
                obtain rfl := Option.some.inj H
                have q12 : ((l1.length : Int) : Int) ≤ ((l0.length : Int) : Int) := of_decide_eq_true (by first | (with_reducible assumption) | assumption)
                obtain ⟨i012, hi012, _, hsz12, _⟩ := info_parts info29
                have hroom12 : l0.length ≤ c0 := HC0.out
                have hC12 : Kd.C k29 _ A0 l0.length l0 := HR0.out
                have hcut12 := cut_to (P := Try.prog) 30 29 .i64 Try.underlying30 hi012 A0 l0.length c0 (l1.length : Int) (of_decide_eq_true (by first | (with_reducible assumption) | assumption)) q12 hroom12
                have hr12 := Kd.C_take (m := ((l1.length : Int) : Int).toNat) hC12 (by omega)
                have hy12 : y188.length = ((l1.length : Int) : Int).toNat := (by rw [Ny188.out, List.length_take]; omega)
                rw [← Ny188.out] at hr12
                rw [← hy12] at hcut12
                have HR191 := Aside0.mk hr12
                have HC191 := Aside0.mk (show y188.length ≤ c0 from by omega)
                clear hr12 hC12 hroom12 hi012 hsz12
                have KY12 := Aside0.mk hy12
                clear hy12
                replace q12 := eq_true q12
                go_enter Try.func23, Try.ntmps23
                go_wp2_with (first | ((with_reducible refine gate_callee (f := 56) rfl ?_); refine goesL_ (some 12) rfl rfl Try.func56 (by kernel_rfl) rfl #[.slice A0 y188.length c0, .slice A1 l1.length c1] rfl (by (try simp only [List.map_toArray, List.map_cons, List.map_nil]); first | done | rfl | (simp only [List.length_drop, List.length_take]; rfl) | (simp only [Int.ofNat_lt, Int.ofNat_le]; done) | (simp only [Int.ofNat_lt, Int.ofNat_le]; rfl)) ?_; (with_reducible refine (relstorelaw_sameValues.calls k _ _ y188 _ _ l1 true _ ?side1 ?side2 ?side3 ?side4 A5.out).mono ?_); (case side1 => repeat (first | exact HR191.out | (with_reducible refine Kd.C_alloc ?_ _) | (with_reducible refine Kd.C_drewN ?_ _) | (with_reducible refine Kd.C_drew ?_))); (case side2 => exact HC191.out); (case side3 => repeat (first | exact HR1.out | (with_reducible refine Kd.C_alloc ?_ _) | (with_reducible refine Kd.C_drewN ?_ _) | (with_reducible refine Kd.C_drew ?_))); (case side4 => exact HC1.out); rintro e w13 ⟨rfl, hb⟩; refine ⟨_, rfl, ?_⟩; have n0_ := Aside0.mk (below_step (by repeat (first | (with_reducible first | exact HB.out | apply below_alloc | apply pw_below_drewN | apply below_drew1) | exact HB.out)) hb); clear HB; have HB := n0_; clear n0_; (try clear hb); (try clear hb2); (try clear hk); (try clear hi); have p193 : 0 ≤ ((l1.length : Int) : Int) := of_decide_eq_true (by first | (with_reducible assumption) | assumption); have q193 : (l1.length : Int) < (l0.length : Int) := of_decide_eq_true (by first | (with_reducible assumption) | assumption); obtain ⟨ad193, e193, hx193_0, hx193_1, hx193_2⟩ := at_T29 HR0.out (l1.length : Int) p193 q193; cases e193; replace hx193_0 := (HB.out.cell (World.block_lt_of_cell? w _ hx193_0)).trans hx193_0; replace hx193_1 := (HB.out.cell (World.block_lt_of_cell? w _ hx193_1)).trans hx193_1; replace hx193_2 := (HB.out.cell (World.block_lt_of_cell? w _ hx193_2)).trans hx193_2; (try simp only [Go.IntWalk.toNatUp] at hx193_0); (try simp only [Go.IntWalk.toNatUp] at hx193_1); (try simp only [Go.IntWalk.toNatUp] at hx193_2); replace p193 := eq_true p193; replace q193 := eq_true q193; have p194 : 0 ≤ ((ji9) : Int) := of_decide_eq_true (by first | (with_reducible assumption) | assumption); have q194 : (ji9) < (l0.length : Int) := of_decide_eq_true (by first | (with_reducible assumption) | assumption); obtain ⟨ad194, e194, hx194_0, hx194_1, hx194_2⟩ := at_T29 HR0.out (ji9) p194 q194; obtain rfl : ad193 = ad194 := (by injection e194); replace hx194_0 := (HB.out.cell (World.block_lt_of_cell? w _ hx194_0)).trans hx194_0; replace hx194_1 := (HB.out.cell (World.block_lt_of_cell? w _ hx194_1)).trans hx194_1; replace hx194_2 := (HB.out.cell (World.block_lt_of_cell? w _ hx194_2)).trans hx194_2; replace p194 := eq_true p194; replace q194 := eq_true q194))
                go_ret
                exact ⟨by first | rfl | (simp [errW_none, errW_some] <;> rfl) | (simp only [← hji9]; first | rfl | (simp [errW_none, errW_some] <;> rfl)) | (simp [*, errW_none, errW_some] <;> rfl), by repeat (first | (with_reducible first | exact HB.out | apply below_alloc | apply pw_below_drewN | apply below_drew1) | exact HB.out)⟩
              · rw [if_neg c11] at H
                exact absurd H (by simp)
            · rw [if_neg c10] at H
              exact absurd H (by simp)
          · rw [if_neg c8] at H
            have c8b0 : (((rd_T29 l0 (l1.length : Int)).f0) == 9 && (((rd_T29 l0 (l1.length : Int)).f1) == 7 && ((((rd_T29 l0 (l1.length : Int)).f2).toList) == ([] : List UInt8)))) = false := by simpa using c8
            (try (have c8b1 : ¬ (((rd_T29 l0 (l1.length : Int)).f0) = 9 ∧ ((rd_T29 l0 (l1.length : Int)).f1) = 7 ∧ (((rd_T29 l0 (l1.length : Int)).f2).toList) = ([] : List UInt8)) := by simpa using c8))
            (try (have c8b2 : decide (((rd_T29 l0 (l1.length : Int)).f0) = 9 && (((rd_T29 l0 (l1.length : Int)).f1) == 7 && ((((rd_T29 l0 (l1.length : Int)).f2).toList) == ([] : List UInt8)))) = false := by simpa using c8))
            (try (have c8b3 : (((rd_T29 l0 (l1.length : Int)).f0) == 9 && (((rd_T29 l0 (l1.length : Int)).f1) == 7 && ((((rd_T29 l0 (l1.length : Int)).f2).toList) == ([] : List UInt8)))) = false := by simpa using c8))
            (try (have c8b4 : ¬ (((rd_T29 l0 (l1.length : Int)).f0) = 9 && (((rd_T29 l0 (l1.length : Int)).f1) == 7 && ((((rd_T29 l0 (l1.length : Int)).f2).toList) == ([] : List UInt8)))) := by simpa using c8))
            (try (have c8b5 : (!((rd_T29 l0 (l1.length : Int)).f0) == 9 && (((rd_T29 l0 (l1.length : Int)).f1) == 7 && ((((rd_T29 l0 (l1.length : Int)).f2).toList) == ([] : List UInt8)))) = true := by (have z_ := c8; revert z_; generalize (((rd_T29 l0 (l1.length : Int)).f0)) = p_; generalize (9 && (((rd_T29 l0 (l1.length : Int)).f1) == 7 && ((((rd_T29 l0 (l1.length : Int)).f2).toList) == ([] : List UInt8)))) = q_; revert p_ q_; decide)))
            clear c8
            obtain rfl := Option.some.inj H
            have q14 : ((l1.length : Int) : Int) ≤ ((l0.length : Int) : Int) := of_decide_eq_true (by first | (with_reducible assumption) | assumption)
            obtain ⟨i014, hi014, _, hsz14, _⟩ := info_parts info29
            have hroom14 : l0.length ≤ c0 := HC0.out
            have hC14 : Kd.C k29 _ A0 l0.length l0 := HR0.out
            have hcut14 := cut_to (P := Try.prog) 30 29 .i64 Try.underlying30 hi014 A0 l0.length c0 (l1.length : Int) (of_decide_eq_true (by first | (with_reducible assumption) | assumption)) q14 hroom14
            have hr14 := Kd.C_take (m := ((l1.length : Int) : Int).toNat) hC14 (by omega)
            have hy14 : y188.length = ((l1.length : Int) : Int).toNat := (by rw [Ny188.out, List.length_take]; omega)
            rw [← Ny188.out] at hr14
            rw [← hy14] at hcut14
            have HR191 := Aside0.mk hr14
            have HC191 := Aside0.mk (show y188.length ≤ c0 from by omega)
            clear hr14 hC14 hroom14 hi014 hsz14
            have KY14 := Aside0.mk hy14
            clear hy14
            replace q14 := eq_true q14
            go_enter Try.func23, Try.ntmps23
            go_wp2_with (first | ((with_reducible refine gate_callee (f := 56) rfl ?_); refine goesL_ (some 12) rfl rfl Try.func56 (by kernel_rfl) rfl #[.slice A0 y188.length c0, .slice A1 l1.length c1] rfl (by (try simp only [List.map_toArray, List.map_cons, List.map_nil]); first | done | rfl | (simp only [List.length_drop, List.length_take]; rfl) | (simp only [Int.ofNat_lt, Int.ofNat_le]; done) | (simp only [Int.ofNat_lt, Int.ofNat_le]; rfl)) ?_; (with_reducible refine (relstorelaw_sameValues.calls k _ _ y188 _ _ l1 true _ ?side1 ?side2 ?side3 ?side4 A5.out).mono ?_); (case side1 => repeat (first | exact HR191.out | (with_reducible refine Kd.C_alloc ?_ _) | (with_reducible refine Kd.C_drewN ?_ _) | (with_reducible refine Kd.C_drew ?_))); (case side2 => exact HC191.out); (case side3 => repeat (first | exact HR1.out | (with_reducible refine Kd.C_alloc ?_ _) | (with_reducible refine Kd.C_drewN ?_ _) | (with_reducible refine Kd.C_drew ?_))); (case side4 => exact HC1.out); rintro e w15 ⟨rfl, hb⟩; refine ⟨_, rfl, ?_⟩; have n0_ := Aside0.mk (below_step (by repeat (first | (with_reducible first | exact HB.out | apply below_alloc | apply pw_below_drewN | apply below_drew1) | exact HB.out)) hb); clear HB; have HB := n0_; clear n0_; (try clear hb); (try clear hb2); (try clear hk); (try clear hi); have p193 : 0 ≤ ((l1.length : Int) : Int) := of_decide_eq_true (by first | (with_reducible assumption) | assumption); have q193 : (l1.length : Int) < (l0.length : Int) := of_decide_eq_true (by first | (with_reducible assumption) | assumption); obtain ⟨ad193, e193, hx193_0, hx193_1, hx193_2⟩ := at_T29 HR0.out (l1.length : Int) p193 q193; cases e193; replace hx193_0 := (HB.out.cell (World.block_lt_of_cell? w _ hx193_0)).trans hx193_0; replace hx193_1 := (HB.out.cell (World.block_lt_of_cell? w _ hx193_1)).trans hx193_1; replace hx193_2 := (HB.out.cell (World.block_lt_of_cell? w _ hx193_2)).trans hx193_2; (try simp only [Go.IntWalk.toNatUp] at hx193_0); (try simp only [Go.IntWalk.toNatUp] at hx193_1); (try simp only [Go.IntWalk.toNatUp] at hx193_2); replace p193 := eq_true p193; replace q193 := eq_true q193))
            go_ret
            exact ⟨by first | rfl | (simp [errW_none, errW_some] <;> rfl) | (simp [*, errW_none, errW_some] <;> rfl), by repeat (first | (with_reducible first | exact HB.out | apply below_alloc | apply pw_below_drewN | apply below_drew1) | exact HB.out)⟩
        · rw [if_neg c7] at H
          exact absurd H (by simp)
      · replace c6 := Bool.eq_false_iff.mpr c6
        subst c6
        have H1 : (some false) = some r := by rw [if_neg (show ¬ (false = true) by decide)] at H; exact H
        clear H
        have H := H1
        clear H1
        obtain rfl := Option.some.inj H
        have q16 : ((l1.length : Int) : Int) ≤ ((l0.length : Int) : Int) := of_decide_eq_true (by first | (with_reducible assumption) | assumption)
        obtain ⟨i016, hi016, _, hsz16, _⟩ := info_parts info29
        have hroom16 : l0.length ≤ c0 := HC0.out
        have hC16 : Kd.C k29 _ A0 l0.length l0 := HR0.out
        have hcut16 := cut_to (P := Try.prog) 30 29 .i64 Try.underlying30 hi016 A0 l0.length c0 (l1.length : Int) (of_decide_eq_true (by first | (with_reducible assumption) | assumption)) q16 hroom16
        have hr16 := Kd.C_take (m := ((l1.length : Int) : Int).toNat) hC16 (by omega)
        have hy16 : y188.length = ((l1.length : Int) : Int).toNat := (by rw [Ny188.out, List.length_take]; omega)
        rw [← Ny188.out] at hr16
        rw [← hy16] at hcut16
        have HR191 := Aside0.mk hr16
        have HC191 := Aside0.mk (show y188.length ≤ c0 from by omega)
        clear hr16 hC16 hroom16 hi016 hsz16
        have KY16 := Aside0.mk hy16
        clear hy16
        replace q16 := eq_true q16
        go_enter Try.func23, Try.ntmps23
        go_wp2_with (first | ((with_reducible refine gate_callee (f := 56) rfl ?_); refine goesL_ (some 12) rfl rfl Try.func56 (by kernel_rfl) rfl #[.slice A0 y188.length c0, .slice A1 l1.length c1] rfl (by (try simp only [List.map_toArray, List.map_cons, List.map_nil]); first | done | rfl | (simp only [List.length_drop, List.length_take]; rfl) | (simp only [Int.ofNat_lt, Int.ofNat_le]; done) | (simp only [Int.ofNat_lt, Int.ofNat_le]; rfl)) ?_; (with_reducible refine (relstorelaw_sameValues.calls k _ _ y188 _ _ l1 false _ ?side1 ?side2 ?side3 ?side4 A5.out).mono ?_); (case side1 => repeat (first | exact HR191.out | (with_reducible refine Kd.C_alloc ?_ _) | (with_reducible refine Kd.C_drewN ?_ _) | (with_reducible refine Kd.C_drew ?_))); (case side2 => exact HC191.out); (case side3 => repeat (first | exact HR1.out | (with_reducible refine Kd.C_alloc ?_ _) | (with_reducible refine Kd.C_drewN ?_ _) | (with_reducible refine Kd.C_drew ?_))); (case side4 => exact HC1.out); rintro e w17 ⟨rfl, hb⟩; refine ⟨_, rfl, ?_⟩; have n0_ := Aside0.mk (below_step (by repeat (first | (with_reducible first | exact HB.out | apply below_alloc | apply pw_below_drewN | apply below_drew1) | exact HB.out)) hb); clear HB; have HB := n0_; clear n0_; (try clear hb); (try clear hb2); (try clear hk); (try clear hi)))
        go_ret
        exact ⟨by first | rfl | (simp [errW_none, errW_some] <;> rfl) | (simp [*, errW_none, errW_some] <;> rfl), by repeat (first | (with_reducible first | exact HB.out | apply below_alloc | apply pw_below_drewN | apply below_drew1) | exact HB.out)⟩
    · rw [if_neg c4] at H
      exact absurd H (by simp)
  · rw [if_neg c3] at H
    exact absurd H (by simp)

end Go.Proofs.Ythaoaaboempajaa.QValueOrders
