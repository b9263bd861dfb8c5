-- PRINTED BY print.sh 35421559b90ae4d0a3588c463048766b98c2df88dd9212a6774a882060cdf62d: not written by this session
import Derived.Test.YthaoaaboempajaaPNamesx0
namespace Go.Proofs.Ythaoaaboempajaa.PNames
open Go.RowKit Go.Proofs.YthaoaaboempajaaW.PrintWords Go.Proofs.YthaoaaboempajaaW.PrintLast Go.Proofs.YthaoaaboempajaaW.PrintMore
attribute [local go_sem] max2_int min2_int max_two min_two max_three min_three max_four min_four   -- for this text's walks alone
set_option linter.unusedVariables false
set_option linter.unusedSimpArgs false

/-! ### relstorelaw_num: function 15 -/
def relstorelaw_num.f (a0 : Int) : Option (Int) := some a0
set_option maxHeartbeats 8000000 in
set_option maxRecDepth 100000 in
theorem relstorelaw_num.calls (a0 : Int) (r : Int) (w : World) (h : relstorelaw_num.f a0 = some r) :
    Calls Try.prog 15 #[.int .i64 a0] w fun e w' => e = .returned (.int .i64 r) ∧ Drawn0 w w' := by
  have H : (some a0) = some r := h
  clear h
  obtain rfl := Option.some.inj H
  go_enter Try.func15, Try.ntmps15
  go_wp2
  go_ret
  exact ⟨by first | rfl | (simp; done) | (simp [*]; done), by repeat (first | exact Drawn0.refl _ | apply Drawn0.step)⟩

/-! ### relstorelaw_sizes: function 16 -/
def relstorelaw_sizes.f  : Option (Bool) := some true
set_option maxHeartbeats 8000000 in
set_option maxRecDepth 100000 in
theorem relstorelaw_sizes.calls  (r : Bool) (w : World) (h : relstorelaw_sizes.f  = some r) :
    Calls Try.prog 16 #[] w fun e w' => e = .returned (.bool r) ∧ Drawn0 w w' := by
  have H : (some true) = some r := h
  clear h
  obtain rfl := Option.some.inj H
  go_enter Try.func16, Try.ntmps16
  go_wp2
  go_ret
  exact ⟨by first | rfl | (simp; done) | (simp [*]; done), by repeat (first | exact Drawn0.refl _ | apply Drawn0.step)⟩

/-! ### relstorelaw_Names: function 3 -/
mutual
def relstorelaw_Names.j0 : Nat → Int → Int → Int → Int → Int → Int → Int → Int → Int → Int → Int → Int → Int → Bool → Option (Bool)
  | 0, _, _, _, _, _, _, _, _, _, _, _, _, _, _ => none
  | k + 1, x7, x8, x9, x10, x11, x12, x13, x14, x15, x16, x17, x18, x19, x48 => if x48 = true then (some false) else ((relstorelaw_num.f x7).bind fun t107 => (if t107 = 6 then ((relstorelaw_num.f x8).bind fun t108 => (if t108 = 7 then ((relstorelaw_num.f x9).bind fun t109 => (if t109 = 8 then ((relstorelaw_num.f x10).bind fun t110 => (if t110 = 9 then ((relstorelaw_num.f x11).bind fun t111 => (if t111 = 10 then ((relstorelaw_num.f x12).bind fun t112 => (relstorelaw_Names.j1 k x13 x14 x15 x16 x17 x18 x19 (t112 != 11))) else (relstorelaw_Names.j1 k x13 x14 x15 x16 x17 x18 x19 true))) else (relstorelaw_Names.j1 k x13 x14 x15 x16 x17 x18 x19 true))) else (relstorelaw_Names.j1 k x13 x14 x15 x16 x17 x18 x19 true))) else (relstorelaw_Names.j1 k x13 x14 x15 x16 x17 x18 x19 true))) else (relstorelaw_Names.j1 k x13 x14 x15 x16 x17 x18 x19 true)))
def relstorelaw_Names.j1 : Nat → Int → Int → Int → Int → Int → Int → Int → Bool → Option (Bool)
  | 0, _, _, _, _, _, _, _, _ => none
  | k + 1, x13, x14, x15, x16, x17, x18, x19, x76 => if x76 = true then (some false) else ((relstorelaw_num.f x13).bind fun t113 => (if t113 = 12 then ((relstorelaw_num.f x14).bind fun t114 => (if t114 = 13 then ((relstorelaw_num.f x15).bind fun t115 => (if t115 = 14 then ((relstorelaw_num.f x16).bind fun t116 => (if t116 = 15 then ((relstorelaw_num.f x17).bind fun t117 => (if t117 = 16 then ((relstorelaw_num.f x18).bind fun t118 => (relstorelaw_Names.j2 k x19 (t118 != 17))) else (relstorelaw_Names.j2 k x19 true))) else (relstorelaw_Names.j2 k x19 true))) else (relstorelaw_Names.j2 k x19 true))) else (relstorelaw_Names.j2 k x19 true))) else (relstorelaw_Names.j2 k x19 true)))
def relstorelaw_Names.j2 : Nat → Int → Bool → Option (Bool)
  | 0, _, _ => none
  | k + 1, x19, x104 => if x104 = true then (some false) else ((relstorelaw_num.f x19).bind fun t119 => (if t119 = 18 then ((relstorelaw_sizes.f).bind fun t120 => (some t120)) else (some false)))
end
def relstorelaw_Names.f (k : Nat)  : Option (Bool) := (relstorelaw_num.f 0).bind fun t101 => (if t101 = 0 then ((relstorelaw_num.f 1).bind fun t102 => (if t102 = 1 then ((relstorelaw_num.f 2).bind fun t103 => (if t103 = 2 then ((relstorelaw_num.f 3).bind fun t104 => (if t104 = 3 then ((relstorelaw_num.f 4).bind fun t105 => (if t105 = 4 then ((relstorelaw_num.f 5).bind fun t106 => (relstorelaw_Names.j0 k 6 7 8 9 10 11 12 13 14 15 16 17 18 (t106 != 5))) else (relstorelaw_Names.j0 k 6 7 8 9 10 11 12 13 14 15 16 17 18 true))) else (relstorelaw_Names.j0 k 6 7 8 9 10 11 12 13 14 15 16 17 18 true))) else (relstorelaw_Names.j0 k 6 7 8 9 10 11 12 13 14 15 16 17 18 true))) else (relstorelaw_Names.j0 k 6 7 8 9 10 11 12 13 14 15 16 17 18 true))) else (relstorelaw_Names.j0 k 6 7 8 9 10 11 12 13 14 15 16 17 18 true))
theorem relstorelaw_Names.mono_l : ∀ k, (∀ y0 y1 y2 y3 y4 y5 y6 y7 y8 y9 y10 y11 y12 y13, LeO (relstorelaw_Names.j0 k y0 y1 y2 y3 y4 y5 y6 y7 y8 y9 y10 y11 y12 y13) (relstorelaw_Names.j0 (k + 1) y0 y1 y2 y3 y4 y5 y6 y7 y8 y9 y10 y11 y12 y13)) ∧ (∀ y0 y1 y2 y3 y4 y5 y6 y7, LeO (relstorelaw_Names.j1 k y0 y1 y2 y3 y4 y5 y6 y7) (relstorelaw_Names.j1 (k + 1) y0 y1 y2 y3 y4 y5 y6 y7)) ∧ (∀ y0 y1, LeO (relstorelaw_Names.j2 k y0 y1) (relstorelaw_Names.j2 (k + 1) y0 y1))
  | 0 => ⟨fun _ _ _ _ _ _ _ _ _ _ _ _ _ _ r h => by simp [relstorelaw_Names.j0] at h, fun _ _ _ _ _ _ _ _ r h => by simp [relstorelaw_Names.j1] at h, fun _ _ r h => by simp [relstorelaw_Names.j2] at h⟩
  | k + 1 => by
    obtain ⟨ih0, ih1, ih2⟩ := relstorelaw_Names.mono_l k
    refine ⟨?_, ?_, ?_⟩
    · intro y0 y1 y2 y3 y4 y5 y6 y7 y8 y9 y10 y11 y12 y13
      unfold relstorelaw_Names.j0
      repeat' first
      | (with_reducible exact ih0 _ _ _ _ _ _ _ _ _ _ _ _ _ _)
      | (with_reducible exact ih1 _ _ _ _ _ _ _ _)
      | (with_reducible exact ih2 _ _)
      | (with_reducible exact LeO.refl _)
      | (with_reducible exact LeO.none _)
      | (with_reducible refine LeO.ite ?_ ?_)
      | (with_reducible refine LeO.bind ?_ (fun _ => ?_))
      | exact ih0 _ _ _ _ _ _ _ _ _ _ _ _ _ _
      | exact ih1 _ _ _ _ _ _ _ _
      | exact ih2 _ _
      | exact LeO.none _
      | refine LeO.ite ?_ ?_
      | refine LeO.bind ?_ (fun _ => ?_)
    · intro y0 y1 y2 y3 y4 y5 y6 y7
      unfold relstorelaw_Names.j1
      repeat' first
      | (with_reducible exact ih0 _ _ _ _ _ _ _ _ _ _ _ _ _ _)
      | (with_reducible exact ih1 _ _ _ _ _ _ _ _)
      | (with_reducible exact ih2 _ _)
      | (with_reducible exact LeO.refl _)
      | (with_reducible exact LeO.none _)
      | (with_reducible refine LeO.ite ?_ ?_)
      | (with_reducible refine LeO.bind ?_ (fun _ => ?_))
      | exact ih0 _ _ _ _ _ _ _ _ _ _ _ _ _ _
      | exact ih1 _ _ _ _ _ _ _ _
      | exact ih2 _ _
      | exact LeO.none _
      | refine LeO.ite ?_ ?_
      | refine LeO.bind ?_ (fun _ => ?_)
    · intro y0 y1
      unfold relstorelaw_Names.j2
      repeat' first
      | (with_reducible exact ih0 _ _ _ _ _ _ _ _ _ _ _ _ _ _)
      | (with_reducible exact ih1 _ _ _ _ _ _ _ _)
      | (with_reducible exact ih2 _ _)
      | (with_reducible exact LeO.refl _)
      | (with_reducible exact LeO.none _)
      | (with_reducible refine LeO.ite ?_ ?_)
      | (with_reducible refine LeO.bind ?_ (fun _ => ?_))
      | exact ih0 _ _ _ _ _ _ _ _ _ _ _ _ _ _
      | exact ih1 _ _ _ _ _ _ _ _
      | exact ih2 _ _
      | exact LeO.none _
      | refine LeO.ite ?_ ?_
      | refine LeO.bind ?_ (fun _ => ?_)
theorem relstorelaw_Names.mono : ∀ k, LeO (relstorelaw_Names.f k ) (relstorelaw_Names.f (k + 1) ) := by
  intro  k
  obtain ⟨ih0, ih1, ih2⟩ := relstorelaw_Names.mono_l k
  unfold relstorelaw_Names.f
  repeat' first
      | (with_reducible exact ih0 _ _ _ _ _ _ _ _ _ _ _ _ _ _)
      | (with_reducible exact ih1 _ _ _ _ _ _ _ _)
      | (with_reducible exact ih2 _ _)
      | (with_reducible exact LeO.refl _)
      | (with_reducible exact LeO.none _)
      | (with_reducible refine LeO.ite ?_ ?_)
      | (with_reducible refine LeO.bind ?_ (fun _ => ?_))
      | exact ih0 _ _ _ _ _ _ _ _ _ _ _ _ _ _
      | exact ih1 _ _ _ _ _ _ _ _
      | exact ih2 _ _
      | exact LeO.none _
      | refine LeO.ite ?_ ?_
      | refine LeO.bind ?_ (fun _ => ?_)
set_option maxHeartbeats 8000000 in
set_option maxRecDepth 100000 in
theorem relstorelaw_Names.calls (k : Nat)  (r : Bool) (w : World) (h : relstorelaw_Names.f k  = some r) :
    Calls Try.prog 3 #[] w fun e w' => e = .returned (.bool r) ∧ Drawn0 w w' := by
  have H : ((relstorelaw_num.f 0).bind fun t101 => (if t101 = 0 then ((relstorelaw_num.f 1).bind fun t102 => (if t102 = 1 then ((relstorelaw_num.f 2).bind fun t103 => (if t103 = 2 then ((relstorelaw_num.f 3).bind fun t104 => (if t104 = 3 then ((relstorelaw_num.f 4).bind fun t105 => (if t105 = 4 then ((relstorelaw_num.f 5).bind fun t106 => (relstorelaw_Names.j0 k 6 7 8 9 10 11 12 13 14 15 16 17 18 (t106 != 5))) else (relstorelaw_Names.j0 k 6 7 8 9 10 11 12 13 14 15 16 17 18 true))) else (relstorelaw_Names.j0 k 6 7 8 9 10 11 12 13 14 15 16 17 18 true))) else (relstorelaw_Names.j0 k 6 7 8 9 10 11 12 13 14 15 16 17 18 true))) else (relstorelaw_Names.j0 k 6 7 8 9 10 11 12 13 14 15 16 17 18 true))) else (relstorelaw_Names.j0 k 6 7 8 9 10 11 12 13 14 15 16 17 18 true))) = some r := h
  clear h
  have HC1 := Aside0.mk H
  clear H
  go_enter Try.func3, Try.ntmps3
  go_upto_region 24 with (fail)
  go_cut [48] (fun v48 wc => ∃ (kq : Nat) (x48_0 : Bool), v48 = .bool x48_0 ∧ Aside0 (relstorelaw_Names.j0 kq 6 7 8 9 10 11 12 13 14 15 16 17 18 x48_0 = some r) ∧ Aside0 (kq ≤ k) ∧ Drawn0 w wc)
  case first =>
    have H := HC1.out
    clear HC1
    replace H := Option.bind_eq_some_iff.mp H
    obtain ⟨t101, A20, H⟩ := H
    replace H : (if t101 = 0 then ((relstorelaw_num.f 1).bind fun t102 => (if t102 = 1 then ((relstorelaw_num.f 2).bind fun t103 => (if t103 = 2 then ((relstorelaw_num.f 3).bind fun t104 => (if t104 = 3 then ((relstorelaw_num.f 4).bind fun t105 => (if t105 = 4 then ((relstorelaw_num.f 5).bind fun t106 => (relstorelaw_Names.j0 k 6 7 8 9 10 11 12 13 14 15 16 17 18 (t106 != 5))) else (relstorelaw_Names.j0 k 6 7 8 9 10 11 12 13 14 15 16 17 18 true))) else (relstorelaw_Names.j0 k 6 7 8 9 10 11 12 13 14 15 16 17 18 true))) else (relstorelaw_Names.j0 k 6 7 8 9 10 11 12 13 14 15 16 17 18 true))) else (relstorelaw_Names.j0 k 6 7 8 9 10 11 12 13 14 15 16 17 18 true))) else (relstorelaw_Names.j0 k 6 7 8 9 10 11 12 13 14 15 16 17 18 true)) = some r := H
    have A2 := Aside0.mk A20
    clear A20
    by_cases c3 : t101 = 0
    · rw [if_pos c3] at H
      have c3b0 : (t101 == 0) = true := beq_iff_eq.mpr c3
      have c3b1 : (t101 != 0) = false := bne_eq_false_iff_eq.mpr c3
      clear c3
      (first | rw [c3b0] | (simp only [i64_w, i32_w]; rw [c3b0]) | skip)
      replace H := Option.bind_eq_some_iff.mp H
      obtain ⟨t102, A40, H⟩ := H
      replace H : (if t102 = 1 then ((relstorelaw_num.f 2).bind fun t103 => (if t103 = 2 then ((relstorelaw_num.f 3).bind fun t104 => (if t104 = 3 then ((relstorelaw_num.f 4).bind fun t105 => (if t105 = 4 then ((relstorelaw_num.f 5).bind fun t106 => (relstorelaw_Names.j0 k 6 7 8 9 10 11 12 13 14 15 16 17 18 (t106 != 5))) else (relstorelaw_Names.j0 k 6 7 8 9 10 11 12 13 14 15 16 17 18 true))) else (relstorelaw_Names.j0 k 6 7 8 9 10 11 12 13 14 15 16 17 18 true))) else (relstorelaw_Names.j0 k 6 7 8 9 10 11 12 13 14 15 16 17 18 true))) else (relstorelaw_Names.j0 k 6 7 8 9 10 11 12 13 14 15 16 17 18 true)) = some r := H
      have A4 := Aside0.mk A40
      clear A40
      by_cases c5 : t102 = 1
      · rw [if_pos c5] at H
        have c5b0 : (t102 == 1) = true := beq_iff_eq.mpr c5
        have c5b1 : (t102 != 1) = false := bne_eq_false_iff_eq.mpr c5
        clear c5
        replace H := Option.bind_eq_some_iff.mp H
        obtain ⟨t103, A60, H⟩ := H
        replace H : (if t103 = 2 then ((relstorelaw_num.f 3).bind fun t104 => (if t104 = 3 then ((relstorelaw_num.f 4).bind fun t105 => (if t105 = 4 then ((relstorelaw_num.f 5).bind fun t106 => (relstorelaw_Names.j0 k 6 7 8 9 10 11 12 13 14 15 16 17 18 (t106 != 5))) else (relstorelaw_Names.j0 k 6 7 8 9 10 11 12 13 14 15 16 17 18 true))) else (relstorelaw_Names.j0 k 6 7 8 9 10 11 12 13 14 15 16 17 18 true))) else (relstorelaw_Names.j0 k 6 7 8 9 10 11 12 13 14 15 16 17 18 true)) = some r := H
        have A6 := Aside0.mk A60
        clear A60
        by_cases c7 : t103 = 2
        · rw [if_pos c7] at H
          have c7b0 : (t103 == 2) = true := beq_iff_eq.mpr c7
          have c7b1 : (t103 != 2) = false := bne_eq_false_iff_eq.mpr c7
          clear c7
          replace H := Option.bind_eq_some_iff.mp H
          obtain ⟨t104, A80, H⟩ := H
          replace H : (if t104 = 3 then ((relstorelaw_num.f 4).bind fun t105 => (if t105 = 4 then ((relstorelaw_num.f 5).bind fun t106 => (relstorelaw_Names.j0 k 6 7 8 9 10 11 12 13 14 15 16 17 18 (t106 != 5))) else (relstorelaw_Names.j0 k 6 7 8 9 10 11 12 13 14 15 16 17 18 true))) else (relstorelaw_Names.j0 k 6 7 8 9 10 11 12 13 14 15 16 17 18 true)) = some r := H
          have A8 := Aside0.mk A80
          clear A80
          by_cases c9 : t104 = 3
          · rw [if_pos c9] at H
            have c9b0 : (t104 == 3) = true := beq_iff_eq.mpr c9
            have c9b1 : (t104 != 3) = false := bne_eq_false_iff_eq.mpr c9
            clear c9
            replace H := Option.bind_eq_some_iff.mp H
            obtain ⟨t105, A100, H⟩ := H
            replace H : (if t105 = 4 then ((relstorelaw_num.f 5).bind fun t106 => (relstorelaw_Names.j0 k 6 7 8 9 10 11 12 13 14 15 16 17 18 (t106 != 5))) else (relstorelaw_Names.j0 k 6 7 8 9 10 11 12 13 14 15 16 17 18 true)) = some r := H
            have A10 := Aside0.mk A100
            clear A100
            by_cases c11 : t105 = 4
            · rw [if_pos c11] at H
              have c11b0 : (t105 == 4) = true := beq_iff_eq.mpr c11
              have c11b1 : (t105 != 4) = false := bne_eq_false_iff_eq.mpr c11
              clear c11
              replace H := Option.bind_eq_some_iff.mp H
              obtain ⟨t106, A120, H⟩ := H
              replace H : (relstorelaw_Names.j0 k 6 7 8 9 10 11 12 13 14 15 16 17 18 (t106 != 5)) = some r := H
              have A12 := Aside0.mk A120
              clear A120
              have H' := Aside0.mk H
              clear H
              go_wp2_with (first | ((with_reducible refine gate_callee (f := 15) rfl ?_); refine goesL_ (some 22) rfl rfl Try.func15 (by kernel_rfl) rfl #[.int .i64 0] rfl (by (try simp only [List.map_toArray, List.map_cons, List.map_nil]); first | done | rfl | (simp only [List.length_drop, List.length_take]; rfl)) ?_; (with_reducible refine (relstorelaw_num.calls 0 t101 _ A2.out).mono ?_); rintro e w' ⟨rfl, ⟨nd, rfl⟩⟩; refine ⟨_, rfl, ?_⟩) | (go_at_call 15; (with_reducible refine (relstorelaw_num.calls 1 t102 _ A4.out).mono ?_); rintro e w' ⟨rfl, ⟨nd, rfl⟩⟩) | (go_at_call 15; (with_reducible refine (relstorelaw_num.calls 2 t103 _ A6.out).mono ?_); rintro e w' ⟨rfl, ⟨nd, rfl⟩⟩) | (go_at_call 15; (with_reducible refine (relstorelaw_num.calls 3 t104 _ A8.out).mono ?_); rintro e w' ⟨rfl, ⟨nd, rfl⟩⟩) | (go_at_call 15; (with_reducible refine (relstorelaw_num.calls 4 t105 _ A10.out).mono ?_); rintro e w' ⟨rfl, ⟨nd, rfl⟩⟩) | (go_at_call 15; (with_reducible refine (relstorelaw_num.calls 5 t106 _ A12.out).mono ?_); rintro e w' ⟨rfl, ⟨nd, rfl⟩⟩))
              go_meet
              case rel => exact ⟨_, ((t106 != 5)), (by first | rfl | (simp; done) | (simp [*]; done)), H', ⟨by first | omega | exact Nat.le_refl _⟩, by repeat (first | exact Drawn0.refl _ | apply Drawn0.step)⟩
            · rw [if_neg c11] at H
              have c11b0 : (t105 == 4) = false := beq_eq_false_iff_ne.mpr c11
              have c11b1 : (t105 != 4) = true := bne_iff_ne.mpr c11
              have H' := Aside0.mk H
              clear H
              go_wp2_with (first | ((with_reducible refine gate_callee (f := 15) rfl ?_); refine goesL_ (some 22) rfl rfl Try.func15 (by kernel_rfl) rfl #[.int .i64 0] rfl (by (try simp only [List.map_toArray, List.map_cons, List.map_nil]); first | done | rfl | (simp only [List.length_drop, List.length_take]; rfl)) ?_; (with_reducible refine (relstorelaw_num.calls 0 t101 _ A2.out).mono ?_); rintro e w' ⟨rfl, ⟨nd, rfl⟩⟩; refine ⟨_, rfl, ?_⟩) | (go_at_call 15; (with_reducible refine (relstorelaw_num.calls 1 t102 _ A4.out).mono ?_); rintro e w' ⟨rfl, ⟨nd, rfl⟩⟩) | (go_at_call 15; (with_reducible refine (relstorelaw_num.calls 2 t103 _ A6.out).mono ?_); rintro e w' ⟨rfl, ⟨nd, rfl⟩⟩) | (go_at_call 15; (with_reducible refine (relstorelaw_num.calls 3 t104 _ A8.out).mono ?_); rintro e w' ⟨rfl, ⟨nd, rfl⟩⟩) | (go_at_call 15; (with_reducible refine (relstorelaw_num.calls 4 t105 _ A10.out).mono ?_); rintro e w' ⟨rfl, ⟨nd, rfl⟩⟩))
              go_meet
              case rel => exact ⟨_, (true), (by first | rfl | (simp; done) | (simp [*]; done)), H', ⟨by first | omega | exact Nat.le_refl _⟩, by repeat (first | exact Drawn0.refl _ | apply Drawn0.step)⟩
          · rw [if_neg c9] at H
            have c9b0 : (t104 == 3) = false := beq_eq_false_iff_ne.mpr c9
            have c9b1 : (t104 != 3) = true := bne_iff_ne.mpr c9
            have H' := Aside0.mk H
            clear H
            go_wp2_with (first | ((with_reducible refine gate_callee (f := 15) rfl ?_); refine goesL_ (some 22) rfl rfl Try.func15 (by kernel_rfl) rfl #[.int .i64 0] rfl (by (try simp only [List.map_toArray, List.map_cons, List.map_nil]); first | done | rfl | (simp only [List.length_drop, List.length_take]; rfl)) ?_; (with_reducible refine (relstorelaw_num.calls 0 t101 _ A2.out).mono ?_); rintro e w' ⟨rfl, ⟨nd, rfl⟩⟩; refine ⟨_, rfl, ?_⟩) | (go_at_call 15; (with_reducible refine (relstorelaw_num.calls 1 t102 _ A4.out).mono ?_); rintro e w' ⟨rfl, ⟨nd, rfl⟩⟩) | (go_at_call 15; (with_reducible refine (relstorelaw_num.calls 2 t103 _ A6.out).mono ?_); rintro e w' ⟨rfl, ⟨nd, rfl⟩⟩) | (go_at_call 15; (with_reducible refine (relstorelaw_num.calls 3 t104 _ A8.out).mono ?_); rintro e w' ⟨rfl, ⟨nd, rfl⟩⟩))
            go_meet
            case rel => exact ⟨_, (true), (by first | rfl | (simp; done) | (simp [*]; done)), H', ⟨by first | omega | exact Nat.le_refl _⟩, by repeat (first | exact Drawn0.refl _ | apply Drawn0.step)⟩
        · rw [if_neg c7] at H
          have c7b0 : (t103 == 2) = false := beq_eq_false_iff_ne.mpr c7
          have c7b1 : (t103 != 2) = true := bne_iff_ne.mpr c7
          have H' := Aside0.mk H
          clear H
          go_wp2_with (first | ((with_reducible refine gate_callee (f := 15) rfl ?_); refine goesL_ (some 22) rfl rfl Try.func15 (by kernel_rfl) rfl #[.int .i64 0] rfl (by (try simp only [List.map_toArray, List.map_cons, List.map_nil]); first | done | rfl | (simp only [List.length_drop, List.length_take]; rfl)) ?_; (with_reducible refine (relstorelaw_num.calls 0 t101 _ A2.out).mono ?_); rintro e w' ⟨rfl, ⟨nd, rfl⟩⟩; refine ⟨_, rfl, ?_⟩) | (go_at_call 15; (with_reducible refine (relstorelaw_num.calls 1 t102 _ A4.out).mono ?_); rintro e w' ⟨rfl, ⟨nd, rfl⟩⟩) | (go_at_call 15; (with_reducible refine (relstorelaw_num.calls 2 t103 _ A6.out).mono ?_); rintro e w' ⟨rfl, ⟨nd, rfl⟩⟩))
          go_meet
          case rel => exact ⟨_, (true), (by first | rfl | (simp; done) | (simp [*]; done)), H', ⟨by first | omega | exact Nat.le_refl _⟩, by repeat (first | exact Drawn0.refl _ | apply Drawn0.step)⟩
      · rw [if_neg c5] at H
        have c5b0 : (t102 == 1) = false := beq_eq_false_iff_ne.mpr c5
        have c5b1 : (t102 != 1) = true := bne_iff_ne.mpr c5
        have H' := Aside0.mk H
        clear H
        go_wp2_with (first | ((with_reducible refine gate_callee (f := 15) rfl ?_); refine goesL_ (some 22) rfl rfl Try.func15 (by kernel_rfl) rfl #[.int .i64 0] rfl (by (try simp only [List.map_toArray, List.map_cons, List.map_nil]); first | done | rfl | (simp only [List.length_drop, List.length_take]; rfl)) ?_; (with_reducible refine (relstorelaw_num.calls 0 t101 _ A2.out).mono ?_); rintro e w' ⟨rfl, ⟨nd, rfl⟩⟩; refine ⟨_, rfl, ?_⟩) | (go_at_call 15; (with_reducible refine (relstorelaw_num.calls 1 t102 _ A4.out).mono ?_); rintro e w' ⟨rfl, ⟨nd, rfl⟩⟩))
        go_meet
        case rel => exact ⟨_, (true), (by first | rfl | (simp; done) | (simp [*]; done)), H', ⟨by first | omega | exact Nat.le_refl _⟩, by repeat (first | exact Drawn0.refl _ | apply Drawn0.step)⟩
    · rw [if_neg c3] at H
      have c3b0 : (t101 == 0) = false := beq_eq_false_iff_ne.mpr c3
      have c3b1 : (t101 != 0) = true := bne_iff_ne.mpr c3
      (first | rw [c3b0] | (simp only [i64_w, i32_w]; rw [c3b0]) | skip)
      have H' := Aside0.mk H
      clear H
      go_wp2_with (first | ((with_reducible refine gate_callee (f := 15) rfl ?_); refine goesL_ (some 22) rfl rfl Try.func15 (by kernel_rfl) rfl #[.int .i64 0] rfl (by (try simp only [List.map_toArray, List.map_cons, List.map_nil]); first | done | rfl | (simp only [List.length_drop, List.length_take]; rfl)) ?_; (with_reducible refine (relstorelaw_num.calls 0 t101 _ A2.out).mono ?_); rintro e w' ⟨rfl, ⟨nd, rfl⟩⟩; refine ⟨_, rfl, ?_⟩))
      go_meet
      case rel => exact ⟨_, (true), (by first | rfl | (simp; done) | (simp [*]; done)), H', ⟨by first | omega | exact Nat.le_refl _⟩, by repeat (first | exact Drawn0.refl _ | apply Drawn0.step)⟩
  case rest =>
    clear HC1
    try clear c1
    try clear p2
    try clear c3
    try clear c3b0
    try clear c3b1
    try clear c5
    try clear c5b0
    try clear c5b1
    try clear c7
    try clear c7b0
    try clear c7b1
    try clear c9
    try clear c9b0
    try clear c9b1
    try clear c11
    try clear c11b0
    try clear c11b1
    obtain ⟨kq, x48_0, rfl, HA, HJ0, ⟨mc0, rfl⟩⟩ := hcut
    cases kq with
    | zero => exact absurd HA.out (by simp [relstorelaw_Names.j0])
    | succ kj0 =>
      have H := HA.out
      clear HA
      simp only [relstorelaw_Names.j0] at H
      by_cases c13 : x48_0 = true
      · subst c13
        have H1 : (some false) = some r := by rw [if_pos rfl] at H; exact H
        clear H
        have H := H1
        clear H1
        obtain rfl := Option.some.inj H
        go_wp2
        go_ret
        exact ⟨by first | rfl | (simp; done) | (simp [*]; done), by repeat (first | exact Drawn0.refl _ | apply Drawn0.step)⟩
      · replace c13 := Bool.eq_false_iff.mpr c13
        subst c13
        have H1 : ((relstorelaw_num.f 6).bind fun t107 => (if t107 = 6 then ((relstorelaw_num.f 7).bind fun t108 => (if t108 = 7 then ((relstorelaw_num.f 8).bind fun t109 => (if t109 = 8 then ((relstorelaw_num.f 9).bind fun t110 => (if t110 = 9 then ((relstorelaw_num.f 10).bind fun t111 => (if t111 = 10 then ((relstorelaw_num.f 11).bind fun t112 => (relstorelaw_Names.j1 kj0 12 13 14 15 16 17 18 (t112 != 11))) else (relstorelaw_Names.j1 kj0 12 13 14 15 16 17 18 true))) else (relstorelaw_Names.j1 kj0 12 13 14 15 16 17 18 true))) else (relstorelaw_Names.j1 kj0 12 13 14 15 16 17 18 true))) else (relstorelaw_Names.j1 kj0 12 13 14 15 16 17 18 true))) else (relstorelaw_Names.j1 kj0 12 13 14 15 16 17 18 true))) = some r := by rw [if_neg (show ¬ (false = true) by decide)] at H; exact H
        clear H
        have H := H1
        clear H1
        have HC14 := Aside0.mk H
        clear H
        go_upto_region 26 with (fail)
        go_cut [76] (fun v76 wc => ∃ (kq : Nat) (x76_13 : Bool), v76 = .bool x76_13 ∧ Aside0 (relstorelaw_Names.j1 kq 12 13 14 15 16 17 18 x76_13 = some r) ∧ Aside0 (kq ≤ kj0) ∧ Drawn0 w wc)
        case first =>
          have H := HC14.out
          clear HC14
          replace H := Option.bind_eq_some_iff.mp H
          obtain ⟨t107, A150, H⟩ := H
          replace H : (if t107 = 6 then ((relstorelaw_num.f 7).bind fun t108 => (if t108 = 7 then ((relstorelaw_num.f 8).bind fun t109 => (if t109 = 8 then ((relstorelaw_num.f 9).bind fun t110 => (if t110 = 9 then ((relstorelaw_num.f 10).bind fun t111 => (if t111 = 10 then ((relstorelaw_num.f 11).bind fun t112 => (relstorelaw_Names.j1 kj0 12 13 14 15 16 17 18 (t112 != 11))) else (relstorelaw_Names.j1 kj0 12 13 14 15 16 17 18 true))) else (relstorelaw_Names.j1 kj0 12 13 14 15 16 17 18 true))) else (relstorelaw_Names.j1 kj0 12 13 14 15 16 17 18 true))) else (relstorelaw_Names.j1 kj0 12 13 14 15 16 17 18 true))) else (relstorelaw_Names.j1 kj0 12 13 14 15 16 17 18 true)) = some r := H
          have A15 := Aside0.mk A150
          clear A150
          by_cases c16 : t107 = 6
          · rw [if_pos c16] at H
            have c16b0 : (t107 == 6) = true := beq_iff_eq.mpr c16
            have c16b1 : (t107 != 6) = false := bne_eq_false_iff_eq.mpr c16
            clear c16
            (first | rw [c16b0] | (simp only [i64_w, i32_w]; rw [c16b0]) | skip)
            replace H := Option.bind_eq_some_iff.mp H
            obtain ⟨t108, A170, H⟩ := H
            replace H : (if t108 = 7 then ((relstorelaw_num.f 8).bind fun t109 => (if t109 = 8 then ((relstorelaw_num.f 9).bind fun t110 => (if t110 = 9 then ((relstorelaw_num.f 10).bind fun t111 => (if t111 = 10 then ((relstorelaw_num.f 11).bind fun t112 => (relstorelaw_Names.j1 kj0 12 13 14 15 16 17 18 (t112 != 11))) else (relstorelaw_Names.j1 kj0 12 13 14 15 16 17 18 true))) else (relstorelaw_Names.j1 kj0 12 13 14 15 16 17 18 true))) else (relstorelaw_Names.j1 kj0 12 13 14 15 16 17 18 true))) else (relstorelaw_Names.j1 kj0 12 13 14 15 16 17 18 true)) = some r := H
            have A17 := Aside0.mk A170
            clear A170
            by_cases c18 : t108 = 7
            · rw [if_pos c18] at H
              have c18b0 : (t108 == 7) = true := beq_iff_eq.mpr c18
              have c18b1 : (t108 != 7) = false := bne_eq_false_iff_eq.mpr c18
              clear c18
              replace H := Option.bind_eq_some_iff.mp H
              obtain ⟨t109, A190, H⟩ := H
              replace H : (if t109 = 8 then ((relstorelaw_num.f 9).bind fun t110 => (if t110 = 9 then ((relstorelaw_num.f 10).bind fun t111 => (if t111 = 10 then ((relstorelaw_num.f 11).bind fun t112 => (relstorelaw_Names.j1 kj0 12 13 14 15 16 17 18 (t112 != 11))) else (relstorelaw_Names.j1 kj0 12 13 14 15 16 17 18 true))) else (relstorelaw_Names.j1 kj0 12 13 14 15 16 17 18 true))) else (relstorelaw_Names.j1 kj0 12 13 14 15 16 17 18 true)) = some r := H
              have A19 := Aside0.mk A190
              clear A190
              by_cases c20 : t109 = 8
              · rw [if_pos c20] at H
                have c20b0 : (t109 == 8) = true := beq_iff_eq.mpr c20
                have c20b1 : (t109 != 8) = false := bne_eq_false_iff_eq.mpr c20
                clear c20
                replace H := Option.bind_eq_some_iff.mp H
                obtain ⟨t110, A210, H⟩ := H
                replace H : (if t110 = 9 then ((relstorelaw_num.f 10).bind fun t111 => (if t111 = 10 then ((relstorelaw_num.f 11).bind fun t112 => (relstorelaw_Names.j1 kj0 12 13 14 15 16 17 18 (t112 != 11))) else (relstorelaw_Names.j1 kj0 12 13 14 15 16 17 18 true))) else (relstorelaw_Names.j1 kj0 12 13 14 15 16 17 18 true)) = some r := H
                have A21 := Aside0.mk A210
                clear A210
                by_cases c22 : t110 = 9
                · rw [if_pos c22] at H
                  have c22b0 : (t110 == 9) = true := beq_iff_eq.mpr c22
                  have c22b1 : (t110 != 9) = false := bne_eq_false_iff_eq.mpr c22
                  clear c22
                  replace H := Option.bind_eq_some_iff.mp H
                  obtain ⟨t111, A230, H⟩ := H
                  replace H : (if t111 = 10 then ((relstorelaw_num.f 11).bind fun t112 => (relstorelaw_Names.j1 kj0 12 13 14 15 16 17 18 (t112 != 11))) else (relstorelaw_Names.j1 kj0 12 13 14 15 16 17 18 true)) = some r := H
                  have A23 := Aside0.mk A230
                  clear A230
                  by_cases c24 : t111 = 10
                  · rw [if_pos c24] at H
                    have c24b0 : (t111 == 10) = true := beq_iff_eq.mpr c24
                    have c24b1 : (t111 != 10) = false := bne_eq_false_iff_eq.mpr c24
                    clear c24
                    replace H := Option.bind_eq_some_iff.mp H
                    obtain ⟨t112, A250, H⟩ := H
                    replace H : (relstorelaw_Names.j1 kj0 12 13 14 15 16 17 18 (t112 != 11)) = some r := H
                    have A25 := Aside0.mk A250
                    clear A250
                    have H' := Aside0.mk H
                    clear H
                    go_wp2_with (first | ((with_reducible refine gate_callee (f := 15) rfl ?_); refine goesL_ (some 50) rfl rfl Try.func15 (by kernel_rfl) rfl #[.int .i64 6] rfl (by (try simp only [List.map_toArray, List.map_cons, List.map_nil]); first | done | rfl | (simp only [List.length_drop, List.length_take]; rfl)) ?_; (with_reducible refine (relstorelaw_num.calls 6 t107 _ A15.out).mono ?_); rintro e w' ⟨rfl, ⟨nd, rfl⟩⟩; refine ⟨_, rfl, ?_⟩) | (go_at_call 15; (with_reducible refine (relstorelaw_num.calls 7 t108 _ A17.out).mono ?_); rintro e w' ⟨rfl, ⟨nd, rfl⟩⟩) | (go_at_call 15; (with_reducible refine (relstorelaw_num.calls 8 t109 _ A19.out).mono ?_); rintro e w' ⟨rfl, ⟨nd, rfl⟩⟩) | (go_at_call 15; (with_reducible refine (relstorelaw_num.calls 9 t110 _ A21.out).mono ?_); rintro e w' ⟨rfl, ⟨nd, rfl⟩⟩) | (go_at_call 15; (with_reducible refine (relstorelaw_num.calls 10 t111 _ A23.out).mono ?_); rintro e w' ⟨rfl, ⟨nd, rfl⟩⟩) | (go_at_call 15; (with_reducible refine (relstorelaw_num.calls 11 t112 _ A25.out).mono ?_); rintro e w' ⟨rfl, ⟨nd, rfl⟩⟩))
                    go_meet
                    case rel => exact ⟨_, ((t112 != 11)), (by first | rfl | (simp; done) | (simp [*]; done)), H', ⟨by have := HJ0.out; first | omega | exact Nat.le_refl _⟩, by repeat (first | exact Drawn0.refl _ | apply Drawn0.step)⟩
                  · rw [if_neg c24] at H
                    have c24b0 : (t111 == 10) = false := beq_eq_false_iff_ne.mpr c24
                    have c24b1 : (t111 != 10) = true := bne_iff_ne.mpr c24
                    have H' := Aside0.mk H
                    clear H
                    go_wp2_with (first | ((with_reducible refine gate_callee (f := 15) rfl ?_); refine goesL_ (some 50) rfl rfl Try.func15 (by kernel_rfl) rfl #[.int .i64 6] rfl (by (try simp only [List.map_toArray, List.map_cons, List.map_nil]); first | done | rfl | (simp only [List.length_drop, List.length_take]; rfl)) ?_; (with_reducible refine (relstorelaw_num.calls 6 t107 _ A15.out).mono ?_); rintro e w' ⟨rfl, ⟨nd, rfl⟩⟩; refine ⟨_, rfl, ?_⟩) | (go_at_call 15; (with_reducible refine (relstorelaw_num.calls 7 t108 _ A17.out).mono ?_); rintro e w' ⟨rfl, ⟨nd, rfl⟩⟩) | (go_at_call 15; (with_reducible refine (relstorelaw_num.calls 8 t109 _ A19.out).mono ?_); rintro e w' ⟨rfl, ⟨nd, rfl⟩⟩) | (go_at_call 15; (with_reducible refine (relstorelaw_num.calls 9 t110 _ A21.out).mono ?_); rintro e w' ⟨rfl, ⟨nd, rfl⟩⟩) | (go_at_call 15; (with_reducible refine (relstorelaw_num.calls 10 t111 _ A23.out).mono ?_); rintro e w' ⟨rfl, ⟨nd, rfl⟩⟩))
                    go_meet
                    case rel => exact ⟨_, (true), (by first | rfl | (simp; done) | (simp [*]; done)), H', ⟨by have := HJ0.out; first | omega | exact Nat.le_refl _⟩, by repeat (first | exact Drawn0.refl _ | apply Drawn0.step)⟩
                · rw [if_neg c22] at H
                  have c22b0 : (t110 == 9) = false := beq_eq_false_iff_ne.mpr c22
                  have c22b1 : (t110 != 9) = true := bne_iff_ne.mpr c22
                  have H' := Aside0.mk H
                  clear H
                  go_wp2_with (first | ((with_reducible refine gate_callee (f := 15) rfl ?_); refine goesL_ (some 50) rfl rfl Try.func15 (by kernel_rfl) rfl #[.int .i64 6] rfl (by (try simp only [List.map_toArray, List.map_cons, List.map_nil]); first | done | rfl | (simp only [List.length_drop, List.length_take]; rfl)) ?_; (with_reducible refine (relstorelaw_num.calls 6 t107 _ A15.out).mono ?_); rintro e w' ⟨rfl, ⟨nd, rfl⟩⟩; refine ⟨_, rfl, ?_⟩) | (go_at_call 15; (with_reducible refine (relstorelaw_num.calls 7 t108 _ A17.out).mono ?_); rintro e w' ⟨rfl, ⟨nd, rfl⟩⟩) | (go_at_call 15; (with_reducible refine (relstorelaw_num.calls 8 t109 _ A19.out).mono ?_); rintro e w' ⟨rfl, ⟨nd, rfl⟩⟩) | (go_at_call 15; (with_reducible refine (relstorelaw_num.calls 9 t110 _ A21.out).mono ?_); rintro e w' ⟨rfl, ⟨nd, rfl⟩⟩))
                  go_meet
                  case rel => exact ⟨_, (true), (by first | rfl | (simp; done) | (simp [*]; done)), H', ⟨by have := HJ0.out; first | omega | exact Nat.le_refl _⟩, by repeat (first | exact Drawn0.refl _ | apply Drawn0.step)⟩
              · rw [if_neg c20] at H
                have c20b0 : (t109 == 8) = false := beq_eq_false_iff_ne.mpr c20
                have c20b1 : (t109 != 8) = true := bne_iff_ne.mpr c20
                have H' := Aside0.mk H
                clear H
                go_wp2_with (first | ((with_reducible refine gate_callee (f := 15) rfl ?_); refine goesL_ (some 50) rfl rfl Try.func15 (by kernel_rfl) rfl #[.int .i64 6] rfl (by (try simp only [List.map_toArray, List.map_cons, List.map_nil]); first | done | rfl | (simp only [List.length_drop, List.length_take]; rfl)) ?_; (with_reducible refine (relstorelaw_num.calls 6 t107 _ A15.out).mono ?_); rintro e w' ⟨rfl, ⟨nd, rfl⟩⟩; refine ⟨_, rfl, ?_⟩) | (go_at_call 15; (with_reducible refine (relstorelaw_num.calls 7 t108 _ A17.out).mono ?_); rintro e w' ⟨rfl, ⟨nd, rfl⟩⟩) | (go_at_call 15; (with_reducible refine (relstorelaw_num.calls 8 t109 _ A19.out).mono ?_); rintro e w' ⟨rfl, ⟨nd, rfl⟩⟩))
                go_meet
                case rel => exact ⟨_, (true), (by first | rfl | (simp; done) | (simp [*]; done)), H', ⟨by have := HJ0.out; first | omega | exact Nat.le_refl _⟩, by repeat (first | exact Drawn0.refl _ | apply Drawn0.step)⟩
            · rw [if_neg c18] at H
              have c18b0 : (t108 == 7) = false := beq_eq_false_iff_ne.mpr c18
              have c18b1 : (t108 != 7) = true := bne_iff_ne.mpr c18
              have H' := Aside0.mk H
              clear H
              go_wp2_with (first | ((with_reducible refine gate_callee (f := 15) rfl ?_); refine goesL_ (some 50) rfl rfl Try.func15 (by kernel_rfl) rfl #[.int .i64 6] rfl (by (try simp only [List.map_toArray, List.map_cons, List.map_nil]); first | done | rfl | (simp only [List.length_drop, List.length_take]; rfl)) ?_; (with_reducible refine (relstorelaw_num.calls 6 t107 _ A15.out).mono ?_); rintro e w' ⟨rfl, ⟨nd, rfl⟩⟩; refine ⟨_, rfl, ?_⟩) | (go_at_call 15; (with_reducible refine (relstorelaw_num.calls 7 t108 _ A17.out).mono ?_); rintro e w' ⟨rfl, ⟨nd, rfl⟩⟩))
              go_meet
              case rel => exact ⟨_, (true), (by first | rfl | (simp; done) | (simp [*]; done)), H', ⟨by have := HJ0.out; first | omega | exact Nat.le_refl _⟩, by repeat (first | exact Drawn0.refl _ | apply Drawn0.step)⟩
          · rw [if_neg c16] at H
            have c16b0 : (t107 == 6) = false := beq_eq_false_iff_ne.mpr c16
            have c16b1 : (t107 != 6) = true := bne_iff_ne.mpr c16
            (first | rw [c16b0] | (simp only [i64_w, i32_w]; rw [c16b0]) | skip)
            have H' := Aside0.mk H
            clear H
            go_wp2_with (first | ((with_reducible refine gate_callee (f := 15) rfl ?_); refine goesL_ (some 50) rfl rfl Try.func15 (by kernel_rfl) rfl #[.int .i64 6] rfl (by (try simp only [List.map_toArray, List.map_cons, List.map_nil]); first | done | rfl | (simp only [List.length_drop, List.length_take]; rfl)) ?_; (with_reducible refine (relstorelaw_num.calls 6 t107 _ A15.out).mono ?_); rintro e w' ⟨rfl, ⟨nd, rfl⟩⟩; refine ⟨_, rfl, ?_⟩))
            go_meet
            case rel => exact ⟨_, (true), (by first | rfl | (simp; done) | (simp [*]; done)), H', ⟨by have := HJ0.out; first | omega | exact Nat.le_refl _⟩, by repeat (first | exact Drawn0.refl _ | apply Drawn0.step)⟩
        case rest =>
          clear HC14
          try clear c1
          try clear c2
          try clear p2
          try clear c3
          try clear c3b0
          try clear c3b1
          try clear c5
          try clear c5b0
          try clear c5b1
          try clear c7
          try clear c7b0
          try clear c7b1
          try clear c9
          try clear c9b0
          try clear c9b1
          try clear c11
          try clear c11b0
          try clear c11b1
          try clear c13
          try clear c15
          try clear c16
          try clear c16b0
          try clear c16b1
          try clear c18
          try clear c18b0
          try clear c18b1
          try clear c20
          try clear c20b0
          try clear c20b1
          try clear c22
          try clear c22b0
          try clear c22b1
          try clear c24
          try clear c24b0
          try clear c24b1
          try clear p2
          obtain ⟨kq, x76_13, rfl, HA, HJ13, ⟨mc13, rfl⟩⟩ := hcut
          cases kq with
          | zero => exact absurd HA.out (by simp [relstorelaw_Names.j1])
          | succ kj13 =>
            have H := HA.out
            clear HA
            simp only [relstorelaw_Names.j1] at H
            by_cases c26 : x76_13 = true
            · subst c26
              have H1 : (some false) = some r := by rw [if_pos rfl] at H; exact H
              clear H
              have H := H1
              clear H1
              obtain rfl := Option.some.inj H
              go_wp2
              go_ret
              exact ⟨by first | rfl | (simp; done) | (simp [*]; done), by repeat (first | exact Drawn0.refl _ | apply Drawn0.step)⟩
            · replace c26 := Bool.eq_false_iff.mpr c26
              subst c26
              have H1 : ((relstorelaw_num.f 12).bind fun t113 => (if t113 = 12 then ((relstorelaw_num.f 13).bind fun t114 => (if t114 = 13 then ((relstorelaw_num.f 14).bind fun t115 => (if t115 = 14 then ((relstorelaw_num.f 15).bind fun t116 => (if t116 = 15 then ((relstorelaw_num.f 16).bind fun t117 => (if t117 = 16 then ((relstorelaw_num.f 17).bind fun t118 => (relstorelaw_Names.j2 kj13 18 (t118 != 17))) else (relstorelaw_Names.j2 kj13 18 true))) else (relstorelaw_Names.j2 kj13 18 true))) else (relstorelaw_Names.j2 kj13 18 true))) else (relstorelaw_Names.j2 kj13 18 true))) else (relstorelaw_Names.j2 kj13 18 true))) = some r := by rw [if_neg (show ¬ (false = true) by decide)] at H; exact H
              clear H
              have H := H1
              clear H1
              have HC27 := Aside0.mk H
              clear H
              go_upto_region 28 with (fail)
              go_cut [104] (fun v104 wc => ∃ (kq : Nat) (x104_26 : Bool), v104 = .bool x104_26 ∧ Aside0 (relstorelaw_Names.j2 kq 18 x104_26 = some r) ∧ Aside0 (kq ≤ kj13) ∧ Drawn0 w wc)
              case first =>
                have H := HC27.out
                clear HC27
                replace H := Option.bind_eq_some_iff.mp H
                obtain ⟨t113, A280, H⟩ := H
                replace H : (if t113 = 12 then ((relstorelaw_num.f 13).bind fun t114 => (if t114 = 13 then ((relstorelaw_num.f 14).bind fun t115 => (if t115 = 14 then ((relstorelaw_num.f 15).bind fun t116 => (if t116 = 15 then ((relstorelaw_num.f 16).bind fun t117 => (if t117 = 16 then ((relstorelaw_num.f 17).bind fun t118 => (relstorelaw_Names.j2 kj13 18 (t118 != 17))) else (relstorelaw_Names.j2 kj13 18 true))) else (relstorelaw_Names.j2 kj13 18 true))) else (relstorelaw_Names.j2 kj13 18 true))) else (relstorelaw_Names.j2 kj13 18 true))) else (relstorelaw_Names.j2 kj13 18 true)) = some r := H
                have A28 := Aside0.mk A280
                clear A280
                by_cases c29 : t113 = 12
                · rw [if_pos c29] at H
                  have c29b0 : (t113 == 12) = true := beq_iff_eq.mpr c29
                  have c29b1 : (t113 != 12) = false := bne_eq_false_iff_eq.mpr c29
                  clear c29
                  (first | rw [c29b0] | (simp only [i64_w, i32_w]; rw [c29b0]) | skip)
                  replace H := Option.bind_eq_some_iff.mp H
                  obtain ⟨t114, A300, H⟩ := H
                  replace H : (if t114 = 13 then ((relstorelaw_num.f 14).bind fun t115 => (if t115 = 14 then ((relstorelaw_num.f 15).bind fun t116 => (if t116 = 15 then ((relstorelaw_num.f 16).bind fun t117 => (if t117 = 16 then ((relstorelaw_num.f 17).bind fun t118 => (relstorelaw_Names.j2 kj13 18 (t118 != 17))) else (relstorelaw_Names.j2 kj13 18 true))) else (relstorelaw_Names.j2 kj13 18 true))) else (relstorelaw_Names.j2 kj13 18 true))) else (relstorelaw_Names.j2 kj13 18 true)) = some r := H
                  have A30 := Aside0.mk A300
                  clear A300
                  by_cases c31 : t114 = 13
                  · rw [if_pos c31] at H
                    have c31b0 : (t114 == 13) = true := beq_iff_eq.mpr c31
                    have c31b1 : (t114 != 13) = false := bne_eq_false_iff_eq.mpr c31
                    clear c31
                    replace H := Option.bind_eq_some_iff.mp H
                    obtain ⟨t115, A320, H⟩ := H
                    replace H : (if t115 = 14 then ((relstorelaw_num.f 15).bind fun t116 => (if t116 = 15 then ((relstorelaw_num.f 16).bind fun t117 => (if t117 = 16 then ((relstorelaw_num.f 17).bind fun t118 => (relstorelaw_Names.j2 kj13 18 (t118 != 17))) else (relstorelaw_Names.j2 kj13 18 true))) else (relstorelaw_Names.j2 kj13 18 true))) else (relstorelaw_Names.j2 kj13 18 true)) = some r := H
                    have A32 := Aside0.mk A320
                    clear A320
                    by_cases c33 : t115 = 14
                    · rw [if_pos c33] at H
                      have c33b0 : (t115 == 14) = true := beq_iff_eq.mpr c33
                      have c33b1 : (t115 != 14) = false := bne_eq_false_iff_eq.mpr c33
                      clear c33
                      replace H := Option.bind_eq_some_iff.mp H
                      obtain ⟨t116, A340, H⟩ := H
                      replace H : (if t116 = 15 then ((relstorelaw_num.f 16).bind fun t117 => (if t117 = 16 then ((relstorelaw_num.f 17).bind fun t118 => (relstorelaw_Names.j2 kj13 18 (t118 != 17))) else (relstorelaw_Names.j2 kj13 18 true))) else (relstorelaw_Names.j2 kj13 18 true)) = some r := H
                      have A34 := Aside0.mk A340
                      clear A340
                      by_cases c35 : t116 = 15
                      · rw [if_pos c35] at H
                        have c35b0 : (t116 == 15) = true := beq_iff_eq.mpr c35
                        have c35b1 : (t116 != 15) = false := bne_eq_false_iff_eq.mpr c35
                        clear c35
                        replace H := Option.bind_eq_some_iff.mp H
                        obtain ⟨t117, A360, H⟩ := H
                        replace H : (if t117 = 16 then ((relstorelaw_num.f 17).bind fun t118 => (relstorelaw_Names.j2 kj13 18 (t118 != 17))) else (relstorelaw_Names.j2 kj13 18 true)) = some r := H
                        have A36 := Aside0.mk A360
                        clear A360
                        by_cases c37 : t117 = 16
                        · rw [if_pos c37] at H
                          have c37b0 : (t117 == 16) = true := beq_iff_eq.mpr c37
                          have c37b1 : (t117 != 16) = false := bne_eq_false_iff_eq.mpr c37
                          clear c37
                          replace H := Option.bind_eq_some_iff.mp H
                          obtain ⟨t118, A380, H⟩ := H
                          replace H : (relstorelaw_Names.j2 kj13 18 (t118 != 17)) = some r := H
                          have A38 := Aside0.mk A380
                          clear A380
                          have H' := Aside0.mk H
                          clear H
                          go_wp2_with (first | ((with_reducible refine gate_callee (f := 15) rfl ?_); refine goesL_ (some 78) rfl rfl Try.func15 (by kernel_rfl) rfl #[.int .i64 12] rfl (by (try simp only [List.map_toArray, List.map_cons, List.map_nil]); first | done | rfl | (simp only [List.length_drop, List.length_take]; rfl)) ?_; (with_reducible refine (relstorelaw_num.calls 12 t113 _ A28.out).mono ?_); rintro e w' ⟨rfl, ⟨nd, rfl⟩⟩; refine ⟨_, rfl, ?_⟩) | (go_at_call 15; (with_reducible refine (relstorelaw_num.calls 13 t114 _ A30.out).mono ?_); rintro e w' ⟨rfl, ⟨nd, rfl⟩⟩) | (go_at_call 15; (with_reducible refine (relstorelaw_num.calls 14 t115 _ A32.out).mono ?_); rintro e w' ⟨rfl, ⟨nd, rfl⟩⟩) | (go_at_call 15; (with_reducible refine (relstorelaw_num.calls 15 t116 _ A34.out).mono ?_); rintro e w' ⟨rfl, ⟨nd, rfl⟩⟩) | (go_at_call 15; (with_reducible refine (relstorelaw_num.calls 16 t117 _ A36.out).mono ?_); rintro e w' ⟨rfl, ⟨nd, rfl⟩⟩) | (go_at_call 15; (with_reducible refine (relstorelaw_num.calls 17 t118 _ A38.out).mono ?_); rintro e w' ⟨rfl, ⟨nd, rfl⟩⟩))
                          go_meet
                          case rel => exact ⟨_, ((t118 != 17)), (by first | rfl | (simp; done) | (simp [*]; done)), H', ⟨by have := HJ0.out; have := HJ13.out; first | omega | exact Nat.le_refl _⟩, by repeat (first | exact Drawn0.refl _ | apply Drawn0.step)⟩
                        · rw [if_neg c37] at H
                          have c37b0 : (t117 == 16) = false := beq_eq_false_iff_ne.mpr c37
                          have c37b1 : (t117 != 16) = true := bne_iff_ne.mpr c37
                          have H' := Aside0.mk H
                          clear H
                          go_wp2_with (first | ((with_reducible refine gate_callee (f := 15) rfl ?_); refine goesL_ (some 78) rfl rfl Try.func15 (by kernel_rfl) rfl #[.int .i64 12] rfl (by (try simp only [List.map_toArray, List.map_cons, List.map_nil]); first | done | rfl | (simp only [List.length_drop, List.length_take]; rfl)) ?_; (with_reducible refine (relstorelaw_num.calls 12 t113 _ A28.out).mono ?_); rintro e w' ⟨rfl, ⟨nd, rfl⟩⟩; refine ⟨_, rfl, ?_⟩) | (go_at_call 15; (with_reducible refine (relstorelaw_num.calls 13 t114 _ A30.out).mono ?_); rintro e w' ⟨rfl, ⟨nd, rfl⟩⟩) | (go_at_call 15; (with_reducible refine (relstorelaw_num.calls 14 t115 _ A32.out).mono ?_); rintro e w' ⟨rfl, ⟨nd, rfl⟩⟩) | (go_at_call 15; (with_reducible refine (relstorelaw_num.calls 15 t116 _ A34.out).mono ?_); rintro e w' ⟨rfl, ⟨nd, rfl⟩⟩) | (go_at_call 15; (with_reducible refine (relstorelaw_num.calls 16 t117 _ A36.out).mono ?_); rintro e w' ⟨rfl, ⟨nd, rfl⟩⟩))
                          go_meet
                          case rel => exact ⟨_, (true), (by first | rfl | (simp; done) | (simp [*]; done)), H', ⟨by have := HJ0.out; have := HJ13.out; first | omega | exact Nat.le_refl _⟩, by repeat (first | exact Drawn0.refl _ | apply Drawn0.step)⟩
                      · rw [if_neg c35] at H
                        have c35b0 : (t116 == 15) = false := beq_eq_false_iff_ne.mpr c35
                        have c35b1 : (t116 != 15) = true := bne_iff_ne.mpr c35
                        have H' := Aside0.mk H
                        clear H
                        go_wp2_with (first | ((with_reducible refine gate_callee (f := 15) rfl ?_); refine goesL_ (some 78) rfl rfl Try.func15 (by kernel_rfl) rfl #[.int .i64 12] rfl (by (try simp only [List.map_toArray, List.map_cons, List.map_nil]); first | done | rfl | (simp only [List.length_drop, List.length_take]; rfl)) ?_; (with_reducible refine (relstorelaw_num.calls 12 t113 _ A28.out).mono ?_); rintro e w' ⟨rfl, ⟨nd, rfl⟩⟩; refine ⟨_, rfl, ?_⟩) | (go_at_call 15; (with_reducible refine (relstorelaw_num.calls 13 t114 _ A30.out).mono ?_); rintro e w' ⟨rfl, ⟨nd, rfl⟩⟩) | (go_at_call 15; (with_reducible refine (relstorelaw_num.calls 14 t115 _ A32.out).mono ?_); rintro e w' ⟨rfl, ⟨nd, rfl⟩⟩) | (go_at_call 15; (with_reducible refine (relstorelaw_num.calls 15 t116 _ A34.out).mono ?_); rintro e w' ⟨rfl, ⟨nd, rfl⟩⟩))
                        go_meet
                        case rel => exact ⟨_, (true), (by first | rfl | (simp; done) | (simp [*]; done)), H', ⟨by have := HJ0.out; have := HJ13.out; first | omega | exact Nat.le_refl _⟩, by repeat (first | exact Drawn0.refl _ | apply Drawn0.step)⟩
                    · rw [if_neg c33] at H
                      have c33b0 : (t115 == 14) = false := beq_eq_false_iff_ne.mpr c33
                      have c33b1 : (t115 != 14) = true := bne_iff_ne.mpr c33
                      have H' := Aside0.mk H
                      clear H
                      go_wp2_with (first | ((with_reducible refine gate_callee (f := 15) rfl ?_); refine goesL_ (some 78) rfl rfl Try.func15 (by kernel_rfl) rfl #[.int .i64 12] rfl (by (try simp only [List.map_toArray, List.map_cons, List.map_nil]); first | done | rfl | (simp only [List.length_drop, List.length_take]; rfl)) ?_; (with_reducible refine (relstorelaw_num.calls 12 t113 _ A28.out).mono ?_); rintro e w' ⟨rfl, ⟨nd, rfl⟩⟩; refine ⟨_, rfl, ?_⟩) | (go_at_call 15; (with_reducible refine (relstorelaw_num.calls 13 t114 _ A30.out).mono ?_); rintro e w' ⟨rfl, ⟨nd, rfl⟩⟩) | (go_at_call 15; (with_reducible refine (relstorelaw_num.calls 14 t115 _ A32.out).mono ?_); rintro e w' ⟨rfl, ⟨nd, rfl⟩⟩))
                      go_meet
                      case rel => exact ⟨_, (true), (by first | rfl | (simp; done) | (simp [*]; done)), H', ⟨by have := HJ0.out; have := HJ13.out; first | omega | exact Nat.le_refl _⟩, by repeat (first | exact Drawn0.refl _ | apply Drawn0.step)⟩
                  · rw [if_neg c31] at H
                    have c31b0 : (t114 == 13) = false := beq_eq_false_iff_ne.mpr c31
                    have c31b1 : (t114 != 13) = true := bne_iff_ne.mpr c31
                    have H' := Aside0.mk H
                    clear H
                    go_wp2_with (first | ((with_reducible refine gate_callee (f := 15) rfl ?_); refine goesL_ (some 78) rfl rfl Try.func15 (by kernel_rfl) rfl #[.int .i64 12] rfl (by (try simp only [List.map_toArray, List.map_cons, List.map_nil]); first | done | rfl | (simp only [List.length_drop, List.length_take]; rfl)) ?_; (with_reducible refine (relstorelaw_num.calls 12 t113 _ A28.out).mono ?_); rintro e w' ⟨rfl, ⟨nd, rfl⟩⟩; refine ⟨_, rfl, ?_⟩) | (go_at_call 15; (with_reducible refine (relstorelaw_num.calls 13 t114 _ A30.out).mono ?_); rintro e w' ⟨rfl, ⟨nd, rfl⟩⟩))
                    go_meet
                    case rel => exact ⟨_, (true), (by first | rfl | (simp; done) | (simp [*]; done)), H', ⟨by have := HJ0.out; have := HJ13.out; first | omega | exact Nat.le_refl _⟩, by repeat (first | exact Drawn0.refl _ | apply Drawn0.step)⟩
                · rw [if_neg c29] at H
                  have c29b0 : (t113 == 12) = false := beq_eq_false_iff_ne.mpr c29
                  have c29b1 : (t113 != 12) = true := bne_iff_ne.mpr c29
                  (first | rw [c29b0] | (simp only [i64_w, i32_w]; rw [c29b0]) | skip)
                  have H' := Aside0.mk H
                  clear H
                  go_wp2_with (first | ((with_reducible refine gate_callee (f := 15) rfl ?_); refine goesL_ (some 78) rfl rfl Try.func15 (by kernel_rfl) rfl #[.int .i64 12] rfl (by (try simp only [List.map_toArray, List.map_cons, List.map_nil]); first | done | rfl | (simp only [List.length_drop, List.length_take]; rfl)) ?_; (with_reducible refine (relstorelaw_num.calls 12 t113 _ A28.out).mono ?_); rintro e w' ⟨rfl, ⟨nd, rfl⟩⟩; refine ⟨_, rfl, ?_⟩))
                  go_meet
                  case rel => exact ⟨_, (true), (by first | rfl | (simp; done) | (simp [*]; done)), H', ⟨by have := HJ0.out; have := HJ13.out; first | omega | exact Nat.le_refl _⟩, by repeat (first | exact Drawn0.refl _ | apply Drawn0.step)⟩
              case rest =>
                clear HC27
                try clear c1
                try clear c2
                try clear p2
                try clear c3
                try clear c3b0
                try clear c3b1
                try clear c5
                try clear c5b0
                try clear c5b1
                try clear c7
                try clear c7b0
                try clear c7b1
                try clear c9
                try clear c9b0
                try clear c9b1
                try clear c11
                try clear c11b0
                try clear c11b1
                try clear c13
                try clear c15
                try clear c16
                try clear c16b0
                try clear c16b1
                try clear c18
                try clear c18b0
                try clear c18b1
                try clear c20
                try clear c20b0
                try clear c20b1
                try clear c22
                try clear c22b0
                try clear c22b1
                try clear c24
                try clear c24b0
                try clear c24b1
                try clear c26
                try clear c29
                try clear c29b0
                try clear c29b1
                try clear c31
                try clear c31b0
                try clear c31b1
                try clear c33
                try clear c33b0
                try clear c33b1
                try clear c35
                try clear c35b0
                try clear c35b1
                try clear c37
                try clear c37b0
                try clear c37b1
                try clear p2
                obtain ⟨kq, x104_26, rfl, HA, HJ26, ⟨mc26, rfl⟩⟩ := hcut
                cases kq with
                | zero => exact absurd HA.out (by simp [relstorelaw_Names.j2])
                | succ kj26 =>
                  have H := HA.out
                  clear HA
                  simp only [relstorelaw_Names.j2] at H
                  by_cases c39 : x104_26 = true
                  · subst c39
                    have H1 : (some false) = some r := by rw [if_pos rfl] at H; exact H
                    clear H
                    have H := H1
                    clear H1
                    obtain rfl := Option.some.inj H
                    go_wp2
                    go_ret
                    exact ⟨by first | rfl | (simp; done) | (simp [*]; done), by repeat (first | exact Drawn0.refl _ | apply Drawn0.step)⟩
                  · replace c39 := Bool.eq_false_iff.mpr c39
                    subst c39
                    have H1 : ((relstorelaw_num.f 18).bind fun t119 => (if t119 = 18 then ((relstorelaw_sizes.f).bind fun t120 => (some t120)) else (some false))) = some r := by rw [if_neg (show ¬ (false = true) by decide)] at H; exact H
                    clear H
                    have H := H1
                    clear H1
                    replace H := Option.bind_eq_some_iff.mp H
                    obtain ⟨t119, A400, H⟩ := H
                    replace H : (if t119 = 18 then ((relstorelaw_sizes.f).bind fun t120 => (some t120)) else (some false)) = some r := H
                    have A40 := Aside0.mk A400
                    clear A400
                    by_cases c41 : t119 = 18
                    · rw [if_pos c41] at H
                      have c41b0 : (t119 == 18) = true := beq_iff_eq.mpr c41
                      have c41b1 : (t119 != 18) = false := bne_eq_false_iff_eq.mpr c41
                      clear c41
                      replace H := Option.bind_eq_some_iff.mp H
                      obtain ⟨t120, A420, H⟩ := H
                      replace H : (some t120) = some r := H
                      have A42 := Aside0.mk A420
                      clear A420
                      obtain rfl := Option.some.inj H
                      go_wp2_with (first | ((with_reducible refine gate_callee (f := 15) rfl ?_); refine goesL_ (some 106) rfl rfl Try.func15 (by kernel_rfl) rfl #[.int .i64 18] rfl (by (try simp only [List.map_toArray, List.map_cons, List.map_nil]); first | done | rfl | (simp only [List.length_drop, List.length_take]; rfl)) ?_; (with_reducible refine (relstorelaw_num.calls 18 t119 _ A40.out).mono ?_); rintro e w' ⟨rfl, ⟨nd, rfl⟩⟩; refine ⟨_, rfl, ?_⟩) | ((with_reducible refine gate_callee (f := 16) rfl ?_); refine goesL_ (some 108) rfl rfl Try.func16 (by kernel_rfl) rfl #[] rfl (by (try simp only [List.map_toArray, List.map_cons, List.map_nil]); first | done | rfl | (simp only [List.length_drop, List.length_take]; rfl)) ?_; (with_reducible refine (relstorelaw_sizes.calls  t120 _ A42.out).mono ?_); rintro e w' ⟨rfl, ⟨nd, rfl⟩⟩; refine ⟨_, rfl, ?_⟩))
                      go_ret
                      exact ⟨by first | rfl | (simp; done) | (simp [*]; done), by repeat (first | exact Drawn0.refl _ | apply Drawn0.step)⟩
                    · rw [if_neg c41] at H
                      have c41b0 : (t119 == 18) = false := beq_eq_false_iff_ne.mpr c41
                      have c41b1 : (t119 != 18) = true := bne_iff_ne.mpr c41
                      obtain rfl := Option.some.inj H
                      go_wp2_with (first | ((with_reducible refine gate_callee (f := 15) rfl ?_); refine goesL_ (some 106) rfl rfl Try.func15 (by kernel_rfl) rfl #[.int .i64 18] rfl (by (try simp only [List.map_toArray, List.map_cons, List.map_nil]); first | done | rfl | (simp only [List.length_drop, List.length_take]; rfl)) ?_; (with_reducible refine (relstorelaw_num.calls 18 t119 _ A40.out).mono ?_); rintro e w' ⟨rfl, ⟨nd, rfl⟩⟩; refine ⟨_, rfl, ?_⟩))
                      go_ret
                      exact ⟨by first | rfl | (simp; done) | (simp [*]; done), by repeat (first | exact Drawn0.refl _ | apply Drawn0.step)⟩

/-- THE ONE PURE STATEMENT of relstorelaw_Names: yours. -/
def relstorelaw_Names.Pure : Prop := ∃ k, relstorelaw_Names.f k  = some true
theorem relstorelaw_Names.walk (P : relstorelaw_Names.Pure)  (w : World)  :
    Calls Try.prog 3 #[] w fun e w' => e = .returned (.bool true) ∧ Below w.heap.size w w' := by
  obtain ⟨k, h⟩ := P  
  refine (relstorelaw_Names.calls k  true w h).mono ?_
  rintro e w' ⟨rfl, hd⟩
  exact ⟨rfl, hd.below⟩

end Go.Proofs.Ythaoaaboempajaa.PNames
