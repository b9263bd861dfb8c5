-- Lines written for this claim by a program of this session (wip/print). Lean checks them.
import Derived.Test.YthaoaaboempajaaQValueRowsx0
import Derived.Test.YthaoaaboempajaaQValueRowsx2
import Derived.Test.YthaoaaboempajaaQValueRowsx4
namespace Go.Proofs.Ythaoaaboempajaa.QValueRows
open Go.RowKit Go.Proofs.YthaoaaboempajaaW.PrintWords Go.Proofs.YthaoaaboempajaaW.PrintLast Go.Proofs.YthaoaaboempajaaW.PrintMore Go.Proofs.YthaoaaboempajaaX
attribute [local go_sem] max2_int min2_int max_two min_two max_three min_three max_four min_four   -- for this text's walks alone
set_option linter.unusedVariables false
set_option linter.unusedSimpArgs false

/-! ### value_Unpack: function 54 -/
mutual
def value_Unpack.j0 : Nat → Int → ByteArray → Bool → Option ((List (S29)) × Int)
  | 0, _, _, _ => none
  | k + 1, x5, x210000, x210001 => value_Unpack.l0 k x5 ([] : List (S29)) x210000 x210001
def value_Unpack.l0 : Nat → Int → List (S29) → ByteArray → Bool → Option ((List (S29)) × Int)
  | 0, _, _, _, _ => none
  | k + 1, x5, x6, x210000, x210001 => if x5 > 0 then (value_Unpack.j2 k x5 x6 (!x210001) x210000 x210001) else (value_Unpack.j2 k x5 x6 false x210000 x210001)
def value_Unpack.j2 : Nat → Int → List (S29) → Bool → ByteArray → Bool → Option ((List (S29)) × Int)
  | 0, _, _, _, _, _ => none
  | k + 1, x5, x6, x34, x210000, x210001 => if x34 = true then ((value_scanner_byte.f x210000 x210001).bind fun bt213 => (if bt213.1 = 0 then ((value_None.f).bind fun bt216 => (if x6.length < 4398046511104 then (value_Unpack.l0 k (wrap64 (x5 - 1)) (x6 ++ [(⟨bt216.1, bt216.2.1, bt216.2.2⟩ : S29)]) bt213.2.1 bt213.2.2) else (none))) else (if bt213.1 = 1 then ((value_scanner_byte.f bt213.2.1 bt213.2.2).bind fun bt222 => (if bt222.2.2 = true then ((value_Flag.f (bt222.1 == 1)).bind fun bt225 => (if x6.length < 4398046511104 then (value_Unpack.l0 k (wrap64 (x5 - 1)) (x6 ++ [(⟨bt225.1, bt225.2.1, bt225.2.2⟩ : S29)]) bt222.2.1 true) else (none))) else ((value_Flag.f (bt222.1 == 1)).bind fun bt231 => (if x6.length < 4398046511104 then (value_Unpack.l0 k (wrap64 (x5 - 1)) (x6 ++ [(⟨bt231.1, bt231.2.1, bt231.2.2⟩ : S29)]) bt222.2.1 (decide (bt222.1 > 1))) else (none))))) else (if bt213.1 = 2 then ((value_scanner_long.f bt213.2.1 bt213.2.2).bind fun bt237 => ((value_Of.f (wrap64 (bt237.1))).bind fun bt240 => (if x6.length < 4398046511104 then (value_Unpack.l0 k (wrap64 (x5 - 1)) (x6 ++ [(⟨bt240.1, bt240.2.1, bt240.2.2⟩ : S29)]) bt237.2.1 bt237.2.2) else (none)))) else (if bt213.1 = 3 then ((value_scanner_byte.f bt213.2.1 bt213.2.2).bind fun bt246 => ((value_scanner_byte.f bt246.2.1 bt246.2.2).bind fun bt249 => (if bt249.2.2 = true then ((value_scanner_take.f bt249.2.1 true (Go.bits .or .i64 (wrap64 (bt246.1 * 256)) bt249.1)).bind fun bt252 => ((value_Str.f bt252.1).bind fun bt255 => (if x6.length < 4398046511104 then (value_Unpack.l0 k (wrap64 (x5 - 1)) (x6 ++ [(⟨bt255.1, bt255.2.1, bt255.2.2⟩ : S29)]) bt252.2.1 bt252.2.2) else (none)))) else ((value_scanner_take.f bt249.2.1 (decide ((Go.bits .or .i64 (wrap64 (bt246.1 * 256)) bt249.1) > 1000)) (Go.bits .or .i64 (wrap64 (bt246.1 * 256)) bt249.1)).bind fun bt261 => ((value_Str.f bt261.1).bind fun bt264 => (if x6.length < 4398046511104 then (value_Unpack.l0 k (wrap64 (x5 - 1)) (x6 ++ [(⟨bt264.1, bt264.2.1, bt264.2.2⟩ : S29)]) bt261.2.1 bt261.2.2) else (none))))))) else (value_Unpack.l0 k (wrap64 (x5 - 1)) x6 bt213.2.1 true)))))) else (if x210001 = true then (some (([] : List (S29)), 4)) else (if (x210000.size : Int) > 0 then (some (([] : List (S29)), 4)) else (some (x6, 0))))
end
def value_Unpack.f (k : Nat) (a0 : ByteArray) : Option ((List (S29)) × Int) := (value_scanner_byte.f a0 false).bind fun bt210 => (if bt210.2.2 = true then (value_Unpack.j0 k bt210.1 bt210.2.1 true) else (value_Unpack.j0 k bt210.1 bt210.2.1 (decide (bt210.1 > 64))))
theorem value_Unpack.mono_l : ∀ k, (∀ y0 y1 y2, LeO (value_Unpack.j0 k y0 y1 y2) (value_Unpack.j0 (k + 1) y0 y1 y2)) ∧ (∀ y0 y1 y2 y3, LeO (value_Unpack.l0 k y0 y1 y2 y3) (value_Unpack.l0 (k + 1) y0 y1 y2 y3)) ∧ (∀ y0 y1 y2 y3 y4, LeO (value_Unpack.j2 k y0 y1 y2 y3 y4) (value_Unpack.j2 (k + 1) y0 y1 y2 y3 y4))
  | 0 => ⟨fun _ _ _ r h => by simp [value_Unpack.j0] at h, fun _ _ _ _ r h => by simp [value_Unpack.l0] at h, fun _ _ _ _ _ r h => by simp [value_Unpack.j2] at h⟩
  | k + 1 => by
    obtain ⟨ih0, ih1, ih2⟩ := value_Unpack.mono_l k
    refine ⟨?_, ?_, ?_⟩
    · intro y0 y1 y2
      unfold value_Unpack.j0
      repeat' first
      | (with_reducible exact ih0 _ _ _)
      | (with_reducible exact ih1 _ _ _ _)
      | (with_reducible exact ih2 _ _ _ _ _)
      | (with_reducible exact LeO.refl _)
      | (with_reducible exact LeO.none _)
      | (with_reducible refine LeO.ite ?_ ?_)
      | (with_reducible refine LeO.bind ?_ (fun _ => ?_))
      | exact ih0 _ _ _
      | exact ih1 _ _ _ _
      | exact ih2 _ _ _ _ _
      | exact LeO.none _
      | refine LeO.ite ?_ ?_
      | refine LeO.bind ?_ (fun _ => ?_)
    · intro y0 y1 y2 y3
      unfold value_Unpack.l0
      repeat' first
      | (with_reducible exact ih0 _ _ _)
      | (with_reducible exact ih1 _ _ _ _)
      | (with_reducible exact ih2 _ _ _ _ _)
      | (with_reducible exact LeO.refl _)
      | (with_reducible exact LeO.none _)
      | (with_reducible refine LeO.ite ?_ ?_)
      | (with_reducible refine LeO.bind ?_ (fun _ => ?_))
      | exact ih0 _ _ _
      | exact ih1 _ _ _ _
      | exact ih2 _ _ _ _ _
      | exact LeO.none _
      | refine LeO.ite ?_ ?_
      | refine LeO.bind ?_ (fun _ => ?_)
    · intro y0 y1 y2 y3 y4
      unfold value_Unpack.j2
      repeat' first
      | (with_reducible exact ih0 _ _ _)
      | (with_reducible exact ih1 _ _ _ _)
      | (with_reducible exact ih2 _ _ _ _ _)
      | (with_reducible exact LeO.refl _)
      | (with_reducible exact LeO.none _)
      | (with_reducible refine LeO.ite ?_ ?_)
      | (with_reducible refine LeO.bind ?_ (fun _ => ?_))
      | exact ih0 _ _ _
      | exact ih1 _ _ _ _
      | exact ih2 _ _ _ _ _
      | exact LeO.none _
      | refine LeO.ite ?_ ?_
      | refine LeO.bind ?_ (fun _ => ?_)
theorem value_Unpack.mono : ∀ a0 k, LeO (value_Unpack.f k a0) (value_Unpack.f (k + 1) a0) := by
  intro a0 k
  obtain ⟨ih0, ih1, ih2⟩ := value_Unpack.mono_l k
  unfold value_Unpack.f
  repeat' first
      | (with_reducible exact ih0 _ _ _)
      | (with_reducible exact ih1 _ _ _ _)
      | (with_reducible exact ih2 _ _ _ _ _)
      | (with_reducible exact LeO.refl _)
      | (with_reducible exact LeO.none _)
      | (with_reducible refine LeO.ite ?_ ?_)
      | (with_reducible refine LeO.bind ?_ (fun _ => ?_))
      | exact ih0 _ _ _
      | exact ih1 _ _ _ _
      | exact ih2 _ _ _ _ _
      | exact LeO.none _
      | refine LeO.ite ?_ ?_
      | refine LeO.bind ?_ (fun _ => ?_)
set_option maxHeartbeats 8000000 in
set_option maxRecDepth 100000 in
theorem value_Unpack.calls (k : Nat) (a0 : ByteArray) (r1 : List (S29)) (r2 : Int) (w : World) (h : value_Unpack.f k a0 = some (r1, r2)) :
    Calls Try.prog 54 #[.string a0] w fun e w' => ∃ v0_ : Value, e = .returned (.tuple #[v0_, .int .i64 r2]) ∧ Kd.R k29 29 w' w.heap.size (fun _ => True) v0_ r1 ∧ Below w.heap.size w w' := by
  have hu139 := Try.underlying139
  have HB := Aside0.mk (Below.refl w.heap.size w)
  have H : ((value_scanner_byte.f a0 false).bind fun bt210 => (if bt210.2.2 = true then (value_Unpack.j0 k bt210.1 bt210.2.1 true) else (value_Unpack.j0 k bt210.1 bt210.2.1 (decide (bt210.1 > 64))))) = some (r1, r2) := h
  clear h
  replace H := Option.bind_eq_some_iff.mp H
  obtain ⟨⟨t210, t211, t212⟩, A20, H⟩ := H
  replace H : (if t212 = true then (value_Unpack.j0 k t210 t211 true) else (value_Unpack.j0 k t210 t211 (decide (t210 > 64)))) = some (r1, r2) := H
  have A2 := Aside0.mk A20
  clear A20
  have HC3 := Aside0.mk H
  clear H
  go_enter Try.func54, Try.ntmps54
  go_upto_region 3 with (first | ((with_reducible refine gate_dst (N := 12) rfl ?_); (try (refine gate_guard (by rfl) ?_; dsimp only)); refine box_event ?hg (N := 12) ?hd (cs := #[.string a0, .bool false]) (t := 139) ?hr ?_; (case hd => rfl); (case hg => rfl); (case hr => first | (go_simp; done) | (go_simp; rfl)); intro gb209 hg w4 hbox hb; have n0_ := Aside0.mk (below_step (by repeat (first | (with_reducible first | exact HB.out | apply below_alloc | apply pw_below_drewN | apply below_drew1) | exact HB.out)) hb); have n1_ := Aside0.mk ((show IsS139 w _ gb209 a0 false from ⟨hbox, by rw [hg]; exact (below_size (by repeat (first | (with_reducible first | exact HB.out | apply below_alloc | apply pw_below_drewN | apply below_drew1) | exact HB.out)))⟩)); clear HB; have HB := n0_; have HI209 := n1_; clear n0_ n1_; clear hb hbox hg) | ((with_reducible refine gate_callee (f := 120) rfl ?_); refine goesL_ (some 14) rfl rfl Try.func120 (by kernel_rfl) rfl #[.pointer (some ⟨gb209, 0, none⟩)] rfl (by (try simp only [List.map_toArray, List.map_cons, List.map_nil]); first | done | rfl | (simp only [List.length_drop, List.length_take]; rfl) | (simp only [Int.ofNat_lt, Int.ofNat_le]; done) | (simp only [Int.ofNat_lt, Int.ofNat_le]; rfl)) ?_; (with_reducible refine (value_scanner_byte.calls gb209 a0 false t210 t211 t212 w _ ?side1 ?side2 A2.out).mono ?_); (case side1 => repeat (first | (with_reducible first | exact HI209.out | apply IsS139.alloc | apply IsS139.drewN | apply IsS139.drew | apply IsS139.set_0 | apply IsS139.set_1) | exact HI209.out)); (case side2 => repeat (first | (with_reducible first | exact HB.out | apply below_alloc | apply pw_below_drewN | apply below_drew1 | refine below_set ?_ (IsS139.ge HI209.out)) | exact HB.out)); rintro e w5 ⟨rfl, hi, hb, hk⟩; refine ⟨_, rfl, ?_⟩; have n0_ := Aside0.mk (hb); have n1_ := Aside0.mk (hi); clear HB; clear HI209; have HB := n0_; have HI209 := n1_; clear n0_ n1_; (try clear hb); (try clear hb2); (try clear hk); (try clear hi)))
  (try simp only [Act.put, List.setIfInBounds_toArray, List.set_cons_zero, List.set_cons_succ])
  go_cut [] (fun wc => ∃ (kq : Nat) (x210001_2 : Bool), Aside0 (value_Unpack.j0 kq t210 t211 x210001_2 = some (r1, r2)) ∧ Aside0 (kq ≤ k) ∧ Aside0 (IsS139 w wc gb209 t211 x210001_2) ∧ Aside0 (Below w.heap.size w wc))
  case first =>
    have H := HC3.out
    clear HC3
    by_cases c6 : t212 = true
    · subst c6
      have H1 : (value_Unpack.j0 k t210 t211 true) = some (r1, r2) := by rw [if_pos rfl] at H; exact H
      clear H
      have H := H1
      clear H1
      have H' := Aside0.mk H
      clear H
      obtain ⟨HGz7, hgz7⟩ := HI209.out
      have hcz7_0 := cellS139_0 HGz7
      have hcz7_1 := cellS139_1 HGz7
      have hfz7_0 := blk_frozen HGz7 0
      have hfz7_1 := blk_frozen HGz7 1
      clear HGz7 hgz7
      go_wp2
      go_meet
      case rel => exact ⟨_, (true), H', ⟨by first | omega | exact Nat.le_refl _⟩, ⟨by repeat (first | (with_reducible first | exact HI209.out | apply IsS139.alloc | apply IsS139.drewN | apply IsS139.drew | apply IsS139.set_0 | apply IsS139.set_1) | exact HI209.out)⟩, ⟨by repeat (first | (with_reducible first | exact HB.out | apply below_alloc | apply pw_below_drewN | apply below_drew1 | refine below_set ?_ (IsS139.ge HI209.out)) | exact HB.out)⟩⟩
    · replace c6 := Bool.eq_false_iff.mpr c6
      subst c6
      have H1 : (value_Unpack.j0 k t210 t211 (decide (t210 > 64))) = some (r1, r2) := by rw [if_neg (show ¬ (false = true) by decide)] at H; exact H
      clear H
      have H := H1
      clear H1
      have H' := Aside0.mk H
      clear H
      obtain ⟨HGz8, hgz8⟩ := HI209.out
      have hcz8_0 := cellS139_0 HGz8
      have hcz8_1 := cellS139_1 HGz8
      have hfz8_0 := blk_frozen HGz8 0
      have hfz8_1 := blk_frozen HGz8 1
      clear HGz8 hgz8
      go_wp2
      go_meet
      case rel => exact ⟨_, (decide (t210 > 64)), H', ⟨by first | omega | exact Nat.le_refl _⟩, ⟨by repeat (first | (with_reducible first | exact HI209.out | apply IsS139.alloc | apply IsS139.drewN | apply IsS139.drew | apply IsS139.set_0 | apply IsS139.set_1) | exact HI209.out)⟩, ⟨by repeat (first | (with_reducible first | exact HB.out | apply below_alloc | apply pw_below_drewN | apply below_drew1 | refine below_set ?_ (IsS139.ge HI209.out)) | exact HB.out)⟩⟩
  case rest =>
    clear HC3
    try clear c1
    try clear p2
    try clear c5
    try clear c6
    try clear hcz7_0
    try clear hcz7_1
    try clear hcz8_0
    try clear hcz8_1
    try clear hfz7_0
    try clear hfz7_1
    try clear hfz8_0
    try clear hfz8_1
    obtain ⟨kq, x210001_2, HA, HJ2, HI209, HB⟩ := hcut
    cases kq with
    | zero => exact absurd HA.out (by simp [value_Unpack.j0])
    | succ kj2 =>
      have H := HA.out
      clear HA
      simp only [value_Unpack.j0] at H
      have H' := Aside0.mk H
      clear H
      go_wp2
      go_loopg [5, 6] kj2 (fun kq v5 v6 w' => ∃ (x5_2 : Int) (x6_2 : List (S29)) (x210000_2 : ByteArray) (x210001_2 : Bool), v5 = .int .i64 x5_2 ∧ Aside0 (value_Unpack.l0 kq x5_2 x6_2 x210000_2 x210001_2 = some (r1, r2)) ∧ Aside0 (kq ≤ kj2) ∧ Aside0 (Kd.R k29 29 w' w.heap.size (fun _ => True) v6 x6_2) ∧ Aside0 (IsS139 w w' gb209 x210000_2 x210001_2) ∧ Aside0 (Below w.heap.size w w'))
      case atStart => exact ⟨(t210), (([] : List (S29))), (t211), (x210001_2), (by first | rfl | (simp; done) | (simp [*]; done) | exact bq1 _ _ | exact bq2 _ _ | exact congrArg Value.bool (bq2 _ _) | exact congrArg Value.bool (bq1 _ _) | exact congrArg Value.bool (bq1' _ _) | exact bq1' _ _ | exact congrArg Value.bool (bq2' _ _) | exact bq2' _ _), H', ⟨Nat.le_refl _⟩, ⟨by first | exact Kd.R_nil _ _ _ _ _ | exact Kd.N_nil _ _ _ _ _ | exact Kd.V_nil _ _ _ _ _ | exact Kd.Q_nil _ _ _ _ _ | exact Kd.S_nil _ _ _ _ _⟩, ⟨by repeat (first | (with_reducible first | exact HI209.out | apply IsS139.alloc | apply IsS139.drewN | apply IsS139.drew | apply IsS139.set_0 | apply IsS139.set_1) | exact HI209.out)⟩, ⟨by repeat (first | (with_reducible first | exact HB.out | apply below_alloc | apply pw_below_drewN | apply below_drew1 | refine below_set ?_ (IsS139.ge HI209.out)) | exact HB.out)⟩⟩
      case round =>
        clear H'
        try clear c1
        try clear q1
        try clear p2
        try clear q2
        try clear c5
        try clear c6
        try clear hcz7_0
        try clear hcz7_1
        try clear hcz8_0
        try clear hcz8_1
        try clear hfz7_0
        try clear hfz7_1
        try clear hfz8_0
        try clear hfz8_1
        try clear p2
        obtain ⟨x5_2, x6_2, x210000_2, x210001_2, rfl, HA, HK2, HO_6, HI209, HB⟩ := hrel
        cases gk with
        | zero => exact absurd HA.out (by simp [value_Unpack.l0])
        | succ k2 =>
          have H := HA.out
          clear HA
          simp only [value_Unpack.l0] at H
          have HC9 := Aside0.mk H
          clear H
          go_upto_region 5 with (fail)
          go_cut [34] (fun v34 wc => ∃ (kq : Nat) (x34_8 : Bool), v34 = .bool x34_8 ∧ Aside0 (value_Unpack.j2 kq x5_2 x6_2 x34_8 x210000_2 x210001_2 = some (r1, r2)) ∧ Aside0 (kq ≤ k2) ∧ Aside0 (Kd.R k29 29 wc w.heap.size (fun _ => True) u6 x6_2) ∧ Aside0 (IsS139 w wc gb209 x210000_2 x210001_2) ∧ Aside0 (Below w.heap.size w wc))
          case first =>
            have H := HC9.out
            clear HC9
            by_cases c10 : x5_2 > 0
            · rw [if_pos c10] at H
              have c10b0 : decide (0 < x5_2) = true := decide_eq_true c10
              clear c10
              (first | rw [c10b0] | (simp only [i64_w, i32_w]; rw [c10b0]) | skip)
              have H' := Aside0.mk H
              clear H
              obtain ⟨HGz11, hgz11⟩ := HI209.out
              have hcz11_0 := cellS139_0 HGz11
              have hcz11_1 := cellS139_1 HGz11
              have hfz11_0 := blk_frozen HGz11 0
              have hfz11_1 := blk_frozen HGz11 1
              clear HGz11 hgz11
              go_wp2
              go_meet
              case rel => exact ⟨_, (!x210001_2), (by first | rfl | (simp; done) | (simp [*]; done) | exact bq1 _ _ | exact bq2 _ _ | exact congrArg Value.bool (bq2 _ _) | exact congrArg Value.bool (bq1 _ _) | exact congrArg Value.bool (bq1' _ _) | exact bq1' _ _ | exact congrArg Value.bool (bq2' _ _) | exact bq2' _ _), H', ⟨by have := HJ2.out; have := HK2.out; first | omega | exact Nat.le_refl _⟩, ⟨by (with_reducible repeat (first | apply Kd.R_alloc | apply Kd.R_drewN | apply Kd.R_drew)); exact HO_6.out⟩, ⟨by repeat (first | (with_reducible first | exact HI209.out | apply IsS139.alloc | apply IsS139.drewN | apply IsS139.drew | apply IsS139.set_0 | apply IsS139.set_1) | exact HI209.out)⟩, ⟨by repeat (first | (with_reducible first | exact HB.out | apply below_alloc | apply pw_below_drewN | apply below_drew1 | refine below_set ?_ (IsS139.ge HI209.out)) | exact HB.out)⟩⟩
            · rw [if_neg c10] at H
              have c10b0 : decide (0 < x5_2) = false := decide_eq_false c10
              clear c10
              (first | rw [c10b0] | (simp only [i64_w, i32_w]; rw [c10b0]) | skip)
              have H' := Aside0.mk H
              clear H
              go_wp2
              go_meet
              case rel => exact ⟨_, (false), (by first | rfl | (simp; done) | (simp [*]; done) | exact bq1 _ _ | exact bq2 _ _ | exact congrArg Value.bool (bq2 _ _) | exact congrArg Value.bool (bq1 _ _) | exact congrArg Value.bool (bq1' _ _) | exact bq1' _ _ | exact congrArg Value.bool (bq2' _ _) | exact bq2' _ _), H', ⟨by have := HJ2.out; have := HK2.out; first | omega | exact Nat.le_refl _⟩, ⟨by (with_reducible repeat (first | apply Kd.R_alloc | apply Kd.R_drewN | apply Kd.R_drew)); exact HO_6.out⟩, ⟨by repeat (first | (with_reducible first | exact HI209.out | apply IsS139.alloc | apply IsS139.drewN | apply IsS139.drew | apply IsS139.set_0 | apply IsS139.set_1) | exact HI209.out)⟩, ⟨by repeat (first | (with_reducible first | exact HB.out | apply below_alloc | apply pw_below_drewN | apply below_drew1 | refine below_set ?_ (IsS139.ge HI209.out)) | exact HB.out)⟩⟩
          case rest =>
            clear HC9
            try clear c1
            try clear q1
            try clear p2
            try clear q2
            try clear c5
            try clear c6
            try clear c10
            try clear c10b0
            try clear hcz11_0
            try clear hcz11_1
            try clear hcz7_0
            try clear hcz7_1
            try clear hcz8_0
            try clear hcz8_1
            try clear hfz11_0
            try clear hfz11_1
            try clear hfz7_0
            try clear hfz7_1
            try clear hfz8_0
            try clear hfz8_1
            try clear p2
            try clear q1
            try clear q2
            obtain ⟨kq, x34_8, rfl, HA, HJ8, HO_6, HI209, HB⟩ := hcut
            cases kq with
            | zero => exact absurd HA.out (by simp [value_Unpack.j2])
            | succ kj8 =>
              have H := HA.out
              clear HA
              simp only [value_Unpack.j2] at H
              by_cases c12 : x34_8 = true
              · subst c12
                have H1 : ((value_scanner_byte.f x210000_2 x210001_2).bind fun bt213 => (if bt213.1 = 0 then ((value_None.f).bind fun bt216 => (if x6_2.length < 4398046511104 then (value_Unpack.l0 kj8 (wrap64 (x5_2 - 1)) (x6_2 ++ [(⟨bt216.1, bt216.2.1, bt216.2.2⟩ : S29)]) bt213.2.1 bt213.2.2) else (none))) else (if bt213.1 = 1 then ((value_scanner_byte.f bt213.2.1 bt213.2.2).bind fun bt222 => (if bt222.2.2 = true then ((value_Flag.f (bt222.1 == 1)).bind fun bt225 => (if x6_2.length < 4398046511104 then (value_Unpack.l0 kj8 (wrap64 (x5_2 - 1)) (x6_2 ++ [(⟨bt225.1, bt225.2.1, bt225.2.2⟩ : S29)]) bt222.2.1 true) else (none))) else ((value_Flag.f (bt222.1 == 1)).bind fun bt231 => (if x6_2.length < 4398046511104 then (value_Unpack.l0 kj8 (wrap64 (x5_2 - 1)) (x6_2 ++ [(⟨bt231.1, bt231.2.1, bt231.2.2⟩ : S29)]) bt222.2.1 (decide (bt222.1 > 1))) else (none))))) else (if bt213.1 = 2 then ((value_scanner_long.f bt213.2.1 bt213.2.2).bind fun bt237 => ((value_Of.f (wrap64 (bt237.1))).bind fun bt240 => (if x6_2.length < 4398046511104 then (value_Unpack.l0 kj8 (wrap64 (x5_2 - 1)) (x6_2 ++ [(⟨bt240.1, bt240.2.1, bt240.2.2⟩ : S29)]) bt237.2.1 bt237.2.2) else (none)))) else (if bt213.1 = 3 then ((value_scanner_byte.f bt213.2.1 bt213.2.2).bind fun bt246 => ((value_scanner_byte.f bt246.2.1 bt246.2.2).bind fun bt249 => (if bt249.2.2 = true then ((value_scanner_take.f bt249.2.1 true (Go.bits .or .i64 (wrap64 (bt246.1 * 256)) bt249.1)).bind fun bt252 => ((value_Str.f bt252.1).bind fun bt255 => (if x6_2.length < 4398046511104 then (value_Unpack.l0 kj8 (wrap64 (x5_2 - 1)) (x6_2 ++ [(⟨bt255.1, bt255.2.1, bt255.2.2⟩ : S29)]) bt252.2.1 bt252.2.2) else (none)))) else ((value_scanner_take.f bt249.2.1 (decide ((Go.bits .or .i64 (wrap64 (bt246.1 * 256)) bt249.1) > 1000)) (Go.bits .or .i64 (wrap64 (bt246.1 * 256)) bt249.1)).bind fun bt261 => ((value_Str.f bt261.1).bind fun bt264 => (if x6_2.length < 4398046511104 then (value_Unpack.l0 kj8 (wrap64 (x5_2 - 1)) (x6_2 ++ [(⟨bt264.1, bt264.2.1, bt264.2.2⟩ : S29)]) bt261.2.1 bt261.2.2) else (none))))))) else (value_Unpack.l0 kj8 (wrap64 (x5_2 - 1)) x6_2 bt213.2.1 true)))))) = some (r1, r2) := by rw [if_pos rfl] at H; exact H
                clear H
                have H := H1
                clear H1
                replace H := Option.bind_eq_some_iff.mp H
                obtain ⟨⟨t213, t214, t215⟩, A130, H⟩ := H
                replace H : (if t213 = 0 then ((value_None.f).bind fun bt216 => (if x6_2.length < 4398046511104 then (value_Unpack.l0 kj8 (wrap64 (x5_2 - 1)) (x6_2 ++ [(⟨bt216.1, bt216.2.1, bt216.2.2⟩ : S29)]) t214 t215) else (none))) else (if t213 = 1 then ((value_scanner_byte.f t214 t215).bind fun bt222 => (if bt222.2.2 = true then ((value_Flag.f (bt222.1 == 1)).bind fun bt225 => (if x6_2.length < 4398046511104 then (value_Unpack.l0 kj8 (wrap64 (x5_2 - 1)) (x6_2 ++ [(⟨bt225.1, bt225.2.1, bt225.2.2⟩ : S29)]) bt222.2.1 true) else (none))) else ((value_Flag.f (bt222.1 == 1)).bind fun bt231 => (if x6_2.length < 4398046511104 then (value_Unpack.l0 kj8 (wrap64 (x5_2 - 1)) (x6_2 ++ [(⟨bt231.1, bt231.2.1, bt231.2.2⟩ : S29)]) bt222.2.1 (decide (bt222.1 > 1))) else (none))))) else (if t213 = 2 then ((value_scanner_long.f t214 t215).bind fun bt237 => ((value_Of.f (wrap64 (bt237.1))).bind fun bt240 => (if x6_2.length < 4398046511104 then (value_Unpack.l0 kj8 (wrap64 (x5_2 - 1)) (x6_2 ++ [(⟨bt240.1, bt240.2.1, bt240.2.2⟩ : S29)]) bt237.2.1 bt237.2.2) else (none)))) else (if t213 = 3 then ((value_scanner_byte.f t214 t215).bind fun bt246 => ((value_scanner_byte.f bt246.2.1 bt246.2.2).bind fun bt249 => (if bt249.2.2 = true then ((value_scanner_take.f bt249.2.1 true (Go.bits .or .i64 (wrap64 (bt246.1 * 256)) bt249.1)).bind fun bt252 => ((value_Str.f bt252.1).bind fun bt255 => (if x6_2.length < 4398046511104 then (value_Unpack.l0 kj8 (wrap64 (x5_2 - 1)) (x6_2 ++ [(⟨bt255.1, bt255.2.1, bt255.2.2⟩ : S29)]) bt252.2.1 bt252.2.2) else (none)))) else ((value_scanner_take.f bt249.2.1 (decide ((Go.bits .or .i64 (wrap64 (bt246.1 * 256)) bt249.1) > 1000)) (Go.bits .or .i64 (wrap64 (bt246.1 * 256)) bt249.1)).bind fun bt261 => ((value_Str.f bt261.1).bind fun bt264 => (if x6_2.length < 4398046511104 then (value_Unpack.l0 kj8 (wrap64 (x5_2 - 1)) (x6_2 ++ [(⟨bt264.1, bt264.2.1, bt264.2.2⟩ : S29)]) bt261.2.1 bt261.2.2) else (none))))))) else (value_Unpack.l0 kj8 (wrap64 (x5_2 - 1)) x6_2 t214 true))))) = some (r1, r2) := H
                have A13 := Aside0.mk A130
                clear A130
                by_cases c14 : t213 = 0
                · rw [if_pos c14] at H
                  have c14b0 : (t213 == 0) = true := beq_iff_eq.mpr c14
                  have c14b1 : (t213 != 0) = false := bne_eq_false_iff_eq.mpr c14
                  clear c14
                  replace H := Option.bind_eq_some_iff.mp H
                  obtain ⟨⟨t216, t217, t218⟩, A150, H⟩ := H
                  replace H : (if x6_2.length < 4398046511104 then (value_Unpack.l0 kj8 (wrap64 (x5_2 - 1)) (x6_2 ++ [(⟨t216, t217, t218⟩ : S29)]) t214 t215) else (none)) = some (r1, r2) := H
                  have A15 := Aside0.mk A150
                  clear A150
                  by_cases c16 : x6_2.length < 4398046511104
                  · rw [if_pos c16] at H
                    have LMc16 := Aside0.mk c16
                    clear c16
                    obtain ⟨y219, hy219⟩ : ∃ y_ : List (S29), y_ = (x6_2 ++ [(⟨t216, t217, t218⟩ : S29)]) := ⟨_, rfl⟩
                    replace H : (value_Unpack.l0 kj8 (wrap64 (x5_2 - 1)) y219 t214 t215) = some (r1, r2) := by first | (rw [hy219]; with_reducible exact H) | (have H2_ := (Option.bind_some _ _).symm.trans H; rw [hy219]; with_reducible exact H2_) | (have H2_ := (Option.bind_some _ _).symm.trans H; with_reducible exact H2_) | with_reducible exact H | (rw [hy219]; exact H) | exact H
                    have Ny219 := Aside0.mk hy219
                    clear hy219
                    have H' := Aside0.mk H
                    clear H
                    go_wp2_with (first | ((with_reducible refine gate_callee (f := 120) rfl ?_); refine goesL_ (some 38) rfl rfl Try.func120 (by kernel_rfl) rfl #[.pointer (some ⟨gb209, 0, none⟩)] rfl (by (try simp only [List.map_toArray, List.map_cons, List.map_nil]); first | done | rfl | (simp only [List.length_drop, List.length_take]; rfl) | (simp only [Int.ofNat_lt, Int.ofNat_le]; done) | (simp only [Int.ofNat_lt, Int.ofNat_le]; rfl)) ?_; (with_reducible refine (value_scanner_byte.calls gb209 x210000_2 x210001_2 t213 t214 t215 w _ ?side1 ?side2 A13.out).mono ?_); (case side1 => repeat (first | (with_reducible first | exact HI209.out | apply IsS139.alloc | apply IsS139.drewN | apply IsS139.drew | apply IsS139.set_0 | apply IsS139.set_1) | exact HI209.out)); (case side2 => repeat (first | (with_reducible first | exact HB.out | apply below_alloc | apply pw_below_drewN | apply below_drew1 | refine below_set ?_ (IsS139.ge HI209.out)) | exact HB.out)); rintro e w17 ⟨rfl, hi, hb, hk⟩; refine ⟨_, rfl, ?_⟩; have n0_ := Aside0.mk (Kd.R_mono (Kd.R_keep (IsS139.apart (show IsS139 w _ gb209 x210000_2 x210001_2 from by repeat (first | (with_reducible first | exact HI209.out | apply IsS139.alloc | apply IsS139.drewN | apply IsS139.drew | apply IsS139.set_0 | apply IsS139.set_1) | exact HI209.out)) (by (with_reducible repeat (first | apply Kd.R_alloc | apply Kd.R_drewN | apply Kd.R_drew)); exact HO_6.out) (by decide)) hk (fun _ h => h.2)) (fun _ h => h.1)); have n1_ := Aside0.mk (hb); have n2_ := Aside0.mk (hi); clear HO_6; clear HB; clear HI209; have HO_6 := n0_; have HB := n1_; have HI209 := n2_; clear n0_ n1_ n2_; (try clear hb); (try clear hb2); (try clear hk); (try clear hi)) | ((with_reducible refine gate_callee (f := 98) rfl ?_); refine goesL_ (some 46) rfl rfl Try.func98 (by kernel_rfl) rfl #[] rfl (by (try simp only [List.map_toArray, List.map_cons, List.map_nil]); first | done | rfl | (simp only [List.length_drop, List.length_take]; rfl) | (simp only [Int.ofNat_lt, Int.ofNat_le]; done) | (simp only [Int.ofNat_lt, Int.ofNat_le]; rfl)) ?_; (with_reducible refine (value_None.calls  t216 t217 t218 _ A15.out).mono ?_); rintro e w18 ⟨rfl, hb⟩; refine ⟨_, rfl, ?_⟩; have n0_ := Aside0.mk (Kd.R_below (by (with_reducible repeat (first | apply Kd.R_alloc | apply Kd.R_drewN | apply Kd.R_drew)); exact HO_6.out) hb); have n1_ := Aside0.mk (IsS139.below (by repeat (first | (with_reducible first | exact HI209.out | apply IsS139.alloc | apply IsS139.drewN | apply IsS139.drew | apply IsS139.set_0 | apply IsS139.set_1) | exact HI209.out)) hb); have n2_ := Aside0.mk (below_step (by repeat (first | (with_reducible first | exact HB.out | apply below_alloc | apply pw_below_drewN | apply below_drew1 | refine below_set ?_ (IsS139.ge HI209.out)) | exact HB.out)) hb); clear HO_6; clear HI209; clear HB; have HO_6 := n0_; have HI209 := n1_; have HB := n2_; clear n0_ n1_ n2_; (try clear hb); (try clear hb2); (try clear hk); (try clear hi)) | ((with_reducible refine gate_builtin (b := .append) (xs := #[.tmp 45, .tmp 47]) rfl ?_); (try (refine gate_guard (by rfl) ?_; dsimp only)); at_builtin; refine Kd.R_append k29 (w0 := w) w.heap.size rfl (.tmp 45) (.tmp 47) 30 29 (.agg #[(.int .i64 0), (.int .i64 0), (.string ⟨#[]⟩)]) 32 rfl Try.underlying30 info29 rfl (by decide) (by omega) u6 x6_2 (⟨t216, t217, t218⟩ : S29) [.int .i64 t216, .int .i64 t217, .string t218] (fun _ => True) (fun _ => False) rfl rfl ?aP (fun _ hk => hk.elim) ?aF ?aO ?aB ?aS ?aL ?_; (case aP => exact k29_mkM _ _ _ (⟨t216, t217, t218⟩ : S29)); (case aB => exact (by repeat (first | (with_reducible first | exact HB.out | apply below_alloc | apply pw_below_drewN | apply below_drew1 | refine below_set ?_ (IsS139.ge HI209.out)) | exact HB.out))); (case aF => exact (fun _ _ => trivial)); (case aO => exact (by (with_reducible repeat (first | apply Kd.R_alloc | apply Kd.R_drewN | apply Kd.R_drew)); exact HO_6.out)); (case aS => exact (below_size (by repeat (first | (with_reducible first | exact HB.out | apply below_alloc | apply pw_below_drewN | apply below_drew1 | refine below_set ?_ (IsS139.ge HI209.out)) | exact HB.out)))); (case aL => have := LMc16.out; omega); intro v220 w19 ho hb hg hat; rw [← Ny219.out] at ho; have n0_ := Aside0.mk (IsS139.grown (by repeat (first | (with_reducible first | exact HI209.out | apply IsS139.alloc | apply IsS139.drewN | apply IsS139.drew | apply IsS139.set_0 | apply IsS139.set_1) | exact HI209.out)) hg (IsS139.own_ne HI209.out HO_6.out (by decide))); have n1_ := Aside0.mk (hb); have n2_ := Aside0.mk (ho); clear HI209; clear HB; clear HO_6; have HI209 := n0_; have HB := n1_; have HO221 := n2_; clear n0_ n1_ n2_; clear ho hb hg hat))
                    go_roundg kj8
                    case measure => have := HJ2.out; have := HK2.out; have := HJ8.out; omega
                    case rel => exact ⟨(wrap64 (x5_2 - 1)), (y219), (t214), (t215), (by first | rfl | (simp; done) | (simp [*]; done) | exact bq1 _ _ | exact bq2 _ _ | exact congrArg Value.bool (bq2 _ _) | exact congrArg Value.bool (bq1 _ _) | exact congrArg Value.bool (bq1' _ _) | exact bq1' _ _ | exact congrArg Value.bool (bq2' _ _) | exact bq2' _ _), H', ⟨by have := HJ2.out; have := HK2.out; have := HJ8.out; omega⟩, ⟨by (with_reducible repeat (first | apply Kd.R_alloc | apply Kd.R_drewN | apply Kd.R_drew)); exact HO221.out⟩, ⟨by repeat (first | (with_reducible first | exact HI209.out | apply IsS139.alloc | apply IsS139.drewN | apply IsS139.drew | apply IsS139.set_0 | apply IsS139.set_1) | exact HI209.out)⟩, ⟨by repeat (first | (with_reducible first | exact HB.out | apply below_alloc | apply pw_below_drewN | apply below_drew1 | refine below_set ?_ (IsS139.ge HI209.out)) | exact HB.out)⟩⟩
                  · rw [if_neg c16] at H
                    exact absurd H (by simp)
                · rw [if_neg c14] at H
                  have c14b0 : (t213 == 0) = false := beq_eq_false_iff_ne.mpr c14
                  have c14b1 : (t213 != 0) = true := bne_iff_ne.mpr c14
                  by_cases c20 : t213 = 1
                  · rw [if_pos c20] at H
                    have c20b0 : (t213 == 1) = true := beq_iff_eq.mpr c20
                    have c20b1 : (t213 != 1) = false := bne_eq_false_iff_eq.mpr c20
                    clear c20
                    replace H := Option.bind_eq_some_iff.mp H
                    obtain ⟨⟨t222, t223, t224⟩, A210, H⟩ := H
                    replace H : (if t224 = true then ((value_Flag.f (t222 == 1)).bind fun bt225 => (if x6_2.length < 4398046511104 then (value_Unpack.l0 kj8 (wrap64 (x5_2 - 1)) (x6_2 ++ [(⟨bt225.1, bt225.2.1, bt225.2.2⟩ : S29)]) t223 true) else (none))) else ((value_Flag.f (t222 == 1)).bind fun bt231 => (if x6_2.length < 4398046511104 then (value_Unpack.l0 kj8 (wrap64 (x5_2 - 1)) (x6_2 ++ [(⟨bt231.1, bt231.2.1, bt231.2.2⟩ : S29)]) t223 (decide (t222 > 1))) else (none)))) = some (r1, r2) := H
                    have A21 := Aside0.mk A210
                    clear A210
                    by_cases c22 : t224 = true
                    · subst c22
                      have H1 : ((value_Flag.f (t222 == 1)).bind fun bt225 => (if x6_2.length < 4398046511104 then (value_Unpack.l0 kj8 (wrap64 (x5_2 - 1)) (x6_2 ++ [(⟨bt225.1, bt225.2.1, bt225.2.2⟩ : S29)]) t223 true) else (none))) = some (r1, r2) := by rw [if_pos rfl] at H; exact H
                      clear H
                      have H := H1
                      clear H1
                      replace H := Option.bind_eq_some_iff.mp H
                      obtain ⟨⟨t225, t226, t227⟩, A230, H⟩ := H
                      replace H : (if x6_2.length < 4398046511104 then (value_Unpack.l0 kj8 (wrap64 (x5_2 - 1)) (x6_2 ++ [(⟨t225, t226, t227⟩ : S29)]) t223 true) else (none)) = some (r1, r2) := H
                      have A23 := Aside0.mk A230
                      clear A230
                      by_cases c24 : x6_2.length < 4398046511104
                      · rw [if_pos c24] at H
                        have LMc24 := Aside0.mk c24
                        clear c24
                        obtain ⟨y228, hy228⟩ : ∃ y_ : List (S29), y_ = (x6_2 ++ [(⟨t225, t226, t227⟩ : S29)]) := ⟨_, rfl⟩
                        replace H : (value_Unpack.l0 kj8 (wrap64 (x5_2 - 1)) y228 t223 true) = some (r1, r2) := by first | (rw [hy228]; with_reducible exact H) | (have H2_ := (Option.bind_some _ _).symm.trans H; rw [hy228]; with_reducible exact H2_) | (have H2_ := (Option.bind_some _ _).symm.trans H; with_reducible exact H2_) | with_reducible exact H | (rw [hy228]; exact H) | exact H
                        have Ny228 := Aside0.mk hy228
                        clear hy228
                        have H' := Aside0.mk H
                        clear H
                        go_wp2_with (first | ((with_reducible refine gate_callee (f := 120) rfl ?_); refine goesL_ (some 38) rfl rfl Try.func120 (by kernel_rfl) rfl #[.pointer (some ⟨gb209, 0, none⟩)] rfl (by (try simp only [List.map_toArray, List.map_cons, List.map_nil]); first | done | rfl | (simp only [List.length_drop, List.length_take]; rfl) | (simp only [Int.ofNat_lt, Int.ofNat_le]; done) | (simp only [Int.ofNat_lt, Int.ofNat_le]; rfl)) ?_; (with_reducible refine (value_scanner_byte.calls gb209 x210000_2 x210001_2 t213 t214 t215 w _ ?side1 ?side2 A13.out).mono ?_); (case side1 => repeat (first | (with_reducible first | exact HI209.out | apply IsS139.alloc | apply IsS139.drewN | apply IsS139.drew | apply IsS139.set_0 | apply IsS139.set_1) | exact HI209.out)); (case side2 => repeat (first | (with_reducible first | exact HB.out | apply below_alloc | apply pw_below_drewN | apply below_drew1 | refine below_set ?_ (IsS139.ge HI209.out)) | exact HB.out)); rintro e w25 ⟨rfl, hi, hb, hk⟩; refine ⟨_, rfl, ?_⟩; have n0_ := Aside0.mk (Kd.R_mono (Kd.R_keep (IsS139.apart (show IsS139 w _ gb209 x210000_2 x210001_2 from by repeat (first | (with_reducible first | exact HI209.out | apply IsS139.alloc | apply IsS139.drewN | apply IsS139.drew | apply IsS139.set_0 | apply IsS139.set_1) | exact HI209.out)) (by (with_reducible repeat (first | apply Kd.R_alloc | apply Kd.R_drewN | apply Kd.R_drew)); exact HO_6.out) (by decide)) hk (fun _ h => h.2)) (fun _ h => h.1)); have n1_ := Aside0.mk (hb); have n2_ := Aside0.mk (hi); clear HO_6; clear HB; clear HI209; have HO_6 := n0_; have HB := n1_; have HI209 := n2_; clear n0_ n1_ n2_; (try clear hb); (try clear hb2); (try clear hk); (try clear hi)) | ((with_reducible refine gate_callee (f := 120) rfl ?_); refine goesL_ (some 52) rfl rfl Try.func120 (by kernel_rfl) rfl #[.pointer (some ⟨gb209, 0, none⟩)] rfl (by (try simp only [List.map_toArray, List.map_cons, List.map_nil]); first | done | rfl | (simp only [List.length_drop, List.length_take]; rfl) | (simp only [Int.ofNat_lt, Int.ofNat_le]; done) | (simp only [Int.ofNat_lt, Int.ofNat_le]; rfl)) ?_; (with_reducible refine (value_scanner_byte.calls gb209 t214 t215 t222 t223 true w _ ?side1 ?side2 A21.out).mono ?_); (case side1 => repeat (first | (with_reducible first | exact HI209.out | apply IsS139.alloc | apply IsS139.drewN | apply IsS139.drew | apply IsS139.set_0 | apply IsS139.set_1) | exact HI209.out)); (case side2 => repeat (first | (with_reducible first | exact HB.out | apply below_alloc | apply pw_below_drewN | apply below_drew1 | refine below_set ?_ (IsS139.ge HI209.out)) | exact HB.out)); rintro e w26 ⟨rfl, hi, hb, hk⟩; refine ⟨_, rfl, ?_⟩; have n0_ := Aside0.mk (Kd.R_mono (Kd.R_keep (IsS139.apart (show IsS139 w _ gb209 t214 t215 from by repeat (first | (with_reducible first | exact HI209.out | apply IsS139.alloc | apply IsS139.drewN | apply IsS139.drew | apply IsS139.set_0 | apply IsS139.set_1) | exact HI209.out)) (by (with_reducible repeat (first | apply Kd.R_alloc | apply Kd.R_drewN | apply Kd.R_drew)); exact HO_6.out) (by decide)) hk (fun _ h => h.2)) (fun _ h => h.1)); have n1_ := Aside0.mk (hb); have n2_ := Aside0.mk (hi); clear HO_6; clear HB; clear HI209; have HO_6 := n0_; have HB := n1_; have HI209 := n2_; clear n0_ n1_ n2_; (try clear hb); (try clear hb2); (try clear hk); (try clear hi); obtain ⟨HGz27, hgz27⟩ := HI209.out; have hcz27_0 := cellS139_0 HGz27; have hcz27_1 := cellS139_1 HGz27; have hfz27_0 := blk_frozen HGz27 0; have hfz27_1 := blk_frozen HGz27 1; clear HGz27 hgz27) | ((with_reducible refine gate_callee (f := 95) rfl ?_); refine goesL_ (some 67) rfl rfl Try.func95 (by kernel_rfl) rfl #[.bool (t222 == 1)] rfl (by (try simp only [List.map_toArray, List.map_cons, List.map_nil]); first | done | rfl | (simp only [List.length_drop, List.length_take]; rfl) | (simp only [Int.ofNat_lt, Int.ofNat_le]; done) | (simp only [Int.ofNat_lt, Int.ofNat_le]; rfl)) ?_; (with_reducible refine (value_Flag.calls (t222 == 1) t225 t226 t227 _ A23.out).mono ?_); rintro e w28 ⟨rfl, hb⟩; refine ⟨_, rfl, ?_⟩; have n0_ := Aside0.mk (Kd.R_below (by (with_reducible repeat (first | apply Kd.R_alloc | apply Kd.R_drewN | apply Kd.R_drew)); exact (Kd.R_mono (Kd.R_far (p := ⟨gb209, 1, none⟩) (IsS139.apart HI209.out HO_6.out (by decide)) (fun _ hk => hk.2) (.bool true)) (fun _ h_ => h_.1))) hb); have n1_ := Aside0.mk (IsS139.below (show IsS139 w (w26.setCell ⟨gb209, 1, none⟩ (.bool true)) gb209 t223 true from by repeat (first | (with_reducible first | exact HI209.out | apply IsS139.alloc | apply IsS139.drewN | apply IsS139.drew | apply IsS139.set_0 | apply IsS139.set_1) | exact HI209.out)) hb); have n2_ := Aside0.mk (below_step (by repeat (first | (with_reducible first | exact HB.out | apply below_alloc | apply pw_below_drewN | apply below_drew1 | refine below_set ?_ (IsS139.ge HI209.out)) | exact HB.out)) hb); clear HO_6; clear HI209; clear HB; have HO_6 := n0_; have HI209 := n1_; have HB := n2_; clear n0_ n1_ n2_; (try clear hb); (try clear hb2); (try clear hk); (try clear hi)) | ((with_reducible refine gate_builtin (b := .append) (xs := #[.tmp 64, .tmp 68]) rfl ?_); (try (refine gate_guard (by rfl) ?_; dsimp only)); at_builtin; refine Kd.R_append k29 (w0 := w) w.heap.size rfl (.tmp 64) (.tmp 68) 30 29 (.agg #[(.int .i64 0), (.int .i64 0), (.string ⟨#[]⟩)]) 32 rfl Try.underlying30 info29 rfl (by decide) (by omega) u6 x6_2 (⟨t225, t226, t227⟩ : S29) [.int .i64 t225, .int .i64 t226, .string t227] (fun _ => True) (fun _ => False) rfl rfl ?aP (fun _ hk => hk.elim) ?aF ?aO ?aB ?aS ?aL ?_; (case aP => exact k29_mkM _ _ _ (⟨t225, t226, t227⟩ : S29)); (case aB => exact (by repeat (first | (with_reducible first | exact HB.out | apply below_alloc | apply pw_below_drewN | apply below_drew1 | refine below_set ?_ (IsS139.ge HI209.out)) | exact HB.out))); (case aF => exact (fun _ _ => trivial)); (case aO => exact (by (with_reducible repeat (first | apply Kd.R_alloc | apply Kd.R_drewN | apply Kd.R_drew)); exact HO_6.out)); (case aS => exact (below_size (by repeat (first | (with_reducible first | exact HB.out | apply below_alloc | apply pw_below_drewN | apply below_drew1 | refine below_set ?_ (IsS139.ge HI209.out)) | exact HB.out)))); (case aL => have := LMc24.out; omega); intro v229 w29 ho hb hg hat; rw [← Ny228.out] at ho; have n0_ := Aside0.mk (IsS139.grown (by repeat (first | (with_reducible first | exact HI209.out | apply IsS139.alloc | apply IsS139.drewN | apply IsS139.drew | apply IsS139.set_0 | apply IsS139.set_1) | exact HI209.out)) hg (IsS139.own_ne HI209.out HO_6.out (by decide))); have n1_ := Aside0.mk (hb); have n2_ := Aside0.mk (ho); clear HI209; clear HB; clear HO_6; have HI209 := n0_; have HB := n1_; have HO230 := n2_; clear n0_ n1_ n2_; clear ho hb hg hat))
                        go_roundg kj8
                        case measure => have := HJ2.out; have := HK2.out; have := HJ8.out; omega
                        case rel => exact ⟨(wrap64 (x5_2 - 1)), (y228), (t223), (true), (by first | rfl | (simp; done) | (simp [*]; done) | exact bq1 _ _ | exact bq2 _ _ | exact congrArg Value.bool (bq2 _ _) | exact congrArg Value.bool (bq1 _ _) | exact congrArg Value.bool (bq1' _ _) | exact bq1' _ _ | exact congrArg Value.bool (bq2' _ _) | exact bq2' _ _), H', ⟨by have := HJ2.out; have := HK2.out; have := HJ8.out; omega⟩, ⟨by (with_reducible repeat (first | apply Kd.R_alloc | apply Kd.R_drewN | apply Kd.R_drew)); exact HO230.out⟩, ⟨by repeat (first | (with_reducible first | exact HI209.out | apply IsS139.alloc | apply IsS139.drewN | apply IsS139.drew | apply IsS139.set_0 | apply IsS139.set_1) | exact HI209.out)⟩, ⟨by repeat (first | (with_reducible first | exact HB.out | apply below_alloc | apply pw_below_drewN | apply below_drew1 | refine below_set ?_ (IsS139.ge HI209.out)) | exact HB.out)⟩⟩
                      · rw [if_neg c24] at H
                        exact absurd H (by simp)
                    · replace c22 := Bool.eq_false_iff.mpr c22
                      subst c22
                      have H1 : ((value_Flag.f (t222 == 1)).bind fun bt231 => (if x6_2.length < 4398046511104 then (value_Unpack.l0 kj8 (wrap64 (x5_2 - 1)) (x6_2 ++ [(⟨bt231.1, bt231.2.1, bt231.2.2⟩ : S29)]) t223 (decide (t222 > 1))) else (none))) = some (r1, r2) := by rw [if_neg (show ¬ (false = true) by decide)] at H; exact H
                      clear H
                      have H := H1
                      clear H1
                      replace H := Option.bind_eq_some_iff.mp H
                      obtain ⟨⟨t231, t232, t233⟩, A300, H⟩ := H
                      replace H : (if x6_2.length < 4398046511104 then (value_Unpack.l0 kj8 (wrap64 (x5_2 - 1)) (x6_2 ++ [(⟨t231, t232, t233⟩ : S29)]) t223 (decide (t222 > 1))) else (none)) = some (r1, r2) := H
                      have A30 := Aside0.mk A300
                      clear A300
                      by_cases c31 : x6_2.length < 4398046511104
                      · rw [if_pos c31] at H
                        have LMc31 := Aside0.mk c31
                        clear c31
                        obtain ⟨y234, hy234⟩ : ∃ y_ : List (S29), y_ = (x6_2 ++ [(⟨t231, t232, t233⟩ : S29)]) := ⟨_, rfl⟩
                        replace H : (value_Unpack.l0 kj8 (wrap64 (x5_2 - 1)) y234 t223 (decide (t222 > 1))) = some (r1, r2) := by first | (rw [hy234]; with_reducible exact H) | (have H2_ := (Option.bind_some _ _).symm.trans H; rw [hy234]; with_reducible exact H2_) | (have H2_ := (Option.bind_some _ _).symm.trans H; with_reducible exact H2_) | with_reducible exact H | (rw [hy234]; exact H) | exact H
                        have Ny234 := Aside0.mk hy234
                        clear hy234
                        have H' := Aside0.mk H
                        clear H
                        go_wp2_with (first | ((with_reducible refine gate_callee (f := 120) rfl ?_); refine goesL_ (some 38) rfl rfl Try.func120 (by kernel_rfl) rfl #[.pointer (some ⟨gb209, 0, none⟩)] rfl (by (try simp only [List.map_toArray, List.map_cons, List.map_nil]); first | done | rfl | (simp only [List.length_drop, List.length_take]; rfl) | (simp only [Int.ofNat_lt, Int.ofNat_le]; done) | (simp only [Int.ofNat_lt, Int.ofNat_le]; rfl)) ?_; (with_reducible refine (value_scanner_byte.calls gb209 x210000_2 x210001_2 t213 t214 t215 w _ ?side1 ?side2 A13.out).mono ?_); (case side1 => repeat (first | (with_reducible first | exact HI209.out | apply IsS139.alloc | apply IsS139.drewN | apply IsS139.drew | apply IsS139.set_0 | apply IsS139.set_1) | exact HI209.out)); (case side2 => repeat (first | (with_reducible first | exact HB.out | apply below_alloc | apply pw_below_drewN | apply below_drew1 | refine below_set ?_ (IsS139.ge HI209.out)) | exact HB.out)); rintro e w32 ⟨rfl, hi, hb, hk⟩; refine ⟨_, rfl, ?_⟩; have n0_ := Aside0.mk (Kd.R_mono (Kd.R_keep (IsS139.apart (show IsS139 w _ gb209 x210000_2 x210001_2 from by repeat (first | (with_reducible first | exact HI209.out | apply IsS139.alloc | apply IsS139.drewN | apply IsS139.drew | apply IsS139.set_0 | apply IsS139.set_1) | exact HI209.out)) (by (with_reducible repeat (first | apply Kd.R_alloc | apply Kd.R_drewN | apply Kd.R_drew)); exact HO_6.out) (by decide)) hk (fun _ h => h.2)) (fun _ h => h.1)); have n1_ := Aside0.mk (hb); have n2_ := Aside0.mk (hi); clear HO_6; clear HB; clear HI209; have HO_6 := n0_; have HB := n1_; have HI209 := n2_; clear n0_ n1_ n2_; (try clear hb); (try clear hb2); (try clear hk); (try clear hi)) | ((with_reducible refine gate_callee (f := 120) rfl ?_); refine goesL_ (some 52) rfl rfl Try.func120 (by kernel_rfl) rfl #[.pointer (some ⟨gb209, 0, none⟩)] rfl (by (try simp only [List.map_toArray, List.map_cons, List.map_nil]); first | done | rfl | (simp only [List.length_drop, List.length_take]; rfl) | (simp only [Int.ofNat_lt, Int.ofNat_le]; done) | (simp only [Int.ofNat_lt, Int.ofNat_le]; rfl)) ?_; (with_reducible refine (value_scanner_byte.calls gb209 t214 t215 t222 t223 false w _ ?side1 ?side2 A21.out).mono ?_); (case side1 => repeat (first | (with_reducible first | exact HI209.out | apply IsS139.alloc | apply IsS139.drewN | apply IsS139.drew | apply IsS139.set_0 | apply IsS139.set_1) | exact HI209.out)); (case side2 => repeat (first | (with_reducible first | exact HB.out | apply below_alloc | apply pw_below_drewN | apply below_drew1 | refine below_set ?_ (IsS139.ge HI209.out)) | exact HB.out)); rintro e w33 ⟨rfl, hi, hb, hk⟩; refine ⟨_, rfl, ?_⟩; have n0_ := Aside0.mk (Kd.R_mono (Kd.R_keep (IsS139.apart (show IsS139 w _ gb209 t214 t215 from by repeat (first | (with_reducible first | exact HI209.out | apply IsS139.alloc | apply IsS139.drewN | apply IsS139.drew | apply IsS139.set_0 | apply IsS139.set_1) | exact HI209.out)) (by (with_reducible repeat (first | apply Kd.R_alloc | apply Kd.R_drewN | apply Kd.R_drew)); exact HO_6.out) (by decide)) hk (fun _ h => h.2)) (fun _ h => h.1)); have n1_ := Aside0.mk (hb); have n2_ := Aside0.mk (hi); clear HO_6; clear HB; clear HI209; have HO_6 := n0_; have HB := n1_; have HI209 := n2_; clear n0_ n1_ n2_; (try clear hb); (try clear hb2); (try clear hk); (try clear hi); obtain ⟨HGz34, hgz34⟩ := HI209.out; have hcz34_0 := cellS139_0 HGz34; have hcz34_1 := cellS139_1 HGz34; have hfz34_0 := blk_frozen HGz34 0; have hfz34_1 := blk_frozen HGz34 1; clear HGz34 hgz34) | ((with_reducible refine gate_callee (f := 95) rfl ?_); refine goesL_ (some 67) rfl rfl Try.func95 (by kernel_rfl) rfl #[.bool (t222 == 1)] rfl (by (try simp only [List.map_toArray, List.map_cons, List.map_nil]); first | done | rfl | (simp only [List.length_drop, List.length_take]; rfl) | (simp only [Int.ofNat_lt, Int.ofNat_le]; done) | (simp only [Int.ofNat_lt, Int.ofNat_le]; rfl)) ?_; (with_reducible refine (value_Flag.calls (t222 == 1) t231 t232 t233 _ A30.out).mono ?_); rintro e w35 ⟨rfl, hb⟩; refine ⟨_, rfl, ?_⟩; have n0_ := Aside0.mk (Kd.R_below (by (with_reducible repeat (first | apply Kd.R_alloc | apply Kd.R_drewN | apply Kd.R_drew)); exact (Kd.R_mono (Kd.R_far (p := ⟨gb209, 1, none⟩) (IsS139.apart HI209.out HO_6.out (by decide)) (fun _ hk => hk.2) (.bool (decide (t222 > 1)))) (fun _ h_ => h_.1))) hb); have n1_ := Aside0.mk (IsS139.below (show IsS139 w (w33.setCell ⟨gb209, 1, none⟩ (.bool (decide (t222 > 1)))) gb209 t223 (decide (t222 > 1)) from by repeat (first | (with_reducible first | exact HI209.out | apply IsS139.alloc | apply IsS139.drewN | apply IsS139.drew | apply IsS139.set_0 | apply IsS139.set_1) | exact HI209.out)) hb); have n2_ := Aside0.mk (below_step (by repeat (first | (with_reducible first | exact HB.out | apply below_alloc | apply pw_below_drewN | apply below_drew1 | refine below_set ?_ (IsS139.ge HI209.out)) | exact HB.out)) hb); clear HO_6; clear HI209; clear HB; have HO_6 := n0_; have HI209 := n1_; have HB := n2_; clear n0_ n1_ n2_; (try clear hb); (try clear hb2); (try clear hk); (try clear hi)) | ((with_reducible refine gate_builtin (b := .append) (xs := #[.tmp 64, .tmp 68]) rfl ?_); (try (refine gate_guard (by rfl) ?_; dsimp only)); at_builtin; refine Kd.R_append k29 (w0 := w) w.heap.size rfl (.tmp 64) (.tmp 68) 30 29 (.agg #[(.int .i64 0), (.int .i64 0), (.string ⟨#[]⟩)]) 32 rfl Try.underlying30 info29 rfl (by decide) (by omega) u6 x6_2 (⟨t231, t232, t233⟩ : S29) [.int .i64 t231, .int .i64 t232, .string t233] (fun _ => True) (fun _ => False) rfl rfl ?aP (fun _ hk => hk.elim) ?aF ?aO ?aB ?aS ?aL ?_; (case aP => exact k29_mkM _ _ _ (⟨t231, t232, t233⟩ : S29)); (case aB => exact (by repeat (first | (with_reducible first | exact HB.out | apply below_alloc | apply pw_below_drewN | apply below_drew1 | refine below_set ?_ (IsS139.ge HI209.out)) | exact HB.out))); (case aF => exact (fun _ _ => trivial)); (case aO => exact (by (with_reducible repeat (first | apply Kd.R_alloc | apply Kd.R_drewN | apply Kd.R_drew)); exact HO_6.out)); (case aS => exact (below_size (by repeat (first | (with_reducible first | exact HB.out | apply below_alloc | apply pw_below_drewN | apply below_drew1 | refine below_set ?_ (IsS139.ge HI209.out)) | exact HB.out)))); (case aL => have := LMc31.out; omega); intro v235 w36 ho hb hg hat; rw [← Ny234.out] at ho; have n0_ := Aside0.mk (IsS139.grown (by repeat (first | (with_reducible first | exact HI209.out | apply IsS139.alloc | apply IsS139.drewN | apply IsS139.drew | apply IsS139.set_0 | apply IsS139.set_1) | exact HI209.out)) hg (IsS139.own_ne HI209.out HO_6.out (by decide))); have n1_ := Aside0.mk (hb); have n2_ := Aside0.mk (ho); clear HI209; clear HB; clear HO_6; have HI209 := n0_; have HB := n1_; have HO236 := n2_; clear n0_ n1_ n2_; clear ho hb hg hat))
                        go_roundg kj8
                        case measure => have := HJ2.out; have := HK2.out; have := HJ8.out; omega
                        case rel => exact ⟨(wrap64 (x5_2 - 1)), (y234), (t223), (decide (t222 > 1)), (by first | rfl | (simp; done) | (simp [*]; done) | exact bq1 _ _ | exact bq2 _ _ | exact congrArg Value.bool (bq2 _ _) | exact congrArg Value.bool (bq1 _ _) | exact congrArg Value.bool (bq1' _ _) | exact bq1' _ _ | exact congrArg Value.bool (bq2' _ _) | exact bq2' _ _), H', ⟨by have := HJ2.out; have := HK2.out; have := HJ8.out; omega⟩, ⟨by (with_reducible repeat (first | apply Kd.R_alloc | apply Kd.R_drewN | apply Kd.R_drew)); exact HO236.out⟩, ⟨by repeat (first | (with_reducible first | exact HI209.out | apply IsS139.alloc | apply IsS139.drewN | apply IsS139.drew | apply IsS139.set_0 | apply IsS139.set_1) | exact HI209.out)⟩, ⟨by repeat (first | (with_reducible first | exact HB.out | apply below_alloc | apply pw_below_drewN | apply below_drew1 | refine below_set ?_ (IsS139.ge HI209.out)) | exact HB.out)⟩⟩
                      · rw [if_neg c31] at H
                        exact absurd H (by simp)
                  · rw [if_neg c20] at H
                    have c20b0 : (t213 == 1) = false := beq_eq_false_iff_ne.mpr c20
                    have c20b1 : (t213 != 1) = true := bne_iff_ne.mpr c20
                    by_cases c37 : t213 = 2
                    · rw [if_pos c37] at H
                      have c37b0 : (t213 == 2) = true := beq_iff_eq.mpr c37
                      have c37b1 : (t213 != 2) = false := bne_eq_false_iff_eq.mpr c37
                      clear c37
                      replace H := Option.bind_eq_some_iff.mp H
                      obtain ⟨⟨t237, t238, t239⟩, A380, H⟩ := H
                      replace H : ((value_Of.f (wrap64 (t237))).bind fun bt240 => (if x6_2.length < 4398046511104 then (value_Unpack.l0 kj8 (wrap64 (x5_2 - 1)) (x6_2 ++ [(⟨bt240.1, bt240.2.1, bt240.2.2⟩ : S29)]) t238 t239) else (none))) = some (r1, r2) := H
                      have A38 := Aside0.mk A380
                      clear A380
                      replace H := Option.bind_eq_some_iff.mp H
                      obtain ⟨⟨t240, t241, t242⟩, A390, H⟩ := H
                      replace H : (if x6_2.length < 4398046511104 then (value_Unpack.l0 kj8 (wrap64 (x5_2 - 1)) (x6_2 ++ [(⟨t240, t241, t242⟩ : S29)]) t238 t239) else (none)) = some (r1, r2) := H
                      have A39 := Aside0.mk A390
                      clear A390
                      by_cases c40 : x6_2.length < 4398046511104
                      · rw [if_pos c40] at H
                        have LMc40 := Aside0.mk c40
                        clear c40
                        obtain ⟨y243, hy243⟩ : ∃ y_ : List (S29), y_ = (x6_2 ++ [(⟨t240, t241, t242⟩ : S29)]) := ⟨_, rfl⟩
                        replace H : (value_Unpack.l0 kj8 (wrap64 (x5_2 - 1)) y243 t238 t239) = some (r1, r2) := by first | (rw [hy243]; with_reducible exact H) | (have H2_ := (Option.bind_some _ _).symm.trans H; rw [hy243]; with_reducible exact H2_) | (have H2_ := (Option.bind_some _ _).symm.trans H; with_reducible exact H2_) | with_reducible exact H | (rw [hy243]; exact H) | exact H
                        have Ny243 := Aside0.mk hy243
                        clear hy243
                        have H' := Aside0.mk H
                        clear H
                        go_wp2_with (first | ((with_reducible refine gate_callee (f := 120) rfl ?_); refine goesL_ (some 38) rfl rfl Try.func120 (by kernel_rfl) rfl #[.pointer (some ⟨gb209, 0, none⟩)] rfl (by (try simp only [List.map_toArray, List.map_cons, List.map_nil]); first | done | rfl | (simp only [List.length_drop, List.length_take]; rfl) | (simp only [Int.ofNat_lt, Int.ofNat_le]; done) | (simp only [Int.ofNat_lt, Int.ofNat_le]; rfl)) ?_; (with_reducible refine (value_scanner_byte.calls gb209 x210000_2 x210001_2 t213 t214 t215 w _ ?side1 ?side2 A13.out).mono ?_); (case side1 => repeat (first | (with_reducible first | exact HI209.out | apply IsS139.alloc | apply IsS139.drewN | apply IsS139.drew | apply IsS139.set_0 | apply IsS139.set_1) | exact HI209.out)); (case side2 => repeat (first | (with_reducible first | exact HB.out | apply below_alloc | apply pw_below_drewN | apply below_drew1 | refine below_set ?_ (IsS139.ge HI209.out)) | exact HB.out)); rintro e w41 ⟨rfl, hi, hb, hk⟩; refine ⟨_, rfl, ?_⟩; have n0_ := Aside0.mk (Kd.R_mono (Kd.R_keep (IsS139.apart (show IsS139 w _ gb209 x210000_2 x210001_2 from by repeat (first | (with_reducible first | exact HI209.out | apply IsS139.alloc | apply IsS139.drewN | apply IsS139.drew | apply IsS139.set_0 | apply IsS139.set_1) | exact HI209.out)) (by (with_reducible repeat (first | apply Kd.R_alloc | apply Kd.R_drewN | apply Kd.R_drew)); exact HO_6.out) (by decide)) hk (fun _ h => h.2)) (fun _ h => h.1)); have n1_ := Aside0.mk (hb); have n2_ := Aside0.mk (hi); clear HO_6; clear HB; clear HI209; have HO_6 := n0_; have HB := n1_; have HI209 := n2_; clear n0_ n1_ n2_; (try clear hb); (try clear hb2); (try clear hk); (try clear hi)) | ((with_reducible refine gate_callee (f := 121) rfl ?_); refine goesL_ (some 74) rfl rfl Try.func121 (by kernel_rfl) rfl #[.pointer (some ⟨gb209, 0, none⟩)] rfl (by (try simp only [List.map_toArray, List.map_cons, List.map_nil]); first | done | rfl | (simp only [List.length_drop, List.length_take]; rfl) | (simp only [Int.ofNat_lt, Int.ofNat_le]; done) | (simp only [Int.ofNat_lt, Int.ofNat_le]; rfl)) ?_; (with_reducible refine (value_scanner_long.calls gb209 t214 t215 t237 t238 t239 w _ ?side1 ?side2 A38.out).mono ?_); (case side1 => repeat (first | (with_reducible first | exact HI209.out | apply IsS139.alloc | apply IsS139.drewN | apply IsS139.drew | apply IsS139.set_0 | apply IsS139.set_1) | exact HI209.out)); (case side2 => repeat (first | (with_reducible first | exact HB.out | apply below_alloc | apply pw_below_drewN | apply below_drew1 | refine below_set ?_ (IsS139.ge HI209.out)) | exact HB.out)); rintro e w42 ⟨rfl, hi, hb, hk⟩; refine ⟨_, rfl, ?_⟩; have n0_ := Aside0.mk (Kd.R_mono (Kd.R_keep (IsS139.apart (show IsS139 w _ gb209 t214 t215 from by repeat (first | (with_reducible first | exact HI209.out | apply IsS139.alloc | apply IsS139.drewN | apply IsS139.drew | apply IsS139.set_0 | apply IsS139.set_1) | exact HI209.out)) (by (with_reducible repeat (first | apply Kd.R_alloc | apply Kd.R_drewN | apply Kd.R_drew)); exact HO_6.out) (by decide)) hk (fun _ h => h.2)) (fun _ h => h.1)); have n1_ := Aside0.mk (hb); have n2_ := Aside0.mk (hi); clear HO_6; clear HB; clear HI209; have HO_6 := n0_; have HB := n1_; have HI209 := n2_; clear n0_ n1_ n2_; (try clear hb); (try clear hb2); (try clear hk); (try clear hi)) | ((with_reducible refine gate_callee (f := 96) rfl ?_); refine goesL_ (some 76) rfl rfl Try.func96 (by kernel_rfl) rfl #[.int .i64 (wrap64 (t237))] rfl (by (try simp only [List.map_toArray, List.map_cons, List.map_nil]); first | done | rfl | (simp only [List.length_drop, List.length_take]; rfl) | (simp only [Int.ofNat_lt, Int.ofNat_le]; done) | (simp only [Int.ofNat_lt, Int.ofNat_le]; rfl)) ?_; (with_reducible refine (value_Of.calls (wrap64 (t237)) t240 t241 t242 _ A39.out).mono ?_); rintro e w43 ⟨rfl, hb⟩; refine ⟨_, rfl, ?_⟩; have n0_ := Aside0.mk (Kd.R_below (by (with_reducible repeat (first | apply Kd.R_alloc | apply Kd.R_drewN | apply Kd.R_drew)); exact HO_6.out) hb); have n1_ := Aside0.mk (IsS139.below (by repeat (first | (with_reducible first | exact HI209.out | apply IsS139.alloc | apply IsS139.drewN | apply IsS139.drew | apply IsS139.set_0 | apply IsS139.set_1) | exact HI209.out)) hb); have n2_ := Aside0.mk (below_step (by repeat (first | (with_reducible first | exact HB.out | apply below_alloc | apply pw_below_drewN | apply below_drew1 | refine below_set ?_ (IsS139.ge HI209.out)) | exact HB.out)) hb); clear HO_6; clear HI209; clear HB; have HO_6 := n0_; have HI209 := n1_; have HB := n2_; clear n0_ n1_ n2_; (try clear hb); (try clear hb2); (try clear hk); (try clear hi)) | ((with_reducible refine gate_builtin (b := .append) (xs := #[.tmp 72, .tmp 77]) rfl ?_); (try (refine gate_guard (by rfl) ?_; dsimp only)); at_builtin; refine Kd.R_append k29 (w0 := w) w.heap.size rfl (.tmp 72) (.tmp 77) 30 29 (.agg #[(.int .i64 0), (.int .i64 0), (.string ⟨#[]⟩)]) 32 rfl Try.underlying30 info29 rfl (by decide) (by omega) u6 x6_2 (⟨t240, t241, t242⟩ : S29) [.int .i64 t240, .int .i64 t241, .string t242] (fun _ => True) (fun _ => False) rfl rfl ?aP (fun _ hk => hk.elim) ?aF ?aO ?aB ?aS ?aL ?_; (case aP => exact k29_mkM _ _ _ (⟨t240, t241, t242⟩ : S29)); (case aB => exact (by repeat (first | (with_reducible first | exact HB.out | apply below_alloc | apply pw_below_drewN | apply below_drew1 | refine below_set ?_ (IsS139.ge HI209.out)) | exact HB.out))); (case aF => exact (fun _ _ => trivial)); (case aO => exact (by (with_reducible repeat (first | apply Kd.R_alloc | apply Kd.R_drewN | apply Kd.R_drew)); exact HO_6.out)); (case aS => exact (below_size (by repeat (first | (with_reducible first | exact HB.out | apply below_alloc | apply pw_below_drewN | apply below_drew1 | refine below_set ?_ (IsS139.ge HI209.out)) | exact HB.out)))); (case aL => have := LMc40.out; omega); intro v244 w44 ho hb hg hat; rw [← Ny243.out] at ho; have n0_ := Aside0.mk (IsS139.grown (by repeat (first | (with_reducible first | exact HI209.out | apply IsS139.alloc | apply IsS139.drewN | apply IsS139.drew | apply IsS139.set_0 | apply IsS139.set_1) | exact HI209.out)) hg (IsS139.own_ne HI209.out HO_6.out (by decide))); have n1_ := Aside0.mk (hb); have n2_ := Aside0.mk (ho); clear HI209; clear HB; clear HO_6; have HI209 := n0_; have HB := n1_; have HO245 := n2_; clear n0_ n1_ n2_; clear ho hb hg hat))
                        go_roundg kj8
                        case measure => have := HJ2.out; have := HK2.out; have := HJ8.out; omega
                        case rel => exact ⟨(wrap64 (x5_2 - 1)), (y243), (t238), (t239), (by first | rfl | (simp; done) | (simp [*]; done) | exact bq1 _ _ | exact bq2 _ _ | exact congrArg Value.bool (bq2 _ _) | exact congrArg Value.bool (bq1 _ _) | exact congrArg Value.bool (bq1' _ _) | exact bq1' _ _ | exact congrArg Value.bool (bq2' _ _) | exact bq2' _ _), H', ⟨by have := HJ2.out; have := HK2.out; have := HJ8.out; omega⟩, ⟨by (with_reducible repeat (first | apply Kd.R_alloc | apply Kd.R_drewN | apply Kd.R_drew)); exact HO245.out⟩, ⟨by repeat (first | (with_reducible first | exact HI209.out | apply IsS139.alloc | apply IsS139.drewN | apply IsS139.drew | apply IsS139.set_0 | apply IsS139.set_1) | exact HI209.out)⟩, ⟨by repeat (first | (with_reducible first | exact HB.out | apply below_alloc | apply pw_below_drewN | apply below_drew1 | refine below_set ?_ (IsS139.ge HI209.out)) | exact HB.out)⟩⟩
                      · rw [if_neg c40] at H
                        exact absurd H (by simp)
                    · rw [if_neg c37] at H
                      have c37b0 : (t213 == 2) = false := beq_eq_false_iff_ne.mpr c37
                      have c37b1 : (t213 != 2) = true := bne_iff_ne.mpr c37
                      by_cases c45 : t213 = 3
                      · rw [if_pos c45] at H
                        have c45b0 : (t213 == 3) = true := beq_iff_eq.mpr c45
                        have c45b1 : (t213 != 3) = false := bne_eq_false_iff_eq.mpr c45
                        clear c45
                        replace H := Option.bind_eq_some_iff.mp H
                        obtain ⟨⟨t246, t247, t248⟩, A460, H⟩ := H
                        replace H : ((value_scanner_byte.f t247 t248).bind fun bt249 => (if bt249.2.2 = true then ((value_scanner_take.f bt249.2.1 true (Go.bits .or .i64 (wrap64 (t246 * 256)) bt249.1)).bind fun bt252 => ((value_Str.f bt252.1).bind fun bt255 => (if x6_2.length < 4398046511104 then (value_Unpack.l0 kj8 (wrap64 (x5_2 - 1)) (x6_2 ++ [(⟨bt255.1, bt255.2.1, bt255.2.2⟩ : S29)]) bt252.2.1 bt252.2.2) else (none)))) else ((value_scanner_take.f bt249.2.1 (decide ((Go.bits .or .i64 (wrap64 (t246 * 256)) bt249.1) > 1000)) (Go.bits .or .i64 (wrap64 (t246 * 256)) bt249.1)).bind fun bt261 => ((value_Str.f bt261.1).bind fun bt264 => (if x6_2.length < 4398046511104 then (value_Unpack.l0 kj8 (wrap64 (x5_2 - 1)) (x6_2 ++ [(⟨bt264.1, bt264.2.1, bt264.2.2⟩ : S29)]) bt261.2.1 bt261.2.2) else (none)))))) = some (r1, r2) := H
                        have A46 := Aside0.mk A460
                        clear A460
                        replace H := Option.bind_eq_some_iff.mp H
                        obtain ⟨⟨t249, t250, t251⟩, A470, H⟩ := H
                        replace H : (if t251 = true then ((value_scanner_take.f t250 true (Go.bits .or .i64 (wrap64 (t246 * 256)) t249)).bind fun bt252 => ((value_Str.f bt252.1).bind fun bt255 => (if x6_2.length < 4398046511104 then (value_Unpack.l0 kj8 (wrap64 (x5_2 - 1)) (x6_2 ++ [(⟨bt255.1, bt255.2.1, bt255.2.2⟩ : S29)]) bt252.2.1 bt252.2.2) else (none)))) else ((value_scanner_take.f t250 (decide ((Go.bits .or .i64 (wrap64 (t246 * 256)) t249) > 1000)) (Go.bits .or .i64 (wrap64 (t246 * 256)) t249)).bind fun bt261 => ((value_Str.f bt261.1).bind fun bt264 => (if x6_2.length < 4398046511104 then (value_Unpack.l0 kj8 (wrap64 (x5_2 - 1)) (x6_2 ++ [(⟨bt264.1, bt264.2.1, bt264.2.2⟩ : S29)]) bt261.2.1 bt261.2.2) else (none))))) = some (r1, r2) := H
                        have A47 := Aside0.mk A470
                        clear A470
                        by_cases c48 : t251 = true
                        · subst c48
                          have H1 : ((value_scanner_take.f t250 true (Go.bits .or .i64 (wrap64 (t246 * 256)) t249)).bind fun bt252 => ((value_Str.f bt252.1).bind fun bt255 => (if x6_2.length < 4398046511104 then (value_Unpack.l0 kj8 (wrap64 (x5_2 - 1)) (x6_2 ++ [(⟨bt255.1, bt255.2.1, bt255.2.2⟩ : S29)]) bt252.2.1 bt252.2.2) else (none)))) = some (r1, r2) := by rw [if_pos rfl] at H; exact H
                          clear H
                          have H := H1
                          clear H1
                          replace H := Option.bind_eq_some_iff.mp H
                          obtain ⟨⟨t252, t253, t254⟩, A490, H⟩ := H
                          replace H : ((value_Str.f t252).bind fun bt255 => (if x6_2.length < 4398046511104 then (value_Unpack.l0 kj8 (wrap64 (x5_2 - 1)) (x6_2 ++ [(⟨bt255.1, bt255.2.1, bt255.2.2⟩ : S29)]) t253 t254) else (none))) = some (r1, r2) := H
                          have A49 := Aside0.mk A490
                          clear A490
                          replace H := Option.bind_eq_some_iff.mp H
                          obtain ⟨⟨t255, t256, t257⟩, A500, H⟩ := H
                          replace H : (if x6_2.length < 4398046511104 then (value_Unpack.l0 kj8 (wrap64 (x5_2 - 1)) (x6_2 ++ [(⟨t255, t256, t257⟩ : S29)]) t253 t254) else (none)) = some (r1, r2) := H
                          have A50 := Aside0.mk A500
                          clear A500
                          by_cases c51 : x6_2.length < 4398046511104
                          · rw [if_pos c51] at H
                            have LMc51 := Aside0.mk c51
                            clear c51
                            obtain ⟨y258, hy258⟩ : ∃ y_ : List (S29), y_ = (x6_2 ++ [(⟨t255, t256, t257⟩ : S29)]) := ⟨_, rfl⟩
                            replace H : (value_Unpack.l0 kj8 (wrap64 (x5_2 - 1)) y258 t253 t254) = some (r1, r2) := by first | (rw [hy258]; with_reducible exact H) | (have H2_ := (Option.bind_some _ _).symm.trans H; rw [hy258]; with_reducible exact H2_) | (have H2_ := (Option.bind_some _ _).symm.trans H; with_reducible exact H2_) | with_reducible exact H | (rw [hy258]; exact H) | exact H
                            have Ny258 := Aside0.mk hy258
                            clear hy258
                            have H' := Aside0.mk H
                            clear H
                            go_wp2_with (first | ((with_reducible refine gate_callee (f := 120) rfl ?_); refine goesL_ (some 38) rfl rfl Try.func120 (by kernel_rfl) rfl #[.pointer (some ⟨gb209, 0, none⟩)] rfl (by (try simp only [List.map_toArray, List.map_cons, List.map_nil]); first | done | rfl | (simp only [List.length_drop, List.length_take]; rfl) | (simp only [Int.ofNat_lt, Int.ofNat_le]; done) | (simp only [Int.ofNat_lt, Int.ofNat_le]; rfl)) ?_; (with_reducible refine (value_scanner_byte.calls gb209 x210000_2 x210001_2 t213 t214 t215 w _ ?side1 ?side2 A13.out).mono ?_); (case side1 => repeat (first | (with_reducible first | exact HI209.out | apply IsS139.alloc | apply IsS139.drewN | apply IsS139.drew | apply IsS139.set_0 | apply IsS139.set_1) | exact HI209.out)); (case side2 => repeat (first | (with_reducible first | exact HB.out | apply below_alloc | apply pw_below_drewN | apply below_drew1 | refine below_set ?_ (IsS139.ge HI209.out)) | exact HB.out)); rintro e w52 ⟨rfl, hi, hb, hk⟩; refine ⟨_, rfl, ?_⟩; have n0_ := Aside0.mk (Kd.R_mono (Kd.R_keep (IsS139.apart (show IsS139 w _ gb209 x210000_2 x210001_2 from by repeat (first | (with_reducible first | exact HI209.out | apply IsS139.alloc | apply IsS139.drewN | apply IsS139.drew | apply IsS139.set_0 | apply IsS139.set_1) | exact HI209.out)) (by (with_reducible repeat (first | apply Kd.R_alloc | apply Kd.R_drewN | apply Kd.R_drew)); exact HO_6.out) (by decide)) hk (fun _ h => h.2)) (fun _ h => h.1)); have n1_ := Aside0.mk (hb); have n2_ := Aside0.mk (hi); clear HO_6; clear HB; clear HI209; have HO_6 := n0_; have HB := n1_; have HI209 := n2_; clear n0_ n1_ n2_; (try clear hb); (try clear hb2); (try clear hk); (try clear hi)) | ((with_reducible refine gate_callee (f := 120) rfl ?_); refine goesL_ (some 82) rfl rfl Try.func120 (by kernel_rfl) rfl #[.pointer (some ⟨gb209, 0, none⟩)] rfl (by (try simp only [List.map_toArray, List.map_cons, List.map_nil]); first | done | rfl | (simp only [List.length_drop, List.length_take]; rfl) | (simp only [Int.ofNat_lt, Int.ofNat_le]; done) | (simp only [Int.ofNat_lt, Int.ofNat_le]; rfl)) ?_; (with_reducible refine (value_scanner_byte.calls gb209 t214 t215 t246 t247 t248 w _ ?side1 ?side2 A46.out).mono ?_); (case side1 => repeat (first | (with_reducible first | exact HI209.out | apply IsS139.alloc | apply IsS139.drewN | apply IsS139.drew | apply IsS139.set_0 | apply IsS139.set_1) | exact HI209.out)); (case side2 => repeat (first | (with_reducible first | exact HB.out | apply below_alloc | apply pw_below_drewN | apply below_drew1 | refine below_set ?_ (IsS139.ge HI209.out)) | exact HB.out)); rintro e w53 ⟨rfl, hi, hb, hk⟩; refine ⟨_, rfl, ?_⟩; have n0_ := Aside0.mk (Kd.R_mono (Kd.R_keep (IsS139.apart (show IsS139 w _ gb209 t214 t215 from by repeat (first | (with_reducible first | exact HI209.out | apply IsS139.alloc | apply IsS139.drewN | apply IsS139.drew | apply IsS139.set_0 | apply IsS139.set_1) | exact HI209.out)) (by (with_reducible repeat (first | apply Kd.R_alloc | apply Kd.R_drewN | apply Kd.R_drew)); exact HO_6.out) (by decide)) hk (fun _ h => h.2)) (fun _ h => h.1)); have n1_ := Aside0.mk (hb); have n2_ := Aside0.mk (hi); clear HO_6; clear HB; clear HI209; have HO_6 := n0_; have HB := n1_; have HI209 := n2_; clear n0_ n1_ n2_; (try clear hb); (try clear hb2); (try clear hk); (try clear hi)) | ((with_reducible refine gate_callee (f := 120) rfl ?_); refine goesL_ (some 85) rfl rfl Try.func120 (by kernel_rfl) rfl #[.pointer (some ⟨gb209, 0, none⟩)] rfl (by (try simp only [List.map_toArray, List.map_cons, List.map_nil]); first | done | rfl | (simp only [List.length_drop, List.length_take]; rfl) | (simp only [Int.ofNat_lt, Int.ofNat_le]; done) | (simp only [Int.ofNat_lt, Int.ofNat_le]; rfl)) ?_; (with_reducible refine (value_scanner_byte.calls gb209 t247 t248 t249 t250 true w _ ?side1 ?side2 A47.out).mono ?_); (case side1 => repeat (first | (with_reducible first | exact HI209.out | apply IsS139.alloc | apply IsS139.drewN | apply IsS139.drew | apply IsS139.set_0 | apply IsS139.set_1) | exact HI209.out)); (case side2 => repeat (first | (with_reducible first | exact HB.out | apply below_alloc | apply pw_below_drewN | apply below_drew1 | refine below_set ?_ (IsS139.ge HI209.out)) | exact HB.out)); rintro e w54 ⟨rfl, hi, hb, hk⟩; refine ⟨_, rfl, ?_⟩; have n0_ := Aside0.mk (Kd.R_mono (Kd.R_keep (IsS139.apart (show IsS139 w _ gb209 t247 t248 from by repeat (first | (with_reducible first | exact HI209.out | apply IsS139.alloc | apply IsS139.drewN | apply IsS139.drew | apply IsS139.set_0 | apply IsS139.set_1) | exact HI209.out)) (by (with_reducible repeat (first | apply Kd.R_alloc | apply Kd.R_drewN | apply Kd.R_drew)); exact HO_6.out) (by decide)) hk (fun _ h => h.2)) (fun _ h => h.1)); have n1_ := Aside0.mk (hb); have n2_ := Aside0.mk (hi); clear HO_6; clear HB; clear HI209; have HO_6 := n0_; have HB := n1_; have HI209 := n2_; clear n0_ n1_ n2_; (try clear hb); (try clear hb2); (try clear hk); (try clear hi); obtain ⟨HGz55, hgz55⟩ := HI209.out; have hcz55_0 := cellS139_0 HGz55; have hcz55_1 := cellS139_1 HGz55; have hfz55_0 := blk_frozen HGz55 0; have hfz55_1 := blk_frozen HGz55 1; clear HGz55 hgz55) | ((with_reducible refine gate_callee (f := 122) rfl ?_); refine goesL_ (some 101) rfl rfl Try.func122 (by kernel_rfl) rfl #[.pointer (some ⟨gb209, 0, none⟩), .int .i64 (Go.bits .or .i64 (wrap64 (t246 * 256)) t249)] rfl (by (try simp only [List.map_toArray, List.map_cons, List.map_nil]); first | done | rfl | (simp only [List.length_drop, List.length_take]; rfl) | (simp only [Int.ofNat_lt, Int.ofNat_le]; done) | (simp only [Int.ofNat_lt, Int.ofNat_le]; rfl)) ?_; (with_reducible refine (value_scanner_take.calls gb209 t250 true (Go.bits .or .i64 (wrap64 (t246 * 256)) t249) t252 t253 t254 w _ ?side1 ?side2 A49.out).mono ?_); (case side1 => repeat (first | (with_reducible first | exact HI209.out | apply IsS139.alloc | apply IsS139.drewN | apply IsS139.drew | apply IsS139.set_0 | apply IsS139.set_1) | exact HI209.out)); (case side2 => repeat (first | (with_reducible first | exact HB.out | apply below_alloc | apply pw_below_drewN | apply below_drew1 | refine below_set ?_ (IsS139.ge HI209.out)) | exact HB.out)); rintro e w56 ⟨rfl, hi, hb, hk⟩; refine ⟨_, rfl, ?_⟩; have n0_ := Aside0.mk (Kd.R_mono (Kd.R_keep (IsS139.apart (show IsS139 w _ gb209 t250 true from by repeat (first | (with_reducible first | exact HI209.out | apply IsS139.alloc | apply IsS139.drewN | apply IsS139.drew | apply IsS139.set_0 | apply IsS139.set_1) | exact HI209.out)) (by (with_reducible repeat (first | apply Kd.R_alloc | apply Kd.R_drewN | apply Kd.R_drew)); exact (Kd.R_mono (Kd.R_far (p := ⟨gb209, 1, none⟩) (IsS139.apart HI209.out HO_6.out (by decide)) (fun _ hk => hk.2) (.bool true)) (fun _ h_ => h_.1))) (by decide)) hk (fun _ h => h.2)) (fun _ h => h.1)); have n1_ := Aside0.mk (hb); have n2_ := Aside0.mk (hi); clear HO_6; clear HB; clear HI209; have HO_6 := n0_; have HB := n1_; have HI209 := n2_; clear n0_ n1_ n2_; (try clear hb); (try clear hb2); (try clear hk); (try clear hi)) | ((with_reducible refine gate_callee (f := 97) rfl ?_); refine goesL_ (some 102) rfl rfl Try.func97 (by kernel_rfl) rfl #[.string t252] rfl (by (try simp only [List.map_toArray, List.map_cons, List.map_nil]); first | done | rfl | (simp only [List.length_drop, List.length_take]; rfl) | (simp only [Int.ofNat_lt, Int.ofNat_le]; done) | (simp only [Int.ofNat_lt, Int.ofNat_le]; rfl)) ?_; (with_reducible refine (value_Str.calls t252 t255 t256 t257 _ A50.out).mono ?_); rintro e w57 ⟨rfl, hb⟩; refine ⟨_, rfl, ?_⟩; have n0_ := Aside0.mk (Kd.R_below (by (with_reducible repeat (first | apply Kd.R_alloc | apply Kd.R_drewN | apply Kd.R_drew)); exact HO_6.out) hb); have n1_ := Aside0.mk (IsS139.below (by repeat (first | (with_reducible first | exact HI209.out | apply IsS139.alloc | apply IsS139.drewN | apply IsS139.drew | apply IsS139.set_0 | apply IsS139.set_1) | exact HI209.out)) hb); have n2_ := Aside0.mk (below_step (by repeat (first | (with_reducible first | exact HB.out | apply below_alloc | apply pw_below_drewN | apply below_drew1 | refine below_set ?_ (IsS139.ge HI209.out)) | exact HB.out)) hb); clear HO_6; clear HI209; clear HB; have HO_6 := n0_; have HI209 := n1_; have HB := n2_; clear n0_ n1_ n2_; (try clear hb); (try clear hb2); (try clear hk); (try clear hi)) | ((with_reducible refine gate_builtin (b := .append) (xs := #[.tmp 98, .tmp 103]) rfl ?_); (try (refine gate_guard (by rfl) ?_; dsimp only)); at_builtin; refine Kd.R_append k29 (w0 := w) w.heap.size rfl (.tmp 98) (.tmp 103) 30 29 (.agg #[(.int .i64 0), (.int .i64 0), (.string ⟨#[]⟩)]) 32 rfl Try.underlying30 info29 rfl (by decide) (by omega) u6 x6_2 (⟨t255, t256, t257⟩ : S29) [.int .i64 t255, .int .i64 t256, .string t257] (fun _ => True) (fun _ => False) rfl rfl ?aP (fun _ hk => hk.elim) ?aF ?aO ?aB ?aS ?aL ?_; (case aP => exact k29_mkM _ _ _ (⟨t255, t256, t257⟩ : S29)); (case aB => exact (by repeat (first | (with_reducible first | exact HB.out | apply below_alloc | apply pw_below_drewN | apply below_drew1 | refine below_set ?_ (IsS139.ge HI209.out)) | exact HB.out))); (case aF => exact (fun _ _ => trivial)); (case aO => exact (by (with_reducible repeat (first | apply Kd.R_alloc | apply Kd.R_drewN | apply Kd.R_drew)); exact HO_6.out)); (case aS => exact (below_size (by repeat (first | (with_reducible first | exact HB.out | apply below_alloc | apply pw_below_drewN | apply below_drew1 | refine below_set ?_ (IsS139.ge HI209.out)) | exact HB.out)))); (case aL => have := LMc51.out; omega); intro v259 w58 ho hb hg hat; rw [← Ny258.out] at ho; have n0_ := Aside0.mk (IsS139.grown (by repeat (first | (with_reducible first | exact HI209.out | apply IsS139.alloc | apply IsS139.drewN | apply IsS139.drew | apply IsS139.set_0 | apply IsS139.set_1) | exact HI209.out)) hg (IsS139.own_ne HI209.out HO_6.out (by decide))); have n1_ := Aside0.mk (hb); have n2_ := Aside0.mk (ho); clear HI209; clear HB; clear HO_6; have HI209 := n0_; have HB := n1_; have HO260 := n2_; clear n0_ n1_ n2_; clear ho hb hg hat))
                            go_roundg kj8
                            case measure => have := HJ2.out; have := HK2.out; have := HJ8.out; omega
                            case rel => exact ⟨(wrap64 (x5_2 - 1)), (y258), (t253), (t254), (by first | rfl | (simp; done) | (simp [*]; done) | exact bq1 _ _ | exact bq2 _ _ | exact congrArg Value.bool (bq2 _ _) | exact congrArg Value.bool (bq1 _ _) | exact congrArg Value.bool (bq1' _ _) | exact bq1' _ _ | exact congrArg Value.bool (bq2' _ _) | exact bq2' _ _), H', ⟨by have := HJ2.out; have := HK2.out; have := HJ8.out; omega⟩, ⟨by (with_reducible repeat (first | apply Kd.R_alloc | apply Kd.R_drewN | apply Kd.R_drew)); exact HO260.out⟩, ⟨by repeat (first | (with_reducible first | exact HI209.out | apply IsS139.alloc | apply IsS139.drewN | apply IsS139.drew | apply IsS139.set_0 | apply IsS139.set_1) | exact HI209.out)⟩, ⟨by repeat (first | (with_reducible first | exact HB.out | apply below_alloc | apply pw_below_drewN | apply below_drew1 | refine below_set ?_ (IsS139.ge HI209.out)) | exact HB.out)⟩⟩
                          · rw [if_neg c51] at H
                            exact absurd H (by simp)
                        · replace c48 := Bool.eq_false_iff.mpr c48
                          subst c48
                          have H1 : ((value_scanner_take.f t250 (decide ((Go.bits .or .i64 (wrap64 (t246 * 256)) t249) > 1000)) (Go.bits .or .i64 (wrap64 (t246 * 256)) t249)).bind fun bt261 => ((value_Str.f bt261.1).bind fun bt264 => (if x6_2.length < 4398046511104 then (value_Unpack.l0 kj8 (wrap64 (x5_2 - 1)) (x6_2 ++ [(⟨bt264.1, bt264.2.1, bt264.2.2⟩ : S29)]) bt261.2.1 bt261.2.2) else (none)))) = some (r1, r2) := by rw [if_neg (show ¬ (false = true) by decide)] at H; exact H
                          clear H
                          have H := H1
                          clear H1
                          replace H := Option.bind_eq_some_iff.mp H
                          obtain ⟨⟨t261, t262, t263⟩, A590, H⟩ := H
                          replace H : ((value_Str.f t261).bind fun bt264 => (if x6_2.length < 4398046511104 then (value_Unpack.l0 kj8 (wrap64 (x5_2 - 1)) (x6_2 ++ [(⟨bt264.1, bt264.2.1, bt264.2.2⟩ : S29)]) t262 t263) else (none))) = some (r1, r2) := H
                          have A59 := Aside0.mk A590
                          clear A590
                          replace H := Option.bind_eq_some_iff.mp H
                          obtain ⟨⟨t264, t265, t266⟩, A600, H⟩ := H
                          replace H : (if x6_2.length < 4398046511104 then (value_Unpack.l0 kj8 (wrap64 (x5_2 - 1)) (x6_2 ++ [(⟨t264, t265, t266⟩ : S29)]) t262 t263) else (none)) = some (r1, r2) := H
                          have A60 := Aside0.mk A600
                          clear A600
                          by_cases c61 : x6_2.length < 4398046511104
                          · rw [if_pos c61] at H
                            have LMc61 := Aside0.mk c61
                            clear c61
                            obtain ⟨y267, hy267⟩ : ∃ y_ : List (S29), y_ = (x6_2 ++ [(⟨t264, t265, t266⟩ : S29)]) := ⟨_, rfl⟩
                            replace H : (value_Unpack.l0 kj8 (wrap64 (x5_2 - 1)) y267 t262 t263) = some (r1, r2) := by first | (rw [hy267]; with_reducible exact H) | (have H2_ := (Option.bind_some _ _).symm.trans H; rw [hy267]; with_reducible exact H2_) | (have H2_ := (Option.bind_some _ _).symm.trans H; with_reducible exact H2_) | with_reducible exact H | (rw [hy267]; exact H) | exact H
                            have Ny267 := Aside0.mk hy267
                            clear hy267
                            have H' := Aside0.mk H
                            clear H
                            go_wp2_with (first | ((with_reducible refine gate_callee (f := 120) rfl ?_); refine goesL_ (some 38) rfl rfl Try.func120 (by kernel_rfl) rfl #[.pointer (some ⟨gb209, 0, none⟩)] rfl (by (try simp only [List.map_toArray, List.map_cons, List.map_nil]); first | done | rfl | (simp only [List.length_drop, List.length_take]; rfl) | (simp only [Int.ofNat_lt, Int.ofNat_le]; done) | (simp only [Int.ofNat_lt, Int.ofNat_le]; rfl)) ?_; (with_reducible refine (value_scanner_byte.calls gb209 x210000_2 x210001_2 t213 t214 t215 w _ ?side1 ?side2 A13.out).mono ?_); (case side1 => repeat (first | (with_reducible first | exact HI209.out | apply IsS139.alloc | apply IsS139.drewN | apply IsS139.drew | apply IsS139.set_0 | apply IsS139.set_1) | exact HI209.out)); (case side2 => repeat (first | (with_reducible first | exact HB.out | apply below_alloc | apply pw_below_drewN | apply below_drew1 | refine below_set ?_ (IsS139.ge HI209.out)) | exact HB.out)); rintro e w62 ⟨rfl, hi, hb, hk⟩; refine ⟨_, rfl, ?_⟩; have n0_ := Aside0.mk (Kd.R_mono (Kd.R_keep (IsS139.apart (show IsS139 w _ gb209 x210000_2 x210001_2 from by repeat (first | (with_reducible first | exact HI209.out | apply IsS139.alloc | apply IsS139.drewN | apply IsS139.drew | apply IsS139.set_0 | apply IsS139.set_1) | exact HI209.out)) (by (with_reducible repeat (first | apply Kd.R_alloc | apply Kd.R_drewN | apply Kd.R_drew)); exact HO_6.out) (by decide)) hk (fun _ h => h.2)) (fun _ h => h.1)); have n1_ := Aside0.mk (hb); have n2_ := Aside0.mk (hi); clear HO_6; clear HB; clear HI209; have HO_6 := n0_; have HB := n1_; have HI209 := n2_; clear n0_ n1_ n2_; (try clear hb); (try clear hb2); (try clear hk); (try clear hi)) | ((with_reducible refine gate_callee (f := 120) rfl ?_); refine goesL_ (some 82) rfl rfl Try.func120 (by kernel_rfl) rfl #[.pointer (some ⟨gb209, 0, none⟩)] rfl (by (try simp only [List.map_toArray, List.map_cons, List.map_nil]); first | done | rfl | (simp only [List.length_drop, List.length_take]; rfl) | (simp only [Int.ofNat_lt, Int.ofNat_le]; done) | (simp only [Int.ofNat_lt, Int.ofNat_le]; rfl)) ?_; (with_reducible refine (value_scanner_byte.calls gb209 t214 t215 t246 t247 t248 w _ ?side1 ?side2 A46.out).mono ?_); (case side1 => repeat (first | (with_reducible first | exact HI209.out | apply IsS139.alloc | apply IsS139.drewN | apply IsS139.drew | apply IsS139.set_0 | apply IsS139.set_1) | exact HI209.out)); (case side2 => repeat (first | (with_reducible first | exact HB.out | apply below_alloc | apply pw_below_drewN | apply below_drew1 | refine below_set ?_ (IsS139.ge HI209.out)) | exact HB.out)); rintro e w63 ⟨rfl, hi, hb, hk⟩; refine ⟨_, rfl, ?_⟩; have n0_ := Aside0.mk (Kd.R_mono (Kd.R_keep (IsS139.apart (show IsS139 w _ gb209 t214 t215 from by repeat (first | (with_reducible first | exact HI209.out | apply IsS139.alloc | apply IsS139.drewN | apply IsS139.drew | apply IsS139.set_0 | apply IsS139.set_1) | exact HI209.out)) (by (with_reducible repeat (first | apply Kd.R_alloc | apply Kd.R_drewN | apply Kd.R_drew)); exact HO_6.out) (by decide)) hk (fun _ h => h.2)) (fun _ h => h.1)); have n1_ := Aside0.mk (hb); have n2_ := Aside0.mk (hi); clear HO_6; clear HB; clear HI209; have HO_6 := n0_; have HB := n1_; have HI209 := n2_; clear n0_ n1_ n2_; (try clear hb); (try clear hb2); (try clear hk); (try clear hi)) | ((with_reducible refine gate_callee (f := 120) rfl ?_); refine goesL_ (some 85) rfl rfl Try.func120 (by kernel_rfl) rfl #[.pointer (some ⟨gb209, 0, none⟩)] rfl (by (try simp only [List.map_toArray, List.map_cons, List.map_nil]); first | done | rfl | (simp only [List.length_drop, List.length_take]; rfl) | (simp only [Int.ofNat_lt, Int.ofNat_le]; done) | (simp only [Int.ofNat_lt, Int.ofNat_le]; rfl)) ?_; (with_reducible refine (value_scanner_byte.calls gb209 t247 t248 t249 t250 false w _ ?side1 ?side2 A47.out).mono ?_); (case side1 => repeat (first | (with_reducible first | exact HI209.out | apply IsS139.alloc | apply IsS139.drewN | apply IsS139.drew | apply IsS139.set_0 | apply IsS139.set_1) | exact HI209.out)); (case side2 => repeat (first | (with_reducible first | exact HB.out | apply below_alloc | apply pw_below_drewN | apply below_drew1 | refine below_set ?_ (IsS139.ge HI209.out)) | exact HB.out)); rintro e w64 ⟨rfl, hi, hb, hk⟩; refine ⟨_, rfl, ?_⟩; have n0_ := Aside0.mk (Kd.R_mono (Kd.R_keep (IsS139.apart (show IsS139 w _ gb209 t247 t248 from by repeat (first | (with_reducible first | exact HI209.out | apply IsS139.alloc | apply IsS139.drewN | apply IsS139.drew | apply IsS139.set_0 | apply IsS139.set_1) | exact HI209.out)) (by (with_reducible repeat (first | apply Kd.R_alloc | apply Kd.R_drewN | apply Kd.R_drew)); exact HO_6.out) (by decide)) hk (fun _ h => h.2)) (fun _ h => h.1)); have n1_ := Aside0.mk (hb); have n2_ := Aside0.mk (hi); clear HO_6; clear HB; clear HI209; have HO_6 := n0_; have HB := n1_; have HI209 := n2_; clear n0_ n1_ n2_; (try clear hb); (try clear hb2); (try clear hk); (try clear hi); obtain ⟨HGz65, hgz65⟩ := HI209.out; have hcz65_0 := cellS139_0 HGz65; have hcz65_1 := cellS139_1 HGz65; have hfz65_0 := blk_frozen HGz65 0; have hfz65_1 := blk_frozen HGz65 1; clear HGz65 hgz65) | ((with_reducible refine gate_callee (f := 122) rfl ?_); refine goesL_ (some 101) rfl rfl Try.func122 (by kernel_rfl) rfl #[.pointer (some ⟨gb209, 0, none⟩), .int .i64 (Go.bits .or .i64 (wrap64 (t246 * 256)) t249)] rfl (by (try simp only [List.map_toArray, List.map_cons, List.map_nil]); first | done | rfl | (simp only [List.length_drop, List.length_take]; rfl) | (simp only [Int.ofNat_lt, Int.ofNat_le]; done) | (simp only [Int.ofNat_lt, Int.ofNat_le]; rfl)) ?_; (with_reducible refine (value_scanner_take.calls gb209 t250 (decide ((Go.bits .or .i64 (wrap64 (t246 * 256)) t249) > 1000)) (Go.bits .or .i64 (wrap64 (t246 * 256)) t249) t261 t262 t263 w _ ?side1 ?side2 A59.out).mono ?_); (case side1 => repeat (first | (with_reducible first | exact HI209.out | apply IsS139.alloc | apply IsS139.drewN | apply IsS139.drew | apply IsS139.set_0 | apply IsS139.set_1) | exact HI209.out)); (case side2 => repeat (first | (with_reducible first | exact HB.out | apply below_alloc | apply pw_below_drewN | apply below_drew1 | refine below_set ?_ (IsS139.ge HI209.out)) | exact HB.out)); rintro e w66 ⟨rfl, hi, hb, hk⟩; refine ⟨_, rfl, ?_⟩; have n0_ := Aside0.mk (Kd.R_mono (Kd.R_keep (IsS139.apart (show IsS139 w _ gb209 t250 (decide ((Go.bits .or .i64 (wrap64 (t246 * 256)) t249) > 1000)) from by repeat (first | (with_reducible first | exact HI209.out | apply IsS139.alloc | apply IsS139.drewN | apply IsS139.drew | apply IsS139.set_0 | apply IsS139.set_1) | exact HI209.out)) (by (with_reducible repeat (first | apply Kd.R_alloc | apply Kd.R_drewN | apply Kd.R_drew)); exact (Kd.R_mono (Kd.R_far (p := ⟨gb209, 1, none⟩) (IsS139.apart HI209.out HO_6.out (by decide)) (fun _ hk => hk.2) (.bool (decide ((Go.bits .or .i64 (wrap64 (t246 * 256)) t249) > 1000)))) (fun _ h_ => h_.1))) (by decide)) hk (fun _ h => h.2)) (fun _ h => h.1)); have n1_ := Aside0.mk (hb); have n2_ := Aside0.mk (hi); clear HO_6; clear HB; clear HI209; have HO_6 := n0_; have HB := n1_; have HI209 := n2_; clear n0_ n1_ n2_; (try clear hb); (try clear hb2); (try clear hk); (try clear hi)) | ((with_reducible refine gate_callee (f := 97) rfl ?_); refine goesL_ (some 102) rfl rfl Try.func97 (by kernel_rfl) rfl #[.string t261] rfl (by (try simp only [List.map_toArray, List.map_cons, List.map_nil]); first | done | rfl | (simp only [List.length_drop, List.length_take]; rfl) | (simp only [Int.ofNat_lt, Int.ofNat_le]; done) | (simp only [Int.ofNat_lt, Int.ofNat_le]; rfl)) ?_; (with_reducible refine (value_Str.calls t261 t264 t265 t266 _ A60.out).mono ?_); rintro e w67 ⟨rfl, hb⟩; refine ⟨_, rfl, ?_⟩; have n0_ := Aside0.mk (Kd.R_below (by (with_reducible repeat (first | apply Kd.R_alloc | apply Kd.R_drewN | apply Kd.R_drew)); exact HO_6.out) hb); have n1_ := Aside0.mk (IsS139.below (by repeat (first | (with_reducible first | exact HI209.out | apply IsS139.alloc | apply IsS139.drewN | apply IsS139.drew | apply IsS139.set_0 | apply IsS139.set_1) | exact HI209.out)) hb); have n2_ := Aside0.mk (below_step (by repeat (first | (with_reducible first | exact HB.out | apply below_alloc | apply pw_below_drewN | apply below_drew1 | refine below_set ?_ (IsS139.ge HI209.out)) | exact HB.out)) hb); clear HO_6; clear HI209; clear HB; have HO_6 := n0_; have HI209 := n1_; have HB := n2_; clear n0_ n1_ n2_; (try clear hb); (try clear hb2); (try clear hk); (try clear hi)) | ((with_reducible refine gate_builtin (b := .append) (xs := #[.tmp 98, .tmp 103]) rfl ?_); (try (refine gate_guard (by rfl) ?_; dsimp only)); at_builtin; refine Kd.R_append k29 (w0 := w) w.heap.size rfl (.tmp 98) (.tmp 103) 30 29 (.agg #[(.int .i64 0), (.int .i64 0), (.string ⟨#[]⟩)]) 32 rfl Try.underlying30 info29 rfl (by decide) (by omega) u6 x6_2 (⟨t264, t265, t266⟩ : S29) [.int .i64 t264, .int .i64 t265, .string t266] (fun _ => True) (fun _ => False) rfl rfl ?aP (fun _ hk => hk.elim) ?aF ?aO ?aB ?aS ?aL ?_; (case aP => exact k29_mkM _ _ _ (⟨t264, t265, t266⟩ : S29)); (case aB => exact (by repeat (first | (with_reducible first | exact HB.out | apply below_alloc | apply pw_below_drewN | apply below_drew1 | refine below_set ?_ (IsS139.ge HI209.out)) | exact HB.out))); (case aF => exact (fun _ _ => trivial)); (case aO => exact (by (with_reducible repeat (first | apply Kd.R_alloc | apply Kd.R_drewN | apply Kd.R_drew)); exact HO_6.out)); (case aS => exact (below_size (by repeat (first | (with_reducible first | exact HB.out | apply below_alloc | apply pw_below_drewN | apply below_drew1 | refine below_set ?_ (IsS139.ge HI209.out)) | exact HB.out)))); (case aL => have := LMc61.out; omega); intro v268 w68 ho hb hg hat; rw [← Ny267.out] at ho; have n0_ := Aside0.mk (IsS139.grown (by repeat (first | (with_reducible first | exact HI209.out | apply IsS139.alloc | apply IsS139.drewN | apply IsS139.drew | apply IsS139.set_0 | apply IsS139.set_1) | exact HI209.out)) hg (IsS139.own_ne HI209.out HO_6.out (by decide))); have n1_ := Aside0.mk (hb); have n2_ := Aside0.mk (ho); clear HI209; clear HB; clear HO_6; have HI209 := n0_; have HB := n1_; have HO269 := n2_; clear n0_ n1_ n2_; clear ho hb hg hat))
                            go_roundg kj8
                            case measure => have := HJ2.out; have := HK2.out; have := HJ8.out; omega
                            case rel => exact ⟨(wrap64 (x5_2 - 1)), (y267), (t262), (t263), (by first | rfl | (simp; done) | (simp [*]; done) | exact bq1 _ _ | exact bq2 _ _ | exact congrArg Value.bool (bq2 _ _) | exact congrArg Value.bool (bq1 _ _) | exact congrArg Value.bool (bq1' _ _) | exact bq1' _ _ | exact congrArg Value.bool (bq2' _ _) | exact bq2' _ _), H', ⟨by have := HJ2.out; have := HK2.out; have := HJ8.out; omega⟩, ⟨by (with_reducible repeat (first | apply Kd.R_alloc | apply Kd.R_drewN | apply Kd.R_drew)); exact HO269.out⟩, ⟨by repeat (first | (with_reducible first | exact HI209.out | apply IsS139.alloc | apply IsS139.drewN | apply IsS139.drew | apply IsS139.set_0 | apply IsS139.set_1) | exact HI209.out)⟩, ⟨by repeat (first | (with_reducible first | exact HB.out | apply below_alloc | apply pw_below_drewN | apply below_drew1 | refine below_set ?_ (IsS139.ge HI209.out)) | exact HB.out)⟩⟩
                          · rw [if_neg c61] at H
                            exact absurd H (by simp)
                      · rw [if_neg c45] at H
                        have c45b0 : (t213 == 3) = false := beq_eq_false_iff_ne.mpr c45
                        have c45b1 : (t213 != 3) = true := bne_iff_ne.mpr c45
                        have H' := Aside0.mk H
                        clear H
                        go_wp2_with (first | ((with_reducible refine gate_callee (f := 120) rfl ?_); refine goesL_ (some 38) rfl rfl Try.func120 (by kernel_rfl) rfl #[.pointer (some ⟨gb209, 0, none⟩)] rfl (by (try simp only [List.map_toArray, List.map_cons, List.map_nil]); first | done | rfl | (simp only [List.length_drop, List.length_take]; rfl) | (simp only [Int.ofNat_lt, Int.ofNat_le]; done) | (simp only [Int.ofNat_lt, Int.ofNat_le]; rfl)) ?_; (with_reducible refine (value_scanner_byte.calls gb209 x210000_2 x210001_2 t213 t214 t215 w _ ?side1 ?side2 A13.out).mono ?_); (case side1 => repeat (first | (with_reducible first | exact HI209.out | apply IsS139.alloc | apply IsS139.drewN | apply IsS139.drew | apply IsS139.set_0 | apply IsS139.set_1) | exact HI209.out)); (case side2 => repeat (first | (with_reducible first | exact HB.out | apply below_alloc | apply pw_below_drewN | apply below_drew1 | refine below_set ?_ (IsS139.ge HI209.out)) | exact HB.out)); rintro e w69 ⟨rfl, hi, hb, hk⟩; refine ⟨_, rfl, ?_⟩; have n0_ := Aside0.mk (Kd.R_mono (Kd.R_keep (IsS139.apart (show IsS139 w _ gb209 x210000_2 x210001_2 from by repeat (first | (with_reducible first | exact HI209.out | apply IsS139.alloc | apply IsS139.drewN | apply IsS139.drew | apply IsS139.set_0 | apply IsS139.set_1) | exact HI209.out)) (by (with_reducible repeat (first | apply Kd.R_alloc | apply Kd.R_drewN | apply Kd.R_drew)); exact HO_6.out) (by decide)) hk (fun _ h => h.2)) (fun _ h => h.1)); have n1_ := Aside0.mk (hb); have n2_ := Aside0.mk (hi); clear HO_6; clear HB; clear HI209; have HO_6 := n0_; have HB := n1_; have HI209 := n2_; clear n0_ n1_ n2_; (try clear hb); (try clear hb2); (try clear hk); (try clear hi); obtain ⟨HGz70, hgz70⟩ := HI209.out; have hcz70_0 := cellS139_0 HGz70; have hcz70_1 := cellS139_1 HGz70; have hfz70_0 := blk_frozen HGz70 0; have hfz70_1 := blk_frozen HGz70 1; clear HGz70 hgz70))
                        go_roundg kj8
                        case measure => have := HJ2.out; have := HK2.out; have := HJ8.out; omega
                        case rel => exact ⟨(wrap64 (x5_2 - 1)), (x6_2), (t214), (true), (by first | rfl | (simp; done) | (simp [*]; done) | exact bq1 _ _ | exact bq2 _ _ | exact congrArg Value.bool (bq2 _ _) | exact congrArg Value.bool (bq1 _ _) | exact congrArg Value.bool (bq1' _ _) | exact bq1' _ _ | exact congrArg Value.bool (bq2' _ _) | exact bq2' _ _), H', ⟨by have := HJ2.out; have := HK2.out; have := HJ8.out; omega⟩, ⟨by (with_reducible repeat (first | apply Kd.R_alloc | apply Kd.R_drewN | apply Kd.R_drew)); exact Kd.R_mono (Kd.R_far (p := ⟨gb209, 1, none⟩) (IsS139.apart HI209.out HO_6.out (by decide)) (fun _ hk => hk.2) (.bool true)) (fun _ hk => trivial)⟩, ⟨by repeat (first | (with_reducible first | exact HI209.out | apply IsS139.alloc | apply IsS139.drewN | apply IsS139.drew | apply IsS139.set_0 | apply IsS139.set_1) | exact HI209.out)⟩, ⟨by repeat (first | (with_reducible first | exact HB.out | apply below_alloc | apply pw_below_drewN | apply below_drew1 | refine below_set ?_ (IsS139.ge HI209.out)) | exact HB.out)⟩⟩
              · replace c12 := Bool.eq_false_iff.mpr c12
                subst c12
                have H1 : (if x210001_2 = true then (some (([] : List (S29)), 4)) else (if (x210000_2.size : Int) > 0 then (some (([] : List (S29)), 4)) else (some (x6_2, 0)))) = some (r1, r2) := by rw [if_neg (show ¬ (false = true) by decide)] at H; exact H
                clear H
                have H := H1
                clear H1
                by_cases c71 : x210001_2 = true
                · subst c71
                  have H1 : (some (([] : List (S29)), 4)) = some (r1, r2) := by rw [if_pos rfl] at H; exact H
                  clear H
                  have H := H1
                  clear H1
                  simp only [Option.some.injEq, Prod.mk.injEq] at H
                  obtain ⟨rfl, rfl⟩ := H
                  obtain ⟨HGz72, hgz72⟩ := HI209.out
                  have hcz72_0 := cellS139_0 HGz72
                  have hcz72_1 := cellS139_1 HGz72
                  have hfz72_0 := blk_frozen HGz72 0
                  have hfz72_1 := blk_frozen HGz72 1
                  clear HGz72 hgz72
                  go_wp2
                  go_ret2
                  exact ⟨_, by first | rfl | (simp [errW_none, errW_some] <;> rfl) | (simp [*, errW_none, errW_some] <;> rfl), by first | exact Kd.R_nil _ _ _ _ _ | exact Kd.N_nil _ _ _ _ _ | exact Kd.V_nil _ _ _ _ _ | exact Kd.Q_nil _ _ _ _ _ | exact Kd.S_nil _ _ _ _ _, by repeat (first | (with_reducible first | exact HB.out | apply below_alloc | apply pw_below_drewN | apply below_drew1 | refine below_set ?_ (IsS139.ge HI209.out)) | exact HB.out)⟩
                · replace c71 := Bool.eq_false_iff.mpr c71
                  subst c71
                  have H1 : (if (x210000_2.size : Int) > 0 then (some (([] : List (S29)), 4)) else (some (x6_2, 0))) = some (r1, r2) := by rw [if_neg (show ¬ (false = true) by decide)] at H; exact H
                  clear H
                  have H := H1
                  clear H1
                  by_cases c73 : (x210000_2.size : Int) > 0
                  · rw [if_pos c73] at H
                    have c73b0 : decide (0 < (x210000_2.size : Int)) = true := decide_eq_true c73
                    have c73b1 : decide (0 < x210000_2.size) = true := decide_eq_true (by omega)
                    clear c73
                    simp only [Option.some.injEq, Prod.mk.injEq] at H
                    obtain ⟨rfl, rfl⟩ := H
                    obtain ⟨HGz74, hgz74⟩ := HI209.out
                    have hcz74_0 := cellS139_0 HGz74
                    have hcz74_1 := cellS139_1 HGz74
                    have hfz74_0 := blk_frozen HGz74 0
                    have hfz74_1 := blk_frozen HGz74 1
                    clear HGz74 hgz74
                    go_wp2
                    go_ret2
                    exact ⟨_, by first | rfl | (simp [errW_none, errW_some] <;> rfl) | (simp [*, errW_none, errW_some] <;> rfl), by first | exact Kd.R_nil _ _ _ _ _ | exact Kd.N_nil _ _ _ _ _ | exact Kd.V_nil _ _ _ _ _ | exact Kd.Q_nil _ _ _ _ _ | exact Kd.S_nil _ _ _ _ _, by repeat (first | (with_reducible first | exact HB.out | apply below_alloc | apply pw_below_drewN | apply below_drew1 | refine below_set ?_ (IsS139.ge HI209.out)) | exact HB.out)⟩
                  · rw [if_neg c73] at H
                    have c73b0 : decide (0 < (x210000_2.size : Int)) = false := decide_eq_false c73
                    have c73b1 : decide (0 < x210000_2.size) = false := decide_eq_false (by omega)
                    clear c73
                    simp only [Option.some.injEq, Prod.mk.injEq] at H
                    obtain ⟨rfl, rfl⟩ := H
                    obtain ⟨HGz75, hgz75⟩ := HI209.out
                    have hcz75_0 := cellS139_0 HGz75
                    have hcz75_1 := cellS139_1 HGz75
                    have hfz75_0 := blk_frozen HGz75 0
                    have hfz75_1 := blk_frozen HGz75 1
                    clear HGz75 hgz75
                    go_wp2
                    go_ret2
                    exact ⟨_, by first | rfl | (simp [errW_none, errW_some] <;> rfl) | (simp [*, errW_none, errW_some] <;> rfl), by (with_reducible repeat (first | apply Kd.R_alloc | apply Kd.R_drewN | apply Kd.R_drew)); exact HO_6.out, by repeat (first | (with_reducible first | exact HB.out | apply below_alloc | apply pw_below_drewN | apply below_drew1 | refine below_set ?_ (IsS139.ge HI209.out)) | exact HB.out)⟩

/-! ### relstoreref_unbytes: function 109 -/
def relstoreref_unbytes.l0 : Nat → ByteArray → Int → Int → Option (Int)
  | 0, _, _, _ => none
  | k + 1, x0, x3, x4 => if x4 < (x0.size : Int) then (if 0 ≤ x4 then (relstoreref_unbytes.l0 k x0 (IntKind.u64.wrap ((IntKind.u64.wrap (256 * x3)) + (IntKind.u64.wrap (bt x0 x4)))) (wrap64 (x4 + 1))) else (none)) else (some x3)
def relstoreref_unbytes.f (k : Nat) (a0 : ByteArray) : Option (Int) := relstoreref_unbytes.l0 k a0 0 0
theorem relstoreref_unbytes.mono_l : ∀ k, (∀ y0 y1 y2, LeO (relstoreref_unbytes.l0 k y0 y1 y2) (relstoreref_unbytes.l0 (k + 1) y0 y1 y2))
  | 0 => fun _ _ _ r h => by simp [relstoreref_unbytes.l0] at h
  | k + 1 => by
    have ih0 := relstoreref_unbytes.mono_l k
    · intro y0 y1 y2
      unfold relstoreref_unbytes.l0
      repeat' first
      | (with_reducible exact ih0 _ _ _)
      | (with_reducible exact LeO.refl _)
      | (with_reducible exact LeO.none _)
      | (with_reducible refine LeO.ite ?_ ?_)
      | (with_reducible refine LeO.bind ?_ (fun _ => ?_))
      | exact ih0 _ _ _
      | exact LeO.none _
      | refine LeO.ite ?_ ?_
      | refine LeO.bind ?_ (fun _ => ?_)
theorem relstoreref_unbytes.mono : ∀ a0 k, LeO (relstoreref_unbytes.f k a0) (relstoreref_unbytes.f (k + 1) a0) := by
  intro a0 k
  have ih0 := relstoreref_unbytes.mono_l k
  unfold relstoreref_unbytes.f
  repeat' first
      | (with_reducible exact ih0 _ _ _)
      | (with_reducible exact LeO.refl _)
      | (with_reducible exact LeO.none _)
      | (with_reducible refine LeO.ite ?_ ?_)
      | (with_reducible refine LeO.bind ?_ (fun _ => ?_))
      | exact ih0 _ _ _
      | exact LeO.none _
      | refine LeO.ite ?_ ?_
      | refine LeO.bind ?_ (fun _ => ?_)
set_option maxHeartbeats 8000000 in
set_option maxRecDepth 100000 in
theorem relstoreref_unbytes.calls (k : Nat) (a0 : ByteArray) (r : Int) (w : World) (h : relstoreref_unbytes.f k a0 = some r) :
    Calls Try.prog 109 #[.string a0] w fun e w' => e = .returned (.int .u64 r) ∧ Drawn0 w w' := by
  have H : (relstoreref_unbytes.l0 k a0 0 0) = some r := h
  clear h
  have H' := Aside0.mk H
  clear H
  go_enter Try.func109, Try.ntmps109
  go_wp2
  go_loopg [3, 4] k (fun kq v3 v4 w' => ∃ (x3_1 : Int) (x4_1 : Int), v3 = .int .u64 x3_1 ∧ v4 = .int .i64 x4_1 ∧ Aside0 (relstoreref_unbytes.l0 kq a0 x3_1 x4_1 = some r) ∧ Aside0 (kq ≤ k) ∧ Drawn0 w w')
  case atStart => exact ⟨(0), (0), (by first | rfl | (simp; done) | (simp [*]; done) | exact bq1 _ _ | exact bq2 _ _ | exact congrArg Value.bool (bq2 _ _) | exact congrArg Value.bool (bq1 _ _) | exact congrArg Value.bool (bq1' _ _) | exact bq1' _ _ | exact congrArg Value.bool (bq2' _ _) | exact bq2' _ _), (by first | rfl | (simp; done) | (simp [*]; done) | exact bq1 _ _ | exact bq2 _ _ | exact congrArg Value.bool (bq2 _ _) | exact congrArg Value.bool (bq1 _ _) | exact congrArg Value.bool (bq1' _ _) | exact bq1' _ _ | exact congrArg Value.bool (bq2' _ _) | exact bq2' _ _), H', ⟨Nat.le_refl _⟩, by repeat (first | exact Drawn0.refl _ | apply Drawn0.step)⟩
  case round =>
    clear H'
    try clear c1
    try clear q1
    obtain ⟨x3_1, x4_1, rfl, rfl, HA, HK1, ⟨m1, rfl⟩⟩ := hrel
    cases gk with
    | zero => exact absurd HA.out (by simp [relstoreref_unbytes.l0])
    | succ k1 =>
      have H := HA.out
      clear HA
      simp only [relstoreref_unbytes.l0] at H
      by_cases c2 : x4_1 < (a0.size : Int)
      · rw [if_pos c2] at H
        have c2b0 : decide (x4_1 < (a0.size : Int)) = true := decide_eq_true c2
        clear c2
        by_cases c3 : 0 ≤ x4_1
        · rw [if_pos c3] at H
          have c3b0 : decide (0 ≤ x4_1) = true := decide_eq_true c3
          clear c3
          have H' := Aside0.mk H
          clear H
          have p4 : 0 ≤ (x4_1 : Int) := of_decide_eq_true (by first | (with_reducible assumption) | assumption)
          have q4 : x4_1 < (a0.size : Int) := of_decide_eq_true (by first | (with_reducible assumption) | assumption)
          have hx4 := bt_at a0 x4_1
          replace p4 := eq_true p4
          replace q4 := eq_true q4
          go_wp2
          go_roundg k1
          case measure => have := HK1.out; omega
          case rel => exact ⟨(IntKind.u64.wrap ((IntKind.u64.wrap (256 * x3_1)) + (IntKind.u64.wrap (bt a0 x4_1)))), (wrap64 (x4_1 + 1)), (by first | rfl | (simp; done) | (simp [*]; done) | exact bq1 _ _ | exact bq2 _ _ | exact congrArg Value.bool (bq2 _ _) | exact congrArg Value.bool (bq1 _ _) | exact congrArg Value.bool (bq1' _ _) | exact bq1' _ _ | exact congrArg Value.bool (bq2' _ _) | exact bq2' _ _), (by first | rfl | (simp; done) | (simp [*]; done) | exact bq1 _ _ | exact bq2 _ _ | exact congrArg Value.bool (bq2 _ _) | exact congrArg Value.bool (bq1 _ _) | exact congrArg Value.bool (bq1' _ _) | exact bq1' _ _ | exact congrArg Value.bool (bq2' _ _) | exact bq2' _ _), H', ⟨by have := HK1.out; omega⟩, by repeat (first | exact Drawn0.refl _ | apply Drawn0.step)⟩
        · rw [if_neg c3] at H
          exact absurd H (by simp)
      · rw [if_neg c2] at H
        have c2b0 : decide (x4_1 < (a0.size : Int)) = false := decide_eq_false c2
        clear c2
        obtain rfl := Option.some.inj H
        go_wp2
        go_ret
        exact ⟨by first | rfl | (simp; done) | (simp [*]; done) | exact bq1 _ _ | exact bq2 _ _ | exact congrArg Value.bool (bq2 _ _) | exact congrArg Value.bool (bq1 _ _) | exact congrArg Value.bool (bq1' _ _) | exact bq1' _ _ | exact congrArg Value.bool (bq2' _ _) | exact bq2' _ _, by repeat (first | exact Drawn0.refl _ | apply Drawn0.step)⟩

end Go.Proofs.Ythaoaaboempajaa.QValueRows
