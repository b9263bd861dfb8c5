-- Lines written for this claim by a program of this session (wip/print). Lean checks them.
import Derived.Test.YthaoaaboempajaaQValueRowsx0
import Derived.Test.YthaoaaboempajaaQValueRowsx2
import Derived.Test.YthaoaaboempajaaQValueRowsx3
import Derived.Test.YthaoaaboempajaaQValueRowsx4
import Derived.Test.YthaoaaboempajaaQValueRowsx5
import Derived.Test.YthaoaaboempajaaQValueRowsx6
namespace Go.Proofs.Ythaoaaboempajaa.QValueRows
open Go.RowKit Go.Proofs.YthaoaaboempajaaW.PrintWords Go.Proofs.YthaoaaboempajaaW.PrintLast Go.Proofs.YthaoaaboempajaaW.PrintMore Go.Proofs.YthaoaaboempajaaX
attribute [local go_sem] max2_int min2_int max_two min_two max_three min_three max_four min_four   -- for this text's walks alone
set_option linter.unusedVariables false
set_option linter.unusedSimpArgs false

/-! ### relstorelaw_ValueRows: function 10 -/
def relstorelaw_ValueRows.j0 : Nat → ByteArray → List (S29) → List (S29) → Bool → Option (Bool)
  | 0, _, _, _, _ => none
  | k + 1, x1, x10, x12, x67 => if x67 = true then (some false) else ((relstorelaw_spoil.f k x10).bind fun _ => ((value_Unpack.f k x1).bind fun bt329 => ((relstorelaw_sameValues.f k bt329.1 x12).bind fun t333 => (some t333))))
def relstorelaw_ValueRows.f (k : Nat) (l0 : List (S29)) (a1 : ByteArray) : Option (Bool) := (relstorelaw_lent.f l0).bind fun t306 => (if 0 ≤ (l0.length : Int) then (if (l0.length : Int) ≤ (t306.length : Int) then ((value_Pack.f k (t306.take ((l0.length : Int) : Int).toNat)).bind fun bt313 => ((relstoreref_Pack.f k l0).bind fun bt315 => ((value_Unpack.f k a1).bind fun bt317 => ((relstoreref_Unpack.f k a1).bind fun bt321 => (if bt313.1.toList = bt315.1.toList then ((relstorelaw_num.f bt313.2).bind fun t325 => (if t325 = bt315.2 then ((relstorelaw_back.f k t306 l0).bind fun t326 => (if t326 = true then ((relstorelaw_sameValues.f k bt317.1 bt321.1).bind fun t327 => (if t327 = true then ((relstorelaw_num.f bt317.2).bind fun t328 => (relstorelaw_ValueRows.j0 k a1 bt317.1 bt321.1 (t328 != bt321.2))) else (relstorelaw_ValueRows.j0 k a1 bt317.1 bt321.1 true))) else (relstorelaw_ValueRows.j0 k a1 bt317.1 bt321.1 true))) else (relstorelaw_ValueRows.j0 k a1 bt317.1 bt321.1 true))) else (relstorelaw_ValueRows.j0 k a1 bt317.1 bt321.1 true)))))) else (none)) else (none))
theorem relstorelaw_ValueRows.mono_l : ∀ k, (∀ y0 y1 y2 y3, LeO (relstorelaw_ValueRows.j0 k y0 y1 y2 y3) (relstorelaw_ValueRows.j0 (k + 1) y0 y1 y2 y3))
  | 0 => fun _ _ _ _ r h => by simp [relstorelaw_ValueRows.j0] at h
  | k + 1 => by
    have ih0 := relstorelaw_ValueRows.mono_l k
    · intro y0 y1 y2 y3
      unfold relstorelaw_ValueRows.j0
      repeat' first
      | (with_reducible exact ih0 _ _ _ _)
      | (with_reducible exact relstorelaw_back.mono _ _ _)
      | (with_reducible exact relstorelaw_sameValues.mono _ _ _)
      | (with_reducible exact relstorelaw_spoil.mono _ _)
      | (with_reducible exact relstoreref_Pack.mono _ _)
      | (with_reducible exact relstoreref_Unpack.mono _ _)
      | (with_reducible exact value_Pack.mono _ _)
      | (with_reducible exact value_Unpack.mono _ _)
      | (with_reducible exact LeO.refl _)
      | (with_reducible exact LeO.none _)
      | (with_reducible refine LeO.ite ?_ ?_)
      | (with_reducible refine LeO.bind ?_ (fun _ => ?_))
      | exact ih0 _ _ _ _
      | exact relstorelaw_back.mono _ _ _
      | exact relstorelaw_sameValues.mono _ _ _
      | exact relstorelaw_spoil.mono _ _
      | exact relstoreref_Pack.mono _ _
      | exact relstoreref_Unpack.mono _ _
      | exact value_Pack.mono _ _
      | exact value_Unpack.mono _ _
      | exact LeO.none _
      | refine LeO.ite ?_ ?_
      | refine LeO.bind ?_ (fun _ => ?_)
theorem relstorelaw_ValueRows.mono : ∀ a0 a1 k, LeO (relstorelaw_ValueRows.f k a0 a1) (relstorelaw_ValueRows.f (k + 1) a0 a1) := by
  intro a0 a1 k
  have ih0 := relstorelaw_ValueRows.mono_l k
  unfold relstorelaw_ValueRows.f
  repeat' first
      | (with_reducible exact ih0 _ _ _ _)
      | (with_reducible exact relstorelaw_back.mono _ _ _)
      | (with_reducible exact relstorelaw_sameValues.mono _ _ _)
      | (with_reducible exact relstorelaw_spoil.mono _ _)
      | (with_reducible exact relstoreref_Pack.mono _ _)
      | (with_reducible exact relstoreref_Unpack.mono _ _)
      | (with_reducible exact value_Pack.mono _ _)
      | (with_reducible exact value_Unpack.mono _ _)
      | (with_reducible exact LeO.refl _)
      | (with_reducible exact LeO.none _)
      | (with_reducible refine LeO.ite ?_ ?_)
      | (with_reducible refine LeO.bind ?_ (fun _ => ?_))
      | exact ih0 _ _ _ _
      | exact relstorelaw_back.mono _ _ _
      | exact relstorelaw_sameValues.mono _ _ _
      | exact relstorelaw_spoil.mono _ _
      | exact relstoreref_Pack.mono _ _
      | exact relstoreref_Unpack.mono _ _
      | exact value_Pack.mono _ _
      | exact value_Unpack.mono _ _
      | exact LeO.none _
      | refine LeO.ite ?_ ?_
      | refine LeO.bind ?_ (fun _ => ?_)
set_option maxHeartbeats 8000000 in
set_option maxRecDepth 100000 in
theorem relstorelaw_ValueRows.calls (k : Nat) (A0 : Option Addr) (c0 : Nat) (l0 : List (S29)) (a1 : ByteArray) (r : Bool) (w : World) (hr0 : Kd.C k29 w A0 l0.length l0) (hc0 : l0.length ≤ c0) (h : relstorelaw_ValueRows.f k l0 a1 = some r) :
    Calls Try.prog 10 #[.slice A0 l0.length c0, .string a1] w fun e w' => e = .returned (.bool r) ∧ Below w.heap.size w w' := by
  have HR0 := Aside0.mk hr0
  have HC0 := Aside0.mk hc0
  clear hr0 hc0
  have HB := Aside0.mk (Below.refl w.heap.size w)
  have H : ((relstorelaw_lent.f l0).bind fun t306 => (if 0 ≤ (l0.length : Int) then (if (l0.length : Int) ≤ (t306.length : Int) then ((value_Pack.f k (t306.take ((l0.length : Int) : Int).toNat)).bind fun bt313 => ((relstoreref_Pack.f k l0).bind fun bt315 => ((value_Unpack.f k a1).bind fun bt317 => ((relstoreref_Unpack.f k a1).bind fun bt321 => (if bt313.1.toList = bt315.1.toList then ((relstorelaw_num.f bt313.2).bind fun t325 => (if t325 = bt315.2 then ((relstorelaw_back.f k t306 l0).bind fun t326 => (if t326 = true then ((relstorelaw_sameValues.f k bt317.1 bt321.1).bind fun t327 => (if t327 = true then ((relstorelaw_num.f bt317.2).bind fun t328 => (relstorelaw_ValueRows.j0 k a1 bt317.1 bt321.1 (t328 != bt321.2))) else (relstorelaw_ValueRows.j0 k a1 bt317.1 bt321.1 true))) else (relstorelaw_ValueRows.j0 k a1 bt317.1 bt321.1 true))) else (relstorelaw_ValueRows.j0 k a1 bt317.1 bt321.1 true))) else (relstorelaw_ValueRows.j0 k a1 bt317.1 bt321.1 true)))))) else (none)) else (none))) = some r := h
  clear h
  replace H := Option.bind_eq_some_iff.mp H
  obtain ⟨t306, A30, H⟩ := H
  replace H : (if 0 ≤ (l0.length : Int) then (if (l0.length : Int) ≤ (t306.length : Int) then ((value_Pack.f k (t306.take ((l0.length : Int) : Int).toNat)).bind fun bt313 => ((relstoreref_Pack.f k l0).bind fun bt315 => ((value_Unpack.f k a1).bind fun bt317 => ((relstoreref_Unpack.f k a1).bind fun bt321 => (if bt313.1.toList = bt315.1.toList then ((relstorelaw_num.f bt313.2).bind fun t325 => (if t325 = bt315.2 then ((relstorelaw_back.f k t306 l0).bind fun t326 => (if t326 = true then ((relstorelaw_sameValues.f k bt317.1 bt321.1).bind fun t327 => (if t327 = true then ((relstorelaw_num.f bt317.2).bind fun t328 => (relstorelaw_ValueRows.j0 k a1 bt317.1 bt321.1 (t328 != bt321.2))) else (relstorelaw_ValueRows.j0 k a1 bt317.1 bt321.1 true))) else (relstorelaw_ValueRows.j0 k a1 bt317.1 bt321.1 true))) else (relstorelaw_ValueRows.j0 k a1 bt317.1 bt321.1 true))) else (relstorelaw_ValueRows.j0 k a1 bt317.1 bt321.1 true)))))) else (none)) else (none)) = some r := H
  have A3 := Aside0.mk A30
  clear A30
  by_cases c4 : 0 ≤ (l0.length : Int)
  · rw [if_pos c4] at H
    have c4b0 := eq_true c4
    have c4b1 : decide (0 ≤ (l0.length : Int)) = true := decide_eq_true c4
    clear c4
    by_cases c5 : (l0.length : Int) ≤ (t306.length : Int)
    · rw [if_pos c5] at H
      have c5b0 := eq_true c5
      have c5b1 : decide ((l0.length : Int) ≤ (t306.length : Int)) = true := decide_eq_true c5
      clear c5
      obtain ⟨y309, hy309⟩ : ∃ y_ : List (S29), y_ = (t306.take ((l0.length : Int) : Int).toNat) := ⟨_, rfl⟩
      replace H : ((value_Pack.f k y309).bind fun bt313 => ((relstoreref_Pack.f k l0).bind fun bt315 => ((value_Unpack.f k a1).bind fun bt317 => ((relstoreref_Unpack.f k a1).bind fun bt321 => (if bt313.1.toList = bt315.1.toList then ((relstorelaw_num.f bt313.2).bind fun t325 => (if t325 = bt315.2 then ((relstorelaw_back.f k t306 l0).bind fun t326 => (if t326 = true then ((relstorelaw_sameValues.f k bt317.1 bt321.1).bind fun t327 => (if t327 = true then ((relstorelaw_num.f bt317.2).bind fun t328 => (relstorelaw_ValueRows.j0 k a1 bt317.1 bt321.1 (t328 != bt321.2))) else (relstorelaw_ValueRows.j0 k a1 bt317.1 bt321.1 true))) else (relstorelaw_ValueRows.j0 k a1 bt317.1 bt321.1 true))) else (relstorelaw_ValueRows.j0 k a1 bt317.1 bt321.1 true))) else (relstorelaw_ValueRows.j0 k a1 bt317.1 bt321.1 true)))))) = some r := by first | (rw [hy309]; with_reducible exact H) | (have H2_ := (Option.bind_some _ _).symm.trans H; rw [hy309]; with_reducible exact H2_) | (have H2_ := (Option.bind_some _ _).symm.trans H; with_reducible exact H2_) | with_reducible exact H | (rw [hy309]; exact H) | exact H
      have Ny309 := Aside0.mk hy309
      clear hy309
      replace H := Option.bind_eq_some_iff.mp H
      obtain ⟨⟨t313, t314⟩, A60, H⟩ := H
      replace H : ((relstoreref_Pack.f k l0).bind fun bt315 => ((value_Unpack.f k a1).bind fun bt317 => ((relstoreref_Unpack.f k a1).bind fun bt321 => (if t313.toList = bt315.1.toList then ((relstorelaw_num.f t314).bind fun t325 => (if t325 = bt315.2 then ((relstorelaw_back.f k t306 l0).bind fun t326 => (if t326 = true then ((relstorelaw_sameValues.f k bt317.1 bt321.1).bind fun t327 => (if t327 = true then ((relstorelaw_num.f bt317.2).bind fun t328 => (relstorelaw_ValueRows.j0 k a1 bt317.1 bt321.1 (t328 != bt321.2))) else (relstorelaw_ValueRows.j0 k a1 bt317.1 bt321.1 true))) else (relstorelaw_ValueRows.j0 k a1 bt317.1 bt321.1 true))) else (relstorelaw_ValueRows.j0 k a1 bt317.1 bt321.1 true))) else (relstorelaw_ValueRows.j0 k a1 bt317.1 bt321.1 true))))) = some r := H
      have A6 := Aside0.mk A60
      clear A60
      replace H := Option.bind_eq_some_iff.mp H
      obtain ⟨⟨t315, t316⟩, A70, H⟩ := H
      replace H : ((value_Unpack.f k a1).bind fun bt317 => ((relstoreref_Unpack.f k a1).bind fun bt321 => (if t313.toList = t315.toList then ((relstorelaw_num.f t314).bind fun t325 => (if t325 = t316 then ((relstorelaw_back.f k t306 l0).bind fun t326 => (if t326 = true then ((relstorelaw_sameValues.f k bt317.1 bt321.1).bind fun t327 => (if t327 = true then ((relstorelaw_num.f bt317.2).bind fun t328 => (relstorelaw_ValueRows.j0 k a1 bt317.1 bt321.1 (t328 != bt321.2))) else (relstorelaw_ValueRows.j0 k a1 bt317.1 bt321.1 true))) else (relstorelaw_ValueRows.j0 k a1 bt317.1 bt321.1 true))) else (relstorelaw_ValueRows.j0 k a1 bt317.1 bt321.1 true))) else (relstorelaw_ValueRows.j0 k a1 bt317.1 bt321.1 true)))) = some r := H
      have A7 := Aside0.mk A70
      clear A70
      replace H := Option.bind_eq_some_iff.mp H
      obtain ⟨⟨t317, t318⟩, A80, H⟩ := H
      replace H : ((relstoreref_Unpack.f k a1).bind fun bt321 => (if t313.toList = t315.toList then ((relstorelaw_num.f t314).bind fun t325 => (if t325 = t316 then ((relstorelaw_back.f k t306 l0).bind fun t326 => (if t326 = true then ((relstorelaw_sameValues.f k t317 bt321.1).bind fun t327 => (if t327 = true then ((relstorelaw_num.f t318).bind fun t328 => (relstorelaw_ValueRows.j0 k a1 t317 bt321.1 (t328 != bt321.2))) else (relstorelaw_ValueRows.j0 k a1 t317 bt321.1 true))) else (relstorelaw_ValueRows.j0 k a1 t317 bt321.1 true))) else (relstorelaw_ValueRows.j0 k a1 t317 bt321.1 true))) else (relstorelaw_ValueRows.j0 k a1 t317 bt321.1 true))) = some r := H
      have A8 := Aside0.mk A80
      clear A80
      replace H := Option.bind_eq_some_iff.mp H
      obtain ⟨⟨t321, t322⟩, A90, H⟩ := H
      replace H : (if t313.toList = t315.toList then ((relstorelaw_num.f t314).bind fun t325 => (if t325 = t316 then ((relstorelaw_back.f k t306 l0).bind fun t326 => (if t326 = true then ((relstorelaw_sameValues.f k t317 t321).bind fun t327 => (if t327 = true then ((relstorelaw_num.f t318).bind fun t328 => (relstorelaw_ValueRows.j0 k a1 t317 t321 (t328 != t322))) else (relstorelaw_ValueRows.j0 k a1 t317 t321 true))) else (relstorelaw_ValueRows.j0 k a1 t317 t321 true))) else (relstorelaw_ValueRows.j0 k a1 t317 t321 true))) else (relstorelaw_ValueRows.j0 k a1 t317 t321 true)) = some r := H
      have A9 := Aside0.mk A90
      clear A90
      have HC10 := Aside0.mk H
      clear H
      go_enter Try.func10, Try.ntmps10
      go_upto_region 6 with (first | ((with_reducible refine gate_callee (f := 20) rfl ?_); refine goesL_ (some 17) rfl rfl Try.func20 (by kernel_rfl) rfl #[.slice A0 l0.length c0] rfl (by (try simp only [List.map_toArray, List.map_cons, List.map_nil]); first | done | rfl | (simp only [List.length_drop, List.length_take]; rfl) | (simp only [Int.ofNat_lt, Int.ofNat_le]; done) | (simp only [Int.ofNat_lt, Int.ofNat_le]; rfl)) ?_; (with_reducible refine (relstorelaw_lent.calls _ _ l0 t306 _ ?side1 ?side2 A3.out).mono ?_); (case side1 => repeat (first | exact HR0.out | (with_reducible refine Kd.C_alloc ?_ _) | (with_reducible refine Kd.C_drewN ?_ _) | (with_reducible refine Kd.C_drew ?_))); (case side2 => exact HC0.out); rintro e w11 ⟨v307, rfl, ho0, hb⟩; refine ⟨_, rfl, ?_⟩; have n0_ := Aside0.mk (Kd.R_lower ho0 (below_size (by repeat (first | (with_reducible first | exact HB.out | apply below_alloc | apply pw_below_drewN | apply below_drew1) | exact HB.out)))); have n1_ := Aside0.mk (below_step (by repeat (first | (with_reducible first | exact HB.out | apply below_alloc | apply pw_below_drewN | apply below_drew1) | exact HB.out)) hb); clear HB; have HO308 := n0_; have HB := n1_; clear n0_ n1_; (try clear hb); (try clear hb2); (try clear hk); (try clear hi); (try clear ho0); obtain ⟨Ao13, co13, eo13⟩ := Kd.R_slice HO308.out; subst eo13; have q12 : ((l0.length : Int) : Int) ≤ ((t306.length : Int) : Int) := of_decide_eq_true (by first | (with_reducible assumption) | assumption); obtain ⟨i012, hi012, _, hsz12, _⟩ := info_parts info29; have hroom12 : t306.length ≤ co13 := (Kd.R_reads' HO308.out).2.1; have hC12 : Kd.C k29 _ Ao13 t306.length t306 := (Kd.R_reads' HO308.out).2.2; have hcut12 := cut_to (P := Try.prog) 30 29 .i64 Try.underlying30 hi012 Ao13 t306.length co13 (l0.length : Int) (of_decide_eq_true (by first | (with_reducible assumption) | assumption)) q12 hroom12; have hr12 := Kd.C_take (m := ((l0.length : Int) : Int).toNat) hC12 (by omega); have hy12 : y309.length = ((l0.length : Int) : Int).toNat := (by rw [Ny309.out, List.length_take]; omega); rw [← Ny309.out] at hr12; rw [← hy12] at hcut12; have HR312 := Aside0.mk hr12; have HC312 := Aside0.mk (show y309.length ≤ co13 from by omega); clear hr12 hC12 hroom12 hi012 hsz12; have KY12 := Aside0.mk hy12; clear hy12; have KL12 := Aside0.mk (show ((l0.length : Int) : Int).toNat ≤ t306.length from by omega); replace q12 := eq_true q12) | ((with_reducible refine gate_callee (f := 52) rfl ?_); refine goesL_ (some 23) rfl rfl Try.func52 (by kernel_rfl) rfl #[.slice Ao13 y309.length co13] rfl (by (try simp only [List.map_toArray, List.map_cons, List.map_nil]); first | done | rfl | (simp only [List.length_drop, List.length_take]; rfl) | (simp only [Int.ofNat_lt, Int.ofNat_le]; done) | (simp only [Int.ofNat_lt, Int.ofNat_le]; rfl)) ?_; (with_reducible refine (value_Pack.calls k _ _ y309 t313 t314 _ ?side1 ?side2 A6.out).mono ?_); (case side1 => repeat (first | exact (by repeat (first | (with_reducible exact HR312.out) | (with_reducible refine Kd.C_alloc ?_ _) | (with_reducible refine Kd.C_drewN ?_ _) | (with_reducible refine Kd.C_drew ?_) | exact HR312.out)) | (with_reducible refine Kd.C_alloc ?_ _) | (with_reducible refine Kd.C_drewN ?_ _) | (with_reducible refine Kd.C_drew ?_))); (case side2 => exact HC312.out); rintro e w14 ⟨rfl, hb⟩; refine ⟨_, rfl, ?_⟩; have n0_ := Aside0.mk (Kd.R_below (by (with_reducible repeat (first | apply Kd.R_alloc | apply Kd.R_drewN | apply Kd.R_drew)); exact HO308.out) hb); have n1_ := Aside0.mk (Kd.C_below (by repeat (first | (with_reducible exact HR312.out) | (with_reducible refine Kd.C_alloc ?_ _) | (with_reducible refine Kd.C_drewN ?_ _) | (with_reducible refine Kd.C_drew ?_) | exact HR312.out)) hb); have n2_ := Aside0.mk (below_step (by repeat (first | (with_reducible first | exact HB.out | apply below_alloc | apply pw_below_drewN | apply below_drew1) | exact HB.out)) hb); clear HO308; clear HR312; clear HB; have HO308 := n0_; have HR312 := n1_; have HB := n2_; clear n0_ n1_ n2_; (try clear hb); (try clear hb2); (try clear hk); (try clear hi)) | ((with_reducible refine gate_callee (f := 53) rfl ?_); refine goesL_ (some 28) rfl rfl Try.func53 (by kernel_rfl) rfl #[.slice A0 l0.length c0] rfl (by (try simp only [List.map_toArray, List.map_cons, List.map_nil]); first | done | rfl | (simp only [List.length_drop, List.length_take]; rfl) | (simp only [Int.ofNat_lt, Int.ofNat_le]; done) | (simp only [Int.ofNat_lt, Int.ofNat_le]; rfl)) ?_; (with_reducible refine (relstoreref_Pack.calls k _ _ l0 t315 t316 _ ?side1 ?side2 A7.out).mono ?_); (case side1 => repeat (first | exact (Kd.C_below HR0.out HB.out) | (with_reducible refine Kd.C_alloc ?_ _) | (with_reducible refine Kd.C_drewN ?_ _) | (with_reducible refine Kd.C_drew ?_))); (case side2 => exact HC0.out); rintro e w15 ⟨rfl, hb⟩; refine ⟨_, rfl, ?_⟩; have n0_ := Aside0.mk (Kd.R_below (by (with_reducible repeat (first | apply Kd.R_alloc | apply Kd.R_drewN | apply Kd.R_drew)); exact HO308.out) hb); have n1_ := Aside0.mk (Kd.C_below (by repeat (first | (with_reducible exact HR312.out) | (with_reducible refine Kd.C_alloc ?_ _) | (with_reducible refine Kd.C_drewN ?_ _) | (with_reducible refine Kd.C_drew ?_) | exact HR312.out)) hb); have n2_ := Aside0.mk (below_step (by repeat (first | (with_reducible first | exact HB.out | apply below_alloc | apply pw_below_drewN | apply below_drew1) | exact HB.out)) hb); clear HO308; clear HR312; clear HB; have HO308 := n0_; have HR312 := n1_; have HB := n2_; clear n0_ n1_ n2_; (try clear hb); (try clear hb2); (try clear hk); (try clear hi)) | ((with_reducible refine gate_callee (f := 54) rfl ?_); refine goesL_ (some 33) rfl rfl Try.func54 (by kernel_rfl) rfl #[.string a1] rfl (by (try simp only [List.map_toArray, List.map_cons, List.map_nil]); first | done | rfl | (simp only [List.length_drop, List.length_take]; rfl) | (simp only [Int.ofNat_lt, Int.ofNat_le]; done) | (simp only [Int.ofNat_lt, Int.ofNat_le]; rfl)) ?_; (with_reducible refine (value_Unpack.calls k a1 t317 t318 _ A8.out).mono ?_); rintro e w16 ⟨v319, rfl, ho0, hb⟩; refine ⟨_, rfl, ?_⟩; have n0_ := Aside0.mk (Kd.R_elder' (by (with_reducible repeat (first | apply Kd.R_alloc | apply Kd.R_drewN | apply Kd.R_drew)); exact HO308.out) (Kd.R_base ho0) hb); have n1_ := Aside0.mk (Kd.R_lower (Kd.R_new' ho0 (Kd.R_lt (by (with_reducible repeat (first | apply Kd.R_alloc | apply Kd.R_drewN | apply Kd.R_drew)); exact HO308.out))) (below_size (by repeat (first | (with_reducible first | exact HB.out | apply below_alloc | apply pw_below_drewN | apply below_drew1) | exact HB.out)))); have n2_ := Aside0.mk (Kd.C_below (by repeat (first | (with_reducible exact HR312.out) | (with_reducible refine Kd.C_alloc ?_ _) | (with_reducible refine Kd.C_drewN ?_ _) | (with_reducible refine Kd.C_drew ?_) | exact HR312.out)) hb); have n3_ := Aside0.mk (below_step (by repeat (first | (with_reducible first | exact HB.out | apply below_alloc | apply pw_below_drewN | apply below_drew1) | exact HB.out)) hb); clear HO308; clear HR312; clear HB; have HO308 := n0_; have HO320 := n1_; have HR312 := n2_; have HB := n3_; clear n0_ n1_ n2_ n3_; (try clear hb); (try clear hb2); (try clear hk); (try clear hi); (try clear ho0)) | ((with_reducible refine gate_callee (f := 55) rfl ?_); refine goesL_ (some 38) rfl rfl Try.func55 (by kernel_rfl) rfl #[.string a1] rfl (by (try simp only [List.map_toArray, List.map_cons, List.map_nil]); first | done | rfl | (simp only [List.length_drop, List.length_take]; rfl) | (simp only [Int.ofNat_lt, Int.ofNat_le]; done) | (simp only [Int.ofNat_lt, Int.ofNat_le]; rfl)) ?_; (with_reducible refine (relstoreref_Unpack.calls k a1 t321 t322 _ A9.out).mono ?_); rintro e w17 ⟨v323, rfl, ho0, hb⟩; refine ⟨_, rfl, ?_⟩; have n0_ := Aside0.mk (Kd.R_elder' (by (with_reducible repeat (first | apply Kd.R_alloc | apply Kd.R_drewN | apply Kd.R_drew)); exact HO308.out) (Kd.R_base ho0) hb); have n1_ := Aside0.mk (Kd.R_elder' (by (with_reducible repeat (first | apply Kd.R_alloc | apply Kd.R_drewN | apply Kd.R_drew)); exact HO320.out) (Kd.R_base ho0) hb); have n2_ := Aside0.mk (Kd.R_lower (Kd.R_new' (Kd.R_new' ho0 (Kd.R_lt (by (with_reducible repeat (first | apply Kd.R_alloc | apply Kd.R_drewN | apply Kd.R_drew)); exact HO308.out))) (Kd.R_lt (by (with_reducible repeat (first | apply Kd.R_alloc | apply Kd.R_drewN | apply Kd.R_drew)); exact HO320.out))) (below_size (by repeat (first | (with_reducible first | exact HB.out | apply below_alloc | apply pw_below_drewN | apply below_drew1) | exact HB.out)))); have n3_ := Aside0.mk (Kd.C_below (by repeat (first | (with_reducible exact HR312.out) | (with_reducible refine Kd.C_alloc ?_ _) | (with_reducible refine Kd.C_drewN ?_ _) | (with_reducible refine Kd.C_drew ?_) | exact HR312.out)) hb); have n4_ := Aside0.mk (below_step (by repeat (first | (with_reducible first | exact HB.out | apply below_alloc | apply pw_below_drewN | apply below_drew1) | exact HB.out)) hb); clear HO308; clear HO320; clear HR312; clear HB; have HO308 := n0_; have HO320 := n1_; have HO324 := n2_; have HR312 := n3_; have HB := n4_; clear n0_ n1_ n2_ n3_ n4_; (try clear hb); (try clear hb2); (try clear hk); (try clear hi); (try clear ho0)))
      (try simp only [Act.put, List.setIfInBounds_toArray, List.set_cons_zero, List.set_cons_succ])
      go_cut [67] (fun v67 wc => ∃ (kq : Nat) (x67_9 : Bool), v67 = .bool x67_9 ∧ Aside0 (relstorelaw_ValueRows.j0 kq a1 t317 t321 x67_9 = some r) ∧ Aside0 (kq ≤ k) ∧ Aside0 (Kd.R k29 29 wc w.heap.size (fun k_ => some k_ ≠ (v323 : Value).ownBlock) v319 t317) ∧ Aside0 (Kd.R k29 29 wc w.heap.size (fun k_ => some k_ ≠ (v319 : Value).ownBlock) v323 t321) ∧ Aside0 (Kd.C k29 wc Ao13 y309.length y309) ∧ Aside0 (Below w.heap.size w wc))
      case first =>
        have H := HC10.out
        clear HC10
        by_cases c18 : t313.toList = t315.toList
        · rw [if_pos c18] at H
          have c18b0 : (t313.toList == t315.toList) = true := beq_iff_eq.mpr c18
          have c18b1 : (t313.toList != t315.toList) = false := bne_eq_false_iff_eq.mpr c18
          clear c18
          (first | rw [c18b0] | (simp only [i64_w, i32_w]; rw [c18b0]) | skip)
          replace H := Option.bind_eq_some_iff.mp H
          obtain ⟨t325, A190, H⟩ := H
          replace H : (if t325 = t316 then ((relstorelaw_back.f k t306 l0).bind fun t326 => (if t326 = true then ((relstorelaw_sameValues.f k t317 t321).bind fun t327 => (if t327 = true then ((relstorelaw_num.f t318).bind fun t328 => (relstorelaw_ValueRows.j0 k a1 t317 t321 (t328 != t322))) else (relstorelaw_ValueRows.j0 k a1 t317 t321 true))) else (relstorelaw_ValueRows.j0 k a1 t317 t321 true))) else (relstorelaw_ValueRows.j0 k a1 t317 t321 true)) = some r := H
          have A19 := Aside0.mk A190
          clear A190
          by_cases c20 : t325 = t316
          · rw [if_pos c20] at H
            have c20b0 : (t325 == t316) = true := beq_iff_eq.mpr c20
            have c20b1 : (t325 != t316) = false := bne_eq_false_iff_eq.mpr c20
            clear c20
            replace H := Option.bind_eq_some_iff.mp H
            obtain ⟨t326, A210, H⟩ := H
            replace H : (if t326 = true then ((relstorelaw_sameValues.f k t317 t321).bind fun t327 => (if t327 = true then ((relstorelaw_num.f t318).bind fun t328 => (relstorelaw_ValueRows.j0 k a1 t317 t321 (t328 != t322))) else (relstorelaw_ValueRows.j0 k a1 t317 t321 true))) else (relstorelaw_ValueRows.j0 k a1 t317 t321 true)) = some r := H
            have A21 := Aside0.mk A210
            clear A210
            by_cases c22 : t326 = true
            · subst c22
              have H1 : ((relstorelaw_sameValues.f k t317 t321).bind fun t327 => (if t327 = true then ((relstorelaw_num.f t318).bind fun t328 => (relstorelaw_ValueRows.j0 k a1 t317 t321 (t328 != t322))) else (relstorelaw_ValueRows.j0 k a1 t317 t321 true))) = some r := by rw [if_pos rfl] at H; exact H
              clear H
              have H := H1
              clear H1
              replace H := Option.bind_eq_some_iff.mp H
              obtain ⟨t327, A230, H⟩ := H
              replace H : (if t327 = true then ((relstorelaw_num.f t318).bind fun t328 => (relstorelaw_ValueRows.j0 k a1 t317 t321 (t328 != t322))) else (relstorelaw_ValueRows.j0 k a1 t317 t321 true)) = some r := H
              have A23 := Aside0.mk A230
              clear A230
              by_cases c24 : t327 = true
              · subst c24
                have H1 : ((relstorelaw_num.f t318).bind fun t328 => (relstorelaw_ValueRows.j0 k a1 t317 t321 (t328 != t322))) = some r := by rw [if_pos rfl] at H; exact H
                clear H
                have H := H1
                clear H1
                replace H := Option.bind_eq_some_iff.mp H
                obtain ⟨t328, A250, H⟩ := H
                replace H : (relstorelaw_ValueRows.j0 k a1 t317 t321 (t328 != t322)) = some r := H
                have A25 := Aside0.mk A250
                clear A250
                have H' := Aside0.mk H
                clear H
                go_wp2_with (first | (go_at_call 15; (with_reducible refine (relstorelaw_num.calls t314 t325 _ A19.out).mono ?_); rintro e w' ⟨rfl, ⟨nd, rfl⟩⟩) | (go_at_call 23; (with_reducible refine (relstorelaw_back.calls k _ _ t306 _ _ l0 true _ ?side1 ?side2 ?side3 ?side4 A21.out).mono ?_); (case side1 => repeat (first | exact (Kd.R_reads' HO308.out).2.2 | (with_reducible refine Kd.C_alloc ?_ _) | (with_reducible refine Kd.C_drewN ?_ _) | (with_reducible refine Kd.C_drew ?_))); (case side2 => exact (Kd.R_reads' HO308.out).2.1); (case side3 => repeat (first | exact (Kd.C_below HR0.out (by repeat (first | (with_reducible first | exact HB.out | apply below_alloc | apply pw_below_drewN | apply below_drew1) | exact HB.out))) | (with_reducible refine Kd.C_alloc ?_ _) | (with_reducible refine Kd.C_drewN ?_ _) | (with_reducible refine Kd.C_drew ?_))); (case side4 => exact HC0.out); rintro e w26 ⟨rfl, hb⟩; have n0_ := Aside0.mk (Kd.R_below (by (with_reducible repeat (first | apply Kd.R_alloc | apply Kd.R_drewN | apply Kd.R_drew)); exact HO308.out) hb); have n1_ := Aside0.mk (Kd.R_below (by (with_reducible repeat (first | apply Kd.R_alloc | apply Kd.R_drewN | apply Kd.R_drew)); exact HO320.out) hb); have n2_ := Aside0.mk (Kd.R_below (by (with_reducible repeat (first | apply Kd.R_alloc | apply Kd.R_drewN | apply Kd.R_drew)); exact HO324.out) hb); have n3_ := Aside0.mk (Kd.C_below (by repeat (first | (with_reducible exact HR312.out) | (with_reducible refine Kd.C_alloc ?_ _) | (with_reducible refine Kd.C_drewN ?_ _) | (with_reducible refine Kd.C_drew ?_) | exact HR312.out)) hb); have n4_ := Aside0.mk (below_step (by repeat (first | (with_reducible first | exact HB.out | apply below_alloc | apply pw_below_drewN | apply below_drew1) | exact HB.out)) hb); clear HO308; clear HO320; clear HO324; clear HR312; clear HB; have HO308 := n0_; have HO320 := n1_; have HO324 := n2_; have HR312 := n3_; have HB := n4_; clear n0_ n1_ n2_ n3_ n4_; (try clear hb); (try clear hb2); (try clear hk); (try clear hi); obtain ⟨Ao27, co27, eo27⟩ := Kd.R_slice HO320.out; subst eo27; obtain ⟨Ao28, co28, eo28⟩ := Kd.R_slice HO324.out; subst eo28) | (go_at_call 56; (with_reducible refine (relstorelaw_sameValues.calls k _ _ t317 _ _ t321 true _ ?side1 ?side2 ?side3 ?side4 A23.out).mono ?_); (case side1 => repeat (first | exact (Kd.R_reads' HO320.out).2.2 | (with_reducible refine Kd.C_alloc ?_ _) | (with_reducible refine Kd.C_drewN ?_ _) | (with_reducible refine Kd.C_drew ?_))); (case side2 => exact (Kd.R_reads' HO320.out).2.1); (case side3 => repeat (first | exact (Kd.R_reads' HO324.out).2.2 | (with_reducible refine Kd.C_alloc ?_ _) | (with_reducible refine Kd.C_drewN ?_ _) | (with_reducible refine Kd.C_drew ?_))); (case side4 => exact (Kd.R_reads' HO324.out).2.1); rintro e w29 ⟨rfl, hb⟩; have n0_ := Aside0.mk (Kd.R_below (by (with_reducible repeat (first | apply Kd.R_alloc | apply Kd.R_drewN | apply Kd.R_drew)); exact HO308.out) hb); have n1_ := Aside0.mk (Kd.R_below (by (with_reducible repeat (first | apply Kd.R_alloc | apply Kd.R_drewN | apply Kd.R_drew)); exact HO320.out) hb); have n2_ := Aside0.mk (Kd.R_below (by (with_reducible repeat (first | apply Kd.R_alloc | apply Kd.R_drewN | apply Kd.R_drew)); exact HO324.out) hb); have n3_ := Aside0.mk (Kd.C_below (by repeat (first | (with_reducible exact HR312.out) | (with_reducible refine Kd.C_alloc ?_ _) | (with_reducible refine Kd.C_drewN ?_ _) | (with_reducible refine Kd.C_drew ?_) | exact HR312.out)) hb); have n4_ := Aside0.mk (below_step (by repeat (first | (with_reducible first | exact HB.out | apply below_alloc | apply pw_below_drewN | apply below_drew1) | exact HB.out)) hb); clear HO308; clear HO320; clear HO324; clear HR312; clear HB; have HO308 := n0_; have HO320 := n1_; have HO324 := n2_; have HR312 := n3_; have HB := n4_; clear n0_ n1_ n2_ n3_ n4_; (try clear hb); (try clear hb2); (try clear hk); (try clear hi)) | (go_at_call 15; (with_reducible refine (relstorelaw_num.calls t318 t328 _ A25.out).mono ?_); rintro e w' ⟨rfl, ⟨nd, rfl⟩⟩))
                go_meet
                case rel => exact ⟨_, ((t328 != t322)), (by first | rfl | (simp; done) | (simp [*]; done) | exact bq1 _ _ | exact bq2 _ _ | exact congrArg Value.bool (bq2 _ _) | exact congrArg Value.bool (bq1 _ _) | exact congrArg Value.bool (bq1' _ _) | exact bq1' _ _ | exact congrArg Value.bool (bq2' _ _) | exact bq2' _ _), H', ⟨by first | omega | exact Nat.le_refl _⟩, ⟨by (with_reducible repeat (first | apply Kd.R_alloc | apply Kd.R_drewN | apply Kd.R_drew)); exact Kd.R_mono HO320.out (fun _ hk => hk.2)⟩, ⟨by (with_reducible repeat (first | apply Kd.R_alloc | apply Kd.R_drewN | apply Kd.R_drew)); exact Kd.R_mono HO324.out (fun _ hk => hk.2)⟩, ⟨by repeat (first | (with_reducible exact HR312.out) | (with_reducible refine Kd.C_alloc ?_ _) | (with_reducible refine Kd.C_drewN ?_ _) | (with_reducible refine Kd.C_drew ?_) | exact HR312.out)⟩, ⟨by repeat (first | (with_reducible first | exact HB.out | apply below_alloc | apply pw_below_drewN | apply below_drew1) | exact HB.out)⟩⟩
              · replace c24 := Bool.eq_false_iff.mpr c24
                subst c24
                have H1 : (relstorelaw_ValueRows.j0 k a1 t317 t321 true) = some r := by rw [if_neg (show ¬ (false = true) by decide)] at H; exact H
                clear H
                have H := H1
                clear H1
                have H' := Aside0.mk H
                clear H
                go_wp2_with (first | (go_at_call 15; (with_reducible refine (relstorelaw_num.calls t314 t325 _ A19.out).mono ?_); rintro e w' ⟨rfl, ⟨nd, rfl⟩⟩) | (go_at_call 23; (with_reducible refine (relstorelaw_back.calls k _ _ t306 _ _ l0 true _ ?side1 ?side2 ?side3 ?side4 A21.out).mono ?_); (case side1 => repeat (first | exact (Kd.R_reads' HO308.out).2.2 | (with_reducible refine Kd.C_alloc ?_ _) | (with_reducible refine Kd.C_drewN ?_ _) | (with_reducible refine Kd.C_drew ?_))); (case side2 => exact (Kd.R_reads' HO308.out).2.1); (case side3 => repeat (first | exact (Kd.C_below HR0.out (by repeat (first | (with_reducible first | exact HB.out | apply below_alloc | apply pw_below_drewN | apply below_drew1) | exact HB.out))) | (with_reducible refine Kd.C_alloc ?_ _) | (with_reducible refine Kd.C_drewN ?_ _) | (with_reducible refine Kd.C_drew ?_))); (case side4 => exact HC0.out); rintro e w30 ⟨rfl, hb⟩; have n0_ := Aside0.mk (Kd.R_below (by (with_reducible repeat (first | apply Kd.R_alloc | apply Kd.R_drewN | apply Kd.R_drew)); exact HO308.out) hb); have n1_ := Aside0.mk (Kd.R_below (by (with_reducible repeat (first | apply Kd.R_alloc | apply Kd.R_drewN | apply Kd.R_drew)); exact HO320.out) hb); have n2_ := Aside0.mk (Kd.R_below (by (with_reducible repeat (first | apply Kd.R_alloc | apply Kd.R_drewN | apply Kd.R_drew)); exact HO324.out) hb); have n3_ := Aside0.mk (Kd.C_below (by repeat (first | (with_reducible exact HR312.out) | (with_reducible refine Kd.C_alloc ?_ _) | (with_reducible refine Kd.C_drewN ?_ _) | (with_reducible refine Kd.C_drew ?_) | exact HR312.out)) hb); have n4_ := Aside0.mk (below_step (by repeat (first | (with_reducible first | exact HB.out | apply below_alloc | apply pw_below_drewN | apply below_drew1) | exact HB.out)) hb); clear HO308; clear HO320; clear HO324; clear HR312; clear HB; have HO308 := n0_; have HO320 := n1_; have HO324 := n2_; have HR312 := n3_; have HB := n4_; clear n0_ n1_ n2_ n3_ n4_; (try clear hb); (try clear hb2); (try clear hk); (try clear hi); obtain ⟨Ao31, co31, eo31⟩ := Kd.R_slice HO320.out; subst eo31; obtain ⟨Ao32, co32, eo32⟩ := Kd.R_slice HO324.out; subst eo32) | (go_at_call 56; (with_reducible refine (relstorelaw_sameValues.calls k _ _ t317 _ _ t321 false _ ?side1 ?side2 ?side3 ?side4 A23.out).mono ?_); (case side1 => repeat (first | exact (Kd.R_reads' HO320.out).2.2 | (with_reducible refine Kd.C_alloc ?_ _) | (with_reducible refine Kd.C_drewN ?_ _) | (with_reducible refine Kd.C_drew ?_))); (case side2 => exact (Kd.R_reads' HO320.out).2.1); (case side3 => repeat (first | exact (Kd.R_reads' HO324.out).2.2 | (with_reducible refine Kd.C_alloc ?_ _) | (with_reducible refine Kd.C_drewN ?_ _) | (with_reducible refine Kd.C_drew ?_))); (case side4 => exact (Kd.R_reads' HO324.out).2.1); rintro e w33 ⟨rfl, hb⟩; have n0_ := Aside0.mk (Kd.R_below (by (with_reducible repeat (first | apply Kd.R_alloc | apply Kd.R_drewN | apply Kd.R_drew)); exact HO308.out) hb); have n1_ := Aside0.mk (Kd.R_below (by (with_reducible repeat (first | apply Kd.R_alloc | apply Kd.R_drewN | apply Kd.R_drew)); exact HO320.out) hb); have n2_ := Aside0.mk (Kd.R_below (by (with_reducible repeat (first | apply Kd.R_alloc | apply Kd.R_drewN | apply Kd.R_drew)); exact HO324.out) hb); have n3_ := Aside0.mk (Kd.C_below (by repeat (first | (with_reducible exact HR312.out) | (with_reducible refine Kd.C_alloc ?_ _) | (with_reducible refine Kd.C_drewN ?_ _) | (with_reducible refine Kd.C_drew ?_) | exact HR312.out)) hb); have n4_ := Aside0.mk (below_step (by repeat (first | (with_reducible first | exact HB.out | apply below_alloc | apply pw_below_drewN | apply below_drew1) | exact HB.out)) hb); clear HO308; clear HO320; clear HO324; clear HR312; clear HB; have HO308 := n0_; have HO320 := n1_; have HO324 := n2_; have HR312 := n3_; have HB := n4_; clear n0_ n1_ n2_ n3_ n4_; (try clear hb); (try clear hb2); (try clear hk); (try clear hi)))
                go_meet
                case rel => exact ⟨_, (true), (by first | rfl | (simp; done) | (simp [*]; done) | exact bq1 _ _ | exact bq2 _ _ | exact congrArg Value.bool (bq2 _ _) | exact congrArg Value.bool (bq1 _ _) | exact congrArg Value.bool (bq1' _ _) | exact bq1' _ _ | exact congrArg Value.bool (bq2' _ _) | exact bq2' _ _), H', ⟨by first | omega | exact Nat.le_refl _⟩, ⟨by (with_reducible repeat (first | apply Kd.R_alloc | apply Kd.R_drewN | apply Kd.R_drew)); exact Kd.R_mono HO320.out (fun _ hk => hk.2)⟩, ⟨by (with_reducible repeat (first | apply Kd.R_alloc | apply Kd.R_drewN | apply Kd.R_drew)); exact Kd.R_mono HO324.out (fun _ hk => hk.2)⟩, ⟨by repeat (first | (with_reducible exact HR312.out) | (with_reducible refine Kd.C_alloc ?_ _) | (with_reducible refine Kd.C_drewN ?_ _) | (with_reducible refine Kd.C_drew ?_) | exact HR312.out)⟩, ⟨by repeat (first | (with_reducible first | exact HB.out | apply below_alloc | apply pw_below_drewN | apply below_drew1) | exact HB.out)⟩⟩
            · replace c22 := Bool.eq_false_iff.mpr c22
              subst c22
              have H1 : (relstorelaw_ValueRows.j0 k a1 t317 t321 true) = some r := by rw [if_neg (show ¬ (false = true) by decide)] at H; exact H
              clear H
              have H := H1
              clear H1
              have H' := Aside0.mk H
              clear H
              go_wp2_with (first | (go_at_call 15; (with_reducible refine (relstorelaw_num.calls t314 t325 _ A19.out).mono ?_); rintro e w' ⟨rfl, ⟨nd, rfl⟩⟩) | (go_at_call 23; (with_reducible refine (relstorelaw_back.calls k _ _ t306 _ _ l0 false _ ?side1 ?side2 ?side3 ?side4 A21.out).mono ?_); (case side1 => repeat (first | exact (Kd.R_reads' HO308.out).2.2 | (with_reducible refine Kd.C_alloc ?_ _) | (with_reducible refine Kd.C_drewN ?_ _) | (with_reducible refine Kd.C_drew ?_))); (case side2 => exact (Kd.R_reads' HO308.out).2.1); (case side3 => repeat (first | exact (Kd.C_below HR0.out (by repeat (first | (with_reducible first | exact HB.out | apply below_alloc | apply pw_below_drewN | apply below_drew1) | exact HB.out))) | (with_reducible refine Kd.C_alloc ?_ _) | (with_reducible refine Kd.C_drewN ?_ _) | (with_reducible refine Kd.C_drew ?_))); (case side4 => exact HC0.out); rintro e w34 ⟨rfl, hb⟩; have n0_ := Aside0.mk (Kd.R_below (by (with_reducible repeat (first | apply Kd.R_alloc | apply Kd.R_drewN | apply Kd.R_drew)); exact HO308.out) hb); have n1_ := Aside0.mk (Kd.R_below (by (with_reducible repeat (first | apply Kd.R_alloc | apply Kd.R_drewN | apply Kd.R_drew)); exact HO320.out) hb); have n2_ := Aside0.mk (Kd.R_below (by (with_reducible repeat (first | apply Kd.R_alloc | apply Kd.R_drewN | apply Kd.R_drew)); exact HO324.out) hb); have n3_ := Aside0.mk (Kd.C_below (by repeat (first | (with_reducible exact HR312.out) | (with_reducible refine Kd.C_alloc ?_ _) | (with_reducible refine Kd.C_drewN ?_ _) | (with_reducible refine Kd.C_drew ?_) | exact HR312.out)) hb); have n4_ := Aside0.mk (below_step (by repeat (first | (with_reducible first | exact HB.out | apply below_alloc | apply pw_below_drewN | apply below_drew1) | exact HB.out)) hb); clear HO308; clear HO320; clear HO324; clear HR312; clear HB; have HO308 := n0_; have HO320 := n1_; have HO324 := n2_; have HR312 := n3_; have HB := n4_; clear n0_ n1_ n2_ n3_ n4_; (try clear hb); (try clear hb2); (try clear hk); (try clear hi)))
              go_meet
              case rel => exact ⟨_, (true), (by first | rfl | (simp; done) | (simp [*]; done) | exact bq1 _ _ | exact bq2 _ _ | exact congrArg Value.bool (bq2 _ _) | exact congrArg Value.bool (bq1 _ _) | exact congrArg Value.bool (bq1' _ _) | exact bq1' _ _ | exact congrArg Value.bool (bq2' _ _) | exact bq2' _ _), H', ⟨by first | omega | exact Nat.le_refl _⟩, ⟨by (with_reducible repeat (first | apply Kd.R_alloc | apply Kd.R_drewN | apply Kd.R_drew)); exact Kd.R_mono HO320.out (fun _ hk => hk.2)⟩, ⟨by (with_reducible repeat (first | apply Kd.R_alloc | apply Kd.R_drewN | apply Kd.R_drew)); exact Kd.R_mono HO324.out (fun _ hk => hk.2)⟩, ⟨by repeat (first | (with_reducible exact HR312.out) | (with_reducible refine Kd.C_alloc ?_ _) | (with_reducible refine Kd.C_drewN ?_ _) | (with_reducible refine Kd.C_drew ?_) | exact HR312.out)⟩, ⟨by repeat (first | (with_reducible first | exact HB.out | apply below_alloc | apply pw_below_drewN | apply below_drew1) | exact HB.out)⟩⟩
          · rw [if_neg c20] at H
            have c20b0 : (t325 == t316) = false := beq_eq_false_iff_ne.mpr c20
            have c20b1 : (t325 != t316) = true := bne_iff_ne.mpr c20
            have H' := Aside0.mk H
            clear H
            go_wp2_with (first | (go_at_call 15; (with_reducible refine (relstorelaw_num.calls t314 t325 _ A19.out).mono ?_); rintro e w' ⟨rfl, ⟨nd, rfl⟩⟩))
            go_meet
            case rel => exact ⟨_, (true), (by first | rfl | (simp; done) | (simp [*]; done) | exact bq1 _ _ | exact bq2 _ _ | exact congrArg Value.bool (bq2 _ _) | exact congrArg Value.bool (bq1 _ _) | exact congrArg Value.bool (bq1' _ _) | exact bq1' _ _ | exact congrArg Value.bool (bq2' _ _) | exact bq2' _ _), H', ⟨by first | omega | exact Nat.le_refl _⟩, ⟨by (with_reducible repeat (first | apply Kd.R_alloc | apply Kd.R_drewN | apply Kd.R_drew)); exact Kd.R_mono HO320.out (fun _ hk => hk.2)⟩, ⟨by (with_reducible repeat (first | apply Kd.R_alloc | apply Kd.R_drewN | apply Kd.R_drew)); exact Kd.R_mono HO324.out (fun _ hk => hk.2)⟩, ⟨by repeat (first | (with_reducible exact HR312.out) | (with_reducible refine Kd.C_alloc ?_ _) | (with_reducible refine Kd.C_drewN ?_ _) | (with_reducible refine Kd.C_drew ?_) | exact HR312.out)⟩, ⟨by repeat (first | (with_reducible first | exact HB.out | apply below_alloc | apply pw_below_drewN | apply below_drew1) | exact HB.out)⟩⟩
        · rw [if_neg c18] at H
          have c18b0 : (t313.toList == t315.toList) = false := beq_eq_false_iff_ne.mpr c18
          have c18b1 : (t313.toList != t315.toList) = true := bne_iff_ne.mpr c18
          (first | rw [c18b0] | (simp only [i64_w, i32_w]; rw [c18b0]) | skip)
          have H' := Aside0.mk H
          clear H
          go_wp2
          go_meet
          case rel => exact ⟨_, (true), (by first | rfl | (simp; done) | (simp [*]; done) | exact bq1 _ _ | exact bq2 _ _ | exact congrArg Value.bool (bq2 _ _) | exact congrArg Value.bool (bq1 _ _) | exact congrArg Value.bool (bq1' _ _) | exact bq1' _ _ | exact congrArg Value.bool (bq2' _ _) | exact bq2' _ _), H', ⟨by first | omega | exact Nat.le_refl _⟩, ⟨by (with_reducible repeat (first | apply Kd.R_alloc | apply Kd.R_drewN | apply Kd.R_drew)); exact Kd.R_mono HO320.out (fun _ hk => hk.2)⟩, ⟨by (with_reducible repeat (first | apply Kd.R_alloc | apply Kd.R_drewN | apply Kd.R_drew)); exact Kd.R_mono HO324.out (fun _ hk => hk.2)⟩, ⟨by repeat (first | (with_reducible exact HR312.out) | (with_reducible refine Kd.C_alloc ?_ _) | (with_reducible refine Kd.C_drewN ?_ _) | (with_reducible refine Kd.C_drew ?_) | exact HR312.out)⟩, ⟨by repeat (first | (with_reducible first | exact HB.out | apply below_alloc | apply pw_below_drewN | apply below_drew1) | exact HB.out)⟩⟩
      case rest =>
        clear HC10
        try clear c1
        try clear q1
        try clear c2
        try clear p2
        try clear q2
        try clear c4
        try clear c4b0
        try clear c4b1
        try clear c5
        try clear c5b0
        try clear c5b1
        try clear c10
        try clear q12
        try clear c18
        try clear c18b0
        try clear c18b1
        try clear c20
        try clear c20b0
        try clear c20b1
        try clear c22
        try clear c24
        try clear q12
        obtain ⟨kq, x67_9, rfl, HA, HJ9, HO_10, HO_12, HR312, HB⟩ := hcut
        cases kq with
        | zero => exact absurd HA.out (by simp [relstorelaw_ValueRows.j0])
        | succ kj9 =>
          have H := HA.out
          clear HA
          simp only [relstorelaw_ValueRows.j0] at H
          by_cases c35 : x67_9 = true
          · subst c35
            have H1 : (some false) = some r := by rw [if_pos rfl] at H; exact H
            clear H
            have H := H1
            clear H1
            obtain rfl := Option.some.inj H
            go_wp2
            go_ret
            exact ⟨by first | rfl | (simp [errW_none, errW_some] <;> rfl) | (simp [*, errW_none, errW_some] <;> rfl), by repeat (first | (with_reducible first | exact HB.out | apply below_alloc | apply pw_below_drewN | apply below_drew1) | exact HB.out)⟩
          · replace c35 := Bool.eq_false_iff.mpr c35
            subst c35
            have H1 : ((relstorelaw_spoil.f kj9 t317).bind fun _ => ((value_Unpack.f kj9 a1).bind fun bt329 => ((relstorelaw_sameValues.f kj9 bt329.1 t321).bind fun t333 => (some t333)))) = some r := by rw [if_neg (show ¬ (false = true) by decide)] at H; exact H
            clear H
            have H := H1
            clear H1
            replace H := Option.bind_eq_some_iff.mp H
            obtain ⟨_, A360, H⟩ := H
            replace H : ((value_Unpack.f kj9 a1).bind fun bt329 => ((relstorelaw_sameValues.f kj9 bt329.1 t321).bind fun t333 => (some t333))) = some r := H
            have A36 := Aside0.mk A360
            clear A360
            replace H := Option.bind_eq_some_iff.mp H
            obtain ⟨⟨t329, t330⟩, A370, H⟩ := H
            replace H : ((relstorelaw_sameValues.f kj9 t329 t321).bind fun t333 => (some t333)) = some r := H
            have A37 := Aside0.mk A370
            clear A370
            replace H := Option.bind_eq_some_iff.mp H
            obtain ⟨t333, A380, H⟩ := H
            replace H : (some t333) = some r := H
            have A38 := Aside0.mk A380
            clear A380
            obtain rfl := Option.some.inj H
            obtain ⟨Ao39, co39, eo39⟩ := Kd.R_slice HO_10.out
            subst eo39
            go_wp2_with (first | ((with_reducible refine gate_callee (f := 57) rfl ?_); refine goesL_ (some 69) rfl rfl Try.func57 (by kernel_rfl) rfl #[.slice Ao39 t317.length co39] rfl (by (try simp only [List.map_toArray, List.map_cons, List.map_nil]); first | done | rfl | (simp only [List.length_drop, List.length_take]; rfl) | (simp only [Int.ofNat_lt, Int.ofNat_le]; done) | (simp only [Int.ofNat_lt, Int.ofNat_le]; rfl)) ?_; (with_reducible refine (relstorelaw_spoil.calls kj9 (fun k_ => some k_ = (.slice Ao39 t317.length co39 : Value).ownBlock) (.slice Ao39 t317.length co39) t317  w _ ?side1 ?side2 A36.out).mono ?_); (case side1 => repeat (first | (with_reducible first | exact HB.out | apply below_alloc | apply pw_below_drewN | apply below_drew1) | exact HB.out)); (case side2 => exact Kd.R_tight rfl HO_10.out); rintro e w40 ⟨rfl, hb, hkp⟩; refine ⟨_, rfl, ?_⟩; have n0_ := Aside0.mk (Kd.R_mono (ok' := fun k_ => True) (Kd.R_keptB (HO_12.out) hkp (fun k_ hk_ hs_ => (hk_) hs_)) (fun k_ hk_ => trivial)); have n1_ := Aside0.mk (hb); clear HO_12; clear HB; clear HO_10; have HO_12 := n0_; have HB := n1_; clear n0_ n1_; (try clear hb); (try clear hkp)) | ((with_reducible refine gate_callee (f := 54) rfl ?_); refine goesL_ (some 72) rfl rfl Try.func54 (by kernel_rfl) rfl #[.string a1] rfl (by (try simp only [List.map_toArray, List.map_cons, List.map_nil]); first | done | rfl | (simp only [List.length_drop, List.length_take]; rfl) | (simp only [Int.ofNat_lt, Int.ofNat_le]; done) | (simp only [Int.ofNat_lt, Int.ofNat_le]; rfl)) ?_; (with_reducible refine (value_Unpack.calls kj9 a1 t329 t330 _ A37.out).mono ?_); rintro e w41 ⟨v331, rfl, ho0, hb⟩; refine ⟨_, rfl, ?_⟩; have n0_ := Aside0.mk (Kd.R_elder' (by (with_reducible repeat (first | apply Kd.R_alloc | apply Kd.R_drewN | apply Kd.R_drew)); exact HO_12.out) (Kd.R_base ho0) hb); have n1_ := Aside0.mk (Kd.R_lower (Kd.R_new' ho0 (Kd.R_lt (by (with_reducible repeat (first | apply Kd.R_alloc | apply Kd.R_drewN | apply Kd.R_drew)); exact HO_12.out))) (below_size (by repeat (first | (with_reducible first | exact HB.out | apply below_alloc | apply pw_below_drewN | apply below_drew1) | exact HB.out)))); have n2_ := Aside0.mk (below_step (by repeat (first | (with_reducible first | exact HB.out | apply below_alloc | apply pw_below_drewN | apply below_drew1) | exact HB.out)) hb); clear HO_12; clear HB; have HO_12 := n0_; have HO332 := n1_; have HB := n2_; clear n0_ n1_ n2_; (try clear hb); (try clear hb2); (try clear hk); (try clear hi); (try clear ho0); obtain ⟨Ao42, co42, eo42⟩ := Kd.R_slice HO332.out; subst eo42; obtain ⟨Ao43, co43, eo43⟩ := Kd.R_slice HO_12.out; subst eo43) | ((with_reducible refine gate_callee (f := 56) rfl ?_); refine goesL_ (some 77) rfl rfl Try.func56 (by kernel_rfl) rfl #[.slice Ao42 t329.length co42, .slice Ao43 t321.length co43] rfl (by (try simp only [List.map_toArray, List.map_cons, List.map_nil]); first | done | rfl | (simp only [List.length_drop, List.length_take]; rfl) | (simp only [Int.ofNat_lt, Int.ofNat_le]; done) | (simp only [Int.ofNat_lt, Int.ofNat_le]; rfl)) ?_; (with_reducible refine (relstorelaw_sameValues.calls kj9 _ _ t329 _ _ t321 t333 _ ?side1 ?side2 ?side3 ?side4 A38.out).mono ?_); (case side1 => repeat (first | exact (Kd.R_reads' HO332.out).2.2 | (with_reducible refine Kd.C_alloc ?_ _) | (with_reducible refine Kd.C_drewN ?_ _) | (with_reducible refine Kd.C_drew ?_))); (case side2 => exact (Kd.R_reads' HO332.out).2.1); (case side3 => repeat (first | exact (Kd.R_reads' HO_12.out).2.2 | (with_reducible refine Kd.C_alloc ?_ _) | (with_reducible refine Kd.C_drewN ?_ _) | (with_reducible refine Kd.C_drew ?_))); (case side4 => exact (Kd.R_reads' HO_12.out).2.1); rintro e w44 ⟨rfl, hb⟩; refine ⟨_, rfl, ?_⟩; have n0_ := Aside0.mk (Kd.R_below (by (with_reducible repeat (first | apply Kd.R_alloc | apply Kd.R_drewN | apply Kd.R_drew)); exact HO_12.out) hb); have n1_ := Aside0.mk (Kd.R_below (by (with_reducible repeat (first | apply Kd.R_alloc | apply Kd.R_drewN | apply Kd.R_drew)); exact HO332.out) hb); have n2_ := Aside0.mk (below_step (by repeat (first | (with_reducible first | exact HB.out | apply below_alloc | apply pw_below_drewN | apply below_drew1) | exact HB.out)) hb); clear HO_12; clear HO332; clear HB; have HO_12 := n0_; have HO332 := n1_; have HB := n2_; clear n0_ n1_ n2_; (try clear hb); (try clear hb2); (try clear hk); (try clear hi)))
            go_ret
            exact ⟨by first | rfl | (simp [errW_none, errW_some] <;> rfl) | (simp [*, errW_none, errW_some] <;> rfl), by repeat (first | (with_reducible first | exact HB.out | apply below_alloc | apply pw_below_drewN | apply below_drew1) | exact HB.out)⟩
    · rw [if_neg c5] at H
      exact absurd H (by simp)
  · rw [if_neg c4] at H
    exact absurd H (by simp)

end Go.Proofs.Ythaoaaboempajaa.QValueRows
