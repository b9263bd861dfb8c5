/- Lines of the texts that the claim ValueKeys rests on, bundled: part 6; no conditions but those that each row names. -/
import Derived.Test.YthaoaaboempajabDoorMValueKeys5
import Derived.Lib.Bytes
import Derived.Lib.Bytealg
import Derived.Lib.IndexBytes
namespace Go.Proofs.YthaoaaboempajabDoor.QValueKeys
open Go.RowKit Go.Proofs.YthaoaaboempajabDoorW.PrintWords Go.Proofs.YthaoaaboempajabDoorW.PrintLast Go.Proofs.YthaoaaboempajabDoorW.PrintMore Go.Proofs.YthaoaaboempajabDoorX
attribute [local go_sem] max2_int min2_int max_two min_two max_three min_three max_four min_four   -- for this text's walks alone
set_option linter.unusedVariables false
set_option linter.unusedSimpArgs false
def relstorelaw_ValueKeys.j0 : Nat → ByteArray → List (S38) → List (S38) → Bool → Option (Bool)
  | 0, _, _, _, _ => none
  | k + 1, x1, x5, x7, x49 => if x49 = true then (some false) else ((relstorelaw_spoil.f k x5).bind fun _ => ((value_Unkey.f k x1).bind fun bt328 => ((relstorelaw_sameValues.f k bt328.1 x7).bind fun t332 => (some t332))))
def relstorelaw_ValueKeys.f (k : Nat) (l0 : List (S38)) (a1 : ByteArray) : Option (Bool) := (value_Unkey.f k a1).bind fun bt308 => ((relstoreref_Unkey.f k a1).bind fun bt312 => ((relstorelaw_lent.f l0).bind fun t316 => (if 0 ≤ (l0.length : Int) then (if (l0.length : Int) ≤ (t316.length : Int) then ((value_Key.f k (t316.take ((l0.length : Int) : Int).toNat)).bind fun t323 => ((relstoreref_Key.f k l0).bind fun t324 => (if t323.toList = t324.toList then ((relstorelaw_back.f k t316 l0).bind fun t325 => (if t325 = true then ((relstorelaw_sameValues.f k bt308.1 bt312.1).bind fun t326 => (if t326 = true then ((relstorelaw_num.f bt308.2).bind fun t327 => (relstorelaw_ValueKeys.j0 k a1 bt308.1 bt312.1 (t327 != bt312.2))) else (relstorelaw_ValueKeys.j0 k a1 bt308.1 bt312.1 true))) else (relstorelaw_ValueKeys.j0 k a1 bt308.1 bt312.1 true))) else (relstorelaw_ValueKeys.j0 k a1 bt308.1 bt312.1 true)))) else (none)) else (none))))
theorem relstorelaw_ValueKeys.mono_l : ∀ k, (∀ y0 y1 y2 y3, LeO (relstorelaw_ValueKeys.j0 k y0 y1 y2 y3) (relstorelaw_ValueKeys.j0 (k + 1) y0 y1 y2 y3))
  | 0 => fun _ _ _ _ r h => by simp [relstorelaw_ValueKeys.j0] at h
  | k + 1 => by
    have ih0 := relstorelaw_ValueKeys.mono_l k
    · intro y0 y1 y2 y3
      unfold relstorelaw_ValueKeys.j0
      repeat' first
      | (with_reducible exact ih0 _ _ _ _)
      | (with_reducible exact relstorelaw_back.mono _ _ _)
      | (with_reducible exact relstorelaw_sameValues.mono _ _ _)
      | (with_reducible exact relstorelaw_spoil.mono _ _)
      | (with_reducible exact relstoreref_Key.mono _ _)
      | (with_reducible exact relstoreref_Unkey.mono _ _)
      | (with_reducible exact value_Key.mono _ _)
      | (with_reducible exact value_Unkey.mono _ _)
      | (with_reducible exact LeO.refl _)
      | (with_reducible exact LeO.none _)
      | (with_reducible refine LeO.ite ?_ ?_)
      | (with_reducible refine LeO.bind ?_ (fun _ => ?_))
      | exact ih0 _ _ _ _
      | exact relstorelaw_back.mono _ _ _
      | exact relstorelaw_sameValues.mono _ _ _
      | exact relstorelaw_spoil.mono _ _
      | exact relstoreref_Key.mono _ _
      | exact relstoreref_Unkey.mono _ _
      | exact value_Key.mono _ _
      | exact value_Unkey.mono _ _
      | exact LeO.none _
      | refine LeO.ite ?_ ?_
      | refine LeO.bind ?_ (fun _ => ?_)
theorem relstorelaw_ValueKeys.mono : ∀ a0 a1 k, LeO (relstorelaw_ValueKeys.f k a0 a1) (relstorelaw_ValueKeys.f (k + 1) a0 a1) := by
  intro a0 a1 k
  have ih0 := relstorelaw_ValueKeys.mono_l k
  unfold relstorelaw_ValueKeys.f
  repeat' first
      | (with_reducible exact ih0 _ _ _ _)
      | (with_reducible exact relstorelaw_back.mono _ _ _)
      | (with_reducible exact relstorelaw_sameValues.mono _ _ _)
      | (with_reducible exact relstorelaw_spoil.mono _ _)
      | (with_reducible exact relstoreref_Key.mono _ _)
      | (with_reducible exact relstoreref_Unkey.mono _ _)
      | (with_reducible exact value_Key.mono _ _)
      | (with_reducible exact value_Unkey.mono _ _)
      | (with_reducible exact LeO.refl _)
      | (with_reducible exact LeO.none _)
      | (with_reducible refine LeO.ite ?_ ?_)
      | (with_reducible refine LeO.bind ?_ (fun _ => ?_))
      | exact ih0 _ _ _ _
      | exact relstorelaw_back.mono _ _ _
      | exact relstorelaw_sameValues.mono _ _ _
      | exact relstorelaw_spoil.mono _ _
      | exact relstoreref_Key.mono _ _
      | exact relstoreref_Unkey.mono _ _
      | exact value_Key.mono _ _
      | exact value_Unkey.mono _ _
      | exact LeO.none _
      | refine LeO.ite ?_ ?_
      | refine LeO.bind ?_ (fun _ => ?_)
set_option maxHeartbeats 8000000 in
set_option maxRecDepth 100000 in
theorem relstorelaw_ValueKeys.calls (k : Nat) (A0 : Option Addr) (c0 : Nat) (l0 : List (S38)) (a1 : ByteArray) (r : Bool) (w : World) (hr0 : Kd.C k38 w A0 l0.length l0) (hc0 : l0.length ≤ c0) (h : relstorelaw_ValueKeys.f k l0 a1 = some r) (m0 : Int) (hm : w.cell? ⟨0, 0, none⟩ = some (.int .i64 m0)) :
    Calls Tryd.prog 3 #[.slice A0 l0.length c0, .string a1] w fun e w' => e = .returned (.bool r) ∧ Below w.heap.size w w' := by
  have HM0 := Aside0.mk hm
  clear hm
  have HR0 := Aside0.mk hr0
  have HC0 := Aside0.mk hc0
  clear hr0 hc0
  have HB := Aside0.mk (Below.refl w.heap.size w)
  have H : ((value_Unkey.f k a1).bind fun bt308 => ((relstoreref_Unkey.f k a1).bind fun bt312 => ((relstorelaw_lent.f l0).bind fun t316 => (if 0 ≤ (l0.length : Int) then (if (l0.length : Int) ≤ (t316.length : Int) then ((value_Key.f k (t316.take ((l0.length : Int) : Int).toNat)).bind fun t323 => ((relstoreref_Key.f k l0).bind fun t324 => (if t323.toList = t324.toList then ((relstorelaw_back.f k t316 l0).bind fun t325 => (if t325 = true then ((relstorelaw_sameValues.f k bt308.1 bt312.1).bind fun t326 => (if t326 = true then ((relstorelaw_num.f bt308.2).bind fun t327 => (relstorelaw_ValueKeys.j0 k a1 bt308.1 bt312.1 (t327 != bt312.2))) else (relstorelaw_ValueKeys.j0 k a1 bt308.1 bt312.1 true))) else (relstorelaw_ValueKeys.j0 k a1 bt308.1 bt312.1 true))) else (relstorelaw_ValueKeys.j0 k a1 bt308.1 bt312.1 true)))) else (none)) else (none))))) = some r := h
  clear h
  replace H := Option.bind_eq_some_iff.mp H
  obtain ⟨⟨t308, t309⟩, A30, H⟩ := H
  replace H : ((relstoreref_Unkey.f k a1).bind fun bt312 => ((relstorelaw_lent.f l0).bind fun t316 => (if 0 ≤ (l0.length : Int) then (if (l0.length : Int) ≤ (t316.length : Int) then ((value_Key.f k (t316.take ((l0.length : Int) : Int).toNat)).bind fun t323 => ((relstoreref_Key.f k l0).bind fun t324 => (if t323.toList = t324.toList then ((relstorelaw_back.f k t316 l0).bind fun t325 => (if t325 = true then ((relstorelaw_sameValues.f k t308 bt312.1).bind fun t326 => (if t326 = true then ((relstorelaw_num.f t309).bind fun t327 => (relstorelaw_ValueKeys.j0 k a1 t308 bt312.1 (t327 != bt312.2))) else (relstorelaw_ValueKeys.j0 k a1 t308 bt312.1 true))) else (relstorelaw_ValueKeys.j0 k a1 t308 bt312.1 true))) else (relstorelaw_ValueKeys.j0 k a1 t308 bt312.1 true)))) else (none)) else (none)))) = some r := H
  have A3 := Aside0.mk A30
  clear A30
  replace H := Option.bind_eq_some_iff.mp H
  obtain ⟨⟨t312, t313⟩, A40, H⟩ := H
  replace H : ((relstorelaw_lent.f l0).bind fun t316 => (if 0 ≤ (l0.length : Int) then (if (l0.length : Int) ≤ (t316.length : Int) then ((value_Key.f k (t316.take ((l0.length : Int) : Int).toNat)).bind fun t323 => ((relstoreref_Key.f k l0).bind fun t324 => (if t323.toList = t324.toList then ((relstorelaw_back.f k t316 l0).bind fun t325 => (if t325 = true then ((relstorelaw_sameValues.f k t308 t312).bind fun t326 => (if t326 = true then ((relstorelaw_num.f t309).bind fun t327 => (relstorelaw_ValueKeys.j0 k a1 t308 t312 (t327 != t313))) else (relstorelaw_ValueKeys.j0 k a1 t308 t312 true))) else (relstorelaw_ValueKeys.j0 k a1 t308 t312 true))) else (relstorelaw_ValueKeys.j0 k a1 t308 t312 true)))) else (none)) else (none))) = some r := H
  have A4 := Aside0.mk A40
  clear A40
  replace H := Option.bind_eq_some_iff.mp H
  obtain ⟨t316, A50, H⟩ := H
  replace H : (if 0 ≤ (l0.length : Int) then (if (l0.length : Int) ≤ (t316.length : Int) then ((value_Key.f k (t316.take ((l0.length : Int) : Int).toNat)).bind fun t323 => ((relstoreref_Key.f k l0).bind fun t324 => (if t323.toList = t324.toList then ((relstorelaw_back.f k t316 l0).bind fun t325 => (if t325 = true then ((relstorelaw_sameValues.f k t308 t312).bind fun t326 => (if t326 = true then ((relstorelaw_num.f t309).bind fun t327 => (relstorelaw_ValueKeys.j0 k a1 t308 t312 (t327 != t313))) else (relstorelaw_ValueKeys.j0 k a1 t308 t312 true))) else (relstorelaw_ValueKeys.j0 k a1 t308 t312 true))) else (relstorelaw_ValueKeys.j0 k a1 t308 t312 true)))) else (none)) else (none)) = some r := H
  have A5 := Aside0.mk A50
  clear A50
  have HC6 := Aside0.mk H
  clear H
  go_enter Tryd.func3, Tryd.ntmps3
  go_upto_region 4 with (first | ((with_reducible refine gate_callee (f := 6) rfl ?_); refine goesL_ (some 14) rfl rfl Tryd.func6 (by kernel_rfl) rfl #[.string a1] rfl (by (try simp only [List.map_toArray, List.map_cons, List.map_nil]); first | done | rfl | (simp only [List.length_drop, List.length_take]; rfl) | (simp only [Int.ofNat_lt, Int.ofNat_le]; done) | (simp only [Int.ofNat_lt, Int.ofNat_le]; rfl) | (simp only [ByteArray.size_append, Int.natCast_add]; rfl)) ?_; (with_reducible refine (value_Unkey.calls k a1 t308 t309 _ A3.out).mono ?_); rintro e w7 ⟨v310, rfl, ho0, hb⟩; refine ⟨_, rfl, ?_⟩; have n0_ := Aside0.mk (Kd.R_lower ho0 (below_size (by repeat (first | (with_reducible first | exact HB.out | apply below_alloc | apply pw_below_drewN | apply below_drew1) | exact HB.out)))); have n1_ := Aside0.mk (below_step (by repeat (first | (with_reducible first | exact HB.out | apply below_alloc | apply pw_below_drewN | apply below_drew1) | exact HB.out)) hb); clear HB; have HO311 := n0_; have HB := n1_; clear n0_ n1_; (try clear hb); (try clear hb2); (try clear hk); (try clear hi); (try clear ho0)) | ((with_reducible refine gate_callee (f := 7) rfl ?_); refine goesL_ (some 19) rfl rfl Tryd.func7 (by kernel_rfl) rfl #[.string a1] rfl (by (try simp only [List.map_toArray, List.map_cons, List.map_nil]); first | done | rfl | (simp only [List.length_drop, List.length_take]; rfl) | (simp only [Int.ofNat_lt, Int.ofNat_le]; done) | (simp only [Int.ofNat_lt, Int.ofNat_le]; rfl) | (simp only [ByteArray.size_append, Int.natCast_add]; rfl)) ?_; (with_reducible refine (relstoreref_Unkey.calls k a1 t312 t313 _ A4.out).mono ?_); rintro e w8 ⟨v314, rfl, ho0, hb⟩; refine ⟨_, rfl, ?_⟩; have n0_ := Aside0.mk (Kd.R_elder' (by (with_reducible repeat (first | apply Kd.R_alloc | apply Kd.R_drewN | apply Kd.R_drew)); exact HO311.out) (Kd.R_base ho0) hb); have n1_ := Aside0.mk (Kd.R_lower (Kd.R_new' ho0 (Kd.R_lt (by (with_reducible repeat (first | apply Kd.R_alloc | apply Kd.R_drewN | apply Kd.R_drew)); exact HO311.out))) (below_size (by repeat (first | (with_reducible first | exact HB.out | apply below_alloc | apply pw_below_drewN | apply below_drew1) | exact HB.out)))); have n2_ := Aside0.mk (below_step (by repeat (first | (with_reducible first | exact HB.out | apply below_alloc | apply pw_below_drewN | apply below_drew1) | exact HB.out)) hb); clear HO311; clear HB; have HO311 := n0_; have HO315 := n1_; have HB := n2_; clear n0_ n1_ n2_; (try clear hb); (try clear hb2); (try clear hk); (try clear hi); (try clear ho0)) | ((with_reducible refine gate_callee (f := 8) rfl ?_); refine goesL_ (some 23) rfl rfl Tryd.func8 (by kernel_rfl) rfl #[.slice A0 l0.length c0] rfl (by (try simp only [List.map_toArray, List.map_cons, List.map_nil]); first | done | rfl | (simp only [List.length_drop, List.length_take]; rfl) | (simp only [Int.ofNat_lt, Int.ofNat_le]; done) | (simp only [Int.ofNat_lt, Int.ofNat_le]; rfl) | (simp only [ByteArray.size_append, Int.natCast_add]; rfl)) ?_; (with_reducible refine (relstorelaw_lent.calls _ _ l0 t316 _ ?side1 ?side2 A5.out).mono ?_); (case side1 => repeat (first | exact (Kd.C_below HR0.out HB.out) | (with_reducible refine Kd.C_alloc ?_ _) | (with_reducible refine Kd.C_drewN ?_ _) | (with_reducible refine Kd.C_drew ?_))); (case side2 => exact HC0.out); rintro e w9 ⟨v317, rfl, ho0, hb⟩; refine ⟨_, rfl, ?_⟩; have n0_ := Aside0.mk (Kd.R_elder' (by (with_reducible repeat (first | apply Kd.R_alloc | apply Kd.R_drewN | apply Kd.R_drew)); exact HO311.out) (Kd.R_base ho0) hb); have n1_ := Aside0.mk (Kd.R_elder' (by (with_reducible repeat (first | apply Kd.R_alloc | apply Kd.R_drewN | apply Kd.R_drew)); exact HO315.out) (Kd.R_base ho0) hb); have n2_ := Aside0.mk (Kd.R_lower (Kd.R_new' (Kd.R_new' ho0 (Kd.R_lt (by (with_reducible repeat (first | apply Kd.R_alloc | apply Kd.R_drewN | apply Kd.R_drew)); exact HO311.out))) (Kd.R_lt (by (with_reducible repeat (first | apply Kd.R_alloc | apply Kd.R_drewN | apply Kd.R_drew)); exact HO315.out))) (below_size (by repeat (first | (with_reducible first | exact HB.out | apply below_alloc | apply pw_below_drewN | apply below_drew1) | exact HB.out)))); have n3_ := Aside0.mk (below_step (by repeat (first | (with_reducible first | exact HB.out | apply below_alloc | apply pw_below_drewN | apply below_drew1) | exact HB.out)) hb); clear HO311; clear HO315; clear HB; have HO311 := n0_; have HO315 := n1_; have HO318 := n2_; have HB := n3_; clear n0_ n1_ n2_ n3_; (try clear hb); (try clear hb2); (try clear hk); (try clear hi); (try clear ho0)))
  (try simp only [Act.put, List.setIfInBounds_toArray, List.set_cons_zero, List.set_cons_succ])
  go_cut [49] (fun v49 wc => ∃ (kq : Nat) (x49_5 : Bool), v49 = .bool x49_5 ∧ Aside0 (relstorelaw_ValueKeys.j0 kq a1 t308 t312 x49_5 = some r) ∧ Aside0 (kq ≤ k) ∧ Aside0 (Kd.R k38 38 wc w.heap.size (fun k_ => some k_ ≠ (v314 : Value).ownBlock) v310 t308) ∧ Aside0 (Kd.R k38 38 wc w.heap.size (fun k_ => some k_ ≠ (v310 : Value).ownBlock) v314 t312) ∧ Aside0 (Below w.heap.size w wc))
  case first =>
    have H := HC6.out
    clear HC6
    by_cases c10 : 0 ≤ (l0.length : Int)
    · rw [if_pos c10] at H
      have c10b0 := eq_true c10
      have c10b1 : decide (0 ≤ (l0.length : Int)) = true := decide_eq_true c10
      clear c10
      by_cases c11 : (l0.length : Int) ≤ (t316.length : Int)
      · rw [if_pos c11] at H
        have c11b0 := eq_true c11
        have c11b1 : decide ((l0.length : Int) ≤ (t316.length : Int)) = true := decide_eq_true c11
        clear c11
        obtain ⟨y319, hy319⟩ : ∃ y_ : List (S38), y_ = (t316.take ((l0.length : Int) : Int).toNat) := ⟨_, rfl⟩
        replace H : ((value_Key.f k y319).bind fun t323 => ((relstoreref_Key.f k l0).bind fun t324 => (if t323.toList = t324.toList then ((relstorelaw_back.f k t316 l0).bind fun t325 => (if t325 = true then ((relstorelaw_sameValues.f k t308 t312).bind fun t326 => (if t326 = true then ((relstorelaw_num.f t309).bind fun t327 => (relstorelaw_ValueKeys.j0 k a1 t308 t312 (t327 != t313))) else (relstorelaw_ValueKeys.j0 k a1 t308 t312 true))) else (relstorelaw_ValueKeys.j0 k a1 t308 t312 true))) else (relstorelaw_ValueKeys.j0 k a1 t308 t312 true)))) = some r := by first | (rw [hy319]; with_reducible exact H) | (have H2_ := (Option.bind_some _ _).symm.trans H; rw [hy319]; with_reducible exact H2_) | (have H2_ := (Option.bind_some _ _).symm.trans H; with_reducible exact H2_) | with_reducible exact H | (rw [hy319]; exact H) | exact H
        have Ny319 := Aside0.mk hy319
        clear hy319
        replace H := Option.bind_eq_some_iff.mp H
        obtain ⟨t323, A120, H⟩ := H
        replace H : ((relstoreref_Key.f k l0).bind fun t324 => (if t323.toList = t324.toList then ((relstorelaw_back.f k t316 l0).bind fun t325 => (if t325 = true then ((relstorelaw_sameValues.f k t308 t312).bind fun t326 => (if t326 = true then ((relstorelaw_num.f t309).bind fun t327 => (relstorelaw_ValueKeys.j0 k a1 t308 t312 (t327 != t313))) else (relstorelaw_ValueKeys.j0 k a1 t308 t312 true))) else (relstorelaw_ValueKeys.j0 k a1 t308 t312 true))) else (relstorelaw_ValueKeys.j0 k a1 t308 t312 true))) = some r := H
        have A12 := Aside0.mk A120
        clear A120
        replace H := Option.bind_eq_some_iff.mp H
        obtain ⟨t324, A130, H⟩ := H
        replace H : (if t323.toList = t324.toList then ((relstorelaw_back.f k t316 l0).bind fun t325 => (if t325 = true then ((relstorelaw_sameValues.f k t308 t312).bind fun t326 => (if t326 = true then ((relstorelaw_num.f t309).bind fun t327 => (relstorelaw_ValueKeys.j0 k a1 t308 t312 (t327 != t313))) else (relstorelaw_ValueKeys.j0 k a1 t308 t312 true))) else (relstorelaw_ValueKeys.j0 k a1 t308 t312 true))) else (relstorelaw_ValueKeys.j0 k a1 t308 t312 true)) = some r := H
        have A13 := Aside0.mk A130
        clear A130
        by_cases c14 : t323.toList = t324.toList
        · rw [if_pos c14] at H
          have c14b0 : (t323.toList == t324.toList) = true := beq_iff_eq.mpr c14
          have c14b1 : (t323.toList != t324.toList) = false := bne_eq_false_iff_eq.mpr c14
          clear c14
          (first | rw [c14b0] | (simp only [i64_w, i32_w]; rw [c14b0]) | skip)
          replace H := Option.bind_eq_some_iff.mp H
          obtain ⟨t325, A150, H⟩ := H
          replace H : (if t325 = true then ((relstorelaw_sameValues.f k t308 t312).bind fun t326 => (if t326 = true then ((relstorelaw_num.f t309).bind fun t327 => (relstorelaw_ValueKeys.j0 k a1 t308 t312 (t327 != t313))) else (relstorelaw_ValueKeys.j0 k a1 t308 t312 true))) else (relstorelaw_ValueKeys.j0 k a1 t308 t312 true)) = some r := H
          have A15 := Aside0.mk A150
          clear A150
          by_cases c16 : t325 = true
          · subst c16
            have H1 : ((relstorelaw_sameValues.f k t308 t312).bind fun t326 => (if t326 = true then ((relstorelaw_num.f t309).bind fun t327 => (relstorelaw_ValueKeys.j0 k a1 t308 t312 (t327 != t313))) else (relstorelaw_ValueKeys.j0 k a1 t308 t312 true))) = some r := by rw [if_pos rfl] at H; exact H
            clear H
            have H := H1
            clear H1
            replace H := Option.bind_eq_some_iff.mp H
            obtain ⟨t326, A170, H⟩ := H
            replace H : (if t326 = true then ((relstorelaw_num.f t309).bind fun t327 => (relstorelaw_ValueKeys.j0 k a1 t308 t312 (t327 != t313))) else (relstorelaw_ValueKeys.j0 k a1 t308 t312 true)) = some r := H
            have A17 := Aside0.mk A170
            clear A170
            by_cases c18 : t326 = true
            · subst c18
              have H1 : ((relstorelaw_num.f t309).bind fun t327 => (relstorelaw_ValueKeys.j0 k a1 t308 t312 (t327 != t313))) = some r := by rw [if_pos rfl] at H; exact H
              clear H
              have H := H1
              clear H1
              replace H := Option.bind_eq_some_iff.mp H
              obtain ⟨t327, A190, H⟩ := H
              replace H : (relstorelaw_ValueKeys.j0 k a1 t308 t312 (t327 != t313)) = some r := H
              have A19 := Aside0.mk A190
              clear A190
              have H' := Aside0.mk H
              clear H
              obtain ⟨Ao21, co21, eo21⟩ := Kd.R_slice HO318.out
              subst eo21
              have q20 : ((l0.length : Int) : Int) ≤ ((t316.length : Int) : Int) := of_decide_eq_true (by first | (with_reducible assumption) | assumption)
              obtain ⟨i020, hi020, _, hsz20, _⟩ := info_parts info38
              have hroom20 : t316.length ≤ co21 := (Kd.R_reads' HO318.out).2.1
              have hC20 : Kd.C k38 _ Ao21 t316.length t316 := (Kd.R_reads' HO318.out).2.2
              have hcut20 := cut_to (P := Tryd.prog) 22 38 .i64 Tryd.underlying22 hi020 Ao21 t316.length co21 (l0.length : Int) (of_decide_eq_true (by first | (with_reducible assumption) | assumption)) q20 hroom20
              have hr20 := Kd.C_take (m := ((l0.length : Int) : Int).toNat) hC20 (by omega)
              have hy20 : y319.length = ((l0.length : Int) : Int).toNat := (by rw [Ny319.out, List.length_take]; omega)
              rw [← Ny319.out] at hr20
              rw [← hy20] at hcut20
              have HR322 := Aside0.mk hr20
              have HC322 := Aside0.mk (show y319.length ≤ co21 from by omega)
              clear hr20 hC20 hroom20 hi020 hsz20
              have KY20 := Aside0.mk hy20
              clear hy20
              have KL20 := Aside0.mk (show ((l0.length : Int) : Int).toNat ≤ t316.length from by omega)
              replace q20 := eq_true q20
              go_wp2_with (first | ((with_reducible refine gate_callee (f := 9) rfl ?_); refine goesL_ (some 28) rfl rfl Tryd.func9 (by kernel_rfl) rfl #[.slice Ao21 y319.length co21] rfl (by (try simp only [List.map_toArray, List.map_cons, List.map_nil]); first | done | rfl | (simp only [List.length_drop, List.length_take]; rfl) | (simp only [Int.ofNat_lt, Int.ofNat_le]; done) | (simp only [Int.ofNat_lt, Int.ofNat_le]; rfl) | (simp only [ByteArray.size_append, Int.natCast_add]; rfl)) ?_; (with_reducible refine (value_Key.calls k _ _ y319 t323 _ ?side1 ?side2 A12.out m0 ?hmc).mono ?_); (case hmc => exact (Below.cell (by repeat (first | (with_reducible first | exact HB.out | apply below_alloc | apply pw_below_drewN | apply below_drew1) | exact HB.out)) (World.block_lt_of_cell? _ _ HM0.out)).trans HM0.out); (case side1 => repeat (first | exact (by repeat (first | (with_reducible exact HR322.out) | (with_reducible refine Kd.C_alloc ?_ _) | (with_reducible refine Kd.C_drewN ?_ _) | (with_reducible refine Kd.C_drew ?_) | exact HR322.out)) | (with_reducible refine Kd.C_alloc ?_ _) | (with_reducible refine Kd.C_drewN ?_ _) | (with_reducible refine Kd.C_drew ?_))); (case side2 => exact HC322.out); rintro e w22 ⟨rfl, hb⟩; refine ⟨_, rfl, ?_⟩; have n0_ := Aside0.mk (Kd.R_below (by (with_reducible repeat (first | apply Kd.R_alloc | apply Kd.R_drewN | apply Kd.R_drew)); exact HO311.out) hb); have n1_ := Aside0.mk (Kd.R_below (by (with_reducible repeat (first | apply Kd.R_alloc | apply Kd.R_drewN | apply Kd.R_drew)); exact HO315.out) hb); have n2_ := Aside0.mk (Kd.R_below (by (with_reducible repeat (first | apply Kd.R_alloc | apply Kd.R_drewN | apply Kd.R_drew)); exact HO318.out) hb); have n3_ := Aside0.mk (Kd.C_below (by repeat (first | (with_reducible exact HR322.out) | (with_reducible refine Kd.C_alloc ?_ _) | (with_reducible refine Kd.C_drewN ?_ _) | (with_reducible refine Kd.C_drew ?_) | exact HR322.out)) hb); have n4_ := Aside0.mk (below_step (by repeat (first | (with_reducible first | exact HB.out | apply below_alloc | apply pw_below_drewN | apply below_drew1) | exact HB.out)) hb); clear HO311; clear HO315; clear HO318; clear HR322; clear HB; have HO311 := n0_; have HO315 := n1_; have HO318 := n2_; have HR322 := n3_; have HB := n4_; clear n0_ n1_ n2_ n3_ n4_; (try clear hb); (try clear hb2); (try clear hk); (try clear hi)) | ((with_reducible refine gate_callee (f := 10) rfl ?_); refine goesL_ (some 30) rfl rfl Tryd.func10 (by kernel_rfl) rfl #[.slice A0 l0.length c0] rfl (by (try simp only [List.map_toArray, List.map_cons, List.map_nil]); first | done | rfl | (simp only [List.length_drop, List.length_take]; rfl) | (simp only [Int.ofNat_lt, Int.ofNat_le]; done) | (simp only [Int.ofNat_lt, Int.ofNat_le]; rfl) | (simp only [ByteArray.size_append, Int.natCast_add]; rfl)) ?_; (with_reducible refine (relstoreref_Key.calls k _ _ l0 t324 _ ?side1 ?side2 A13.out).mono ?_); (case side1 => repeat (first | exact (Kd.C_below HR0.out HB.out) | (with_reducible refine Kd.C_alloc ?_ _) | (with_reducible refine Kd.C_drewN ?_ _) | (with_reducible refine Kd.C_drew ?_))); (case side2 => exact HC0.out); rintro e w23 ⟨rfl, hb⟩; refine ⟨_, rfl, ?_⟩; have n0_ := Aside0.mk (Kd.R_below (by (with_reducible repeat (first | apply Kd.R_alloc | apply Kd.R_drewN | apply Kd.R_drew)); exact HO311.out) hb); have n1_ := Aside0.mk (Kd.R_below (by (with_reducible repeat (first | apply Kd.R_alloc | apply Kd.R_drewN | apply Kd.R_drew)); exact HO315.out) hb); have n2_ := Aside0.mk (Kd.R_below (by (with_reducible repeat (first | apply Kd.R_alloc | apply Kd.R_drewN | apply Kd.R_drew)); exact HO318.out) hb); have n3_ := Aside0.mk (Kd.C_below (by repeat (first | (with_reducible exact HR322.out) | (with_reducible refine Kd.C_alloc ?_ _) | (with_reducible refine Kd.C_drewN ?_ _) | (with_reducible refine Kd.C_drew ?_) | exact HR322.out)) hb); have n4_ := Aside0.mk (below_step (by repeat (first | (with_reducible first | exact HB.out | apply below_alloc | apply pw_below_drewN | apply below_drew1) | exact HB.out)) hb); clear HO311; clear HO315; clear HO318; clear HR322; clear HB; have HO311 := n0_; have HO315 := n1_; have HO318 := n2_; have HR322 := n3_; have HB := n4_; clear n0_ n1_ n2_ n3_ n4_; (try clear hb); (try clear hb2); (try clear hk); (try clear hi)) | (go_at_call 11; (with_reducible refine (relstorelaw_back.calls k _ _ t316 _ _ l0 true _ ?side1 ?side2 ?side3 ?side4 A15.out).mono ?_); (case side1 => repeat (first | exact (Kd.R_reads' HO318.out).2.2 | (with_reducible refine Kd.C_alloc ?_ _) | (with_reducible refine Kd.C_drewN ?_ _) | (with_reducible refine Kd.C_drew ?_))); (case side2 => exact (Kd.R_reads' HO318.out).2.1); (case side3 => repeat (first | exact (Kd.C_below HR0.out HB.out) | (with_reducible refine Kd.C_alloc ?_ _) | (with_reducible refine Kd.C_drewN ?_ _) | (with_reducible refine Kd.C_drew ?_))); (case side4 => exact HC0.out); rintro e w24 ⟨rfl, hb⟩; have n0_ := Aside0.mk (Kd.R_below (by (with_reducible repeat (first | apply Kd.R_alloc | apply Kd.R_drewN | apply Kd.R_drew)); exact HO311.out) hb); have n1_ := Aside0.mk (Kd.R_below (by (with_reducible repeat (first | apply Kd.R_alloc | apply Kd.R_drewN | apply Kd.R_drew)); exact HO315.out) hb); have n2_ := Aside0.mk (Kd.R_below (by (with_reducible repeat (first | apply Kd.R_alloc | apply Kd.R_drewN | apply Kd.R_drew)); exact HO318.out) hb); have n3_ := Aside0.mk (Kd.C_below (by repeat (first | (with_reducible exact HR322.out) | (with_reducible refine Kd.C_alloc ?_ _) | (with_reducible refine Kd.C_drewN ?_ _) | (with_reducible refine Kd.C_drew ?_) | exact HR322.out)) hb); have n4_ := Aside0.mk (below_step (by repeat (first | (with_reducible first | exact HB.out | apply below_alloc | apply pw_below_drewN | apply below_drew1) | exact HB.out)) hb); clear HO311; clear HO315; clear HO318; clear HR322; clear HB; have HO311 := n0_; have HO315 := n1_; have HO318 := n2_; have HR322 := n3_; have HB := n4_; clear n0_ n1_ n2_ n3_ n4_; (try clear hb); (try clear hb2); (try clear hk); (try clear hi); obtain ⟨Ao25, co25, eo25⟩ := Kd.R_slice HO311.out; subst eo25; obtain ⟨Ao26, co26, eo26⟩ := Kd.R_slice HO315.out; subst eo26) | (go_at_call 12; (with_reducible refine (relstorelaw_sameValues.calls k _ _ t308 _ _ t312 true _ ?side1 ?side2 ?side3 ?side4 A17.out).mono ?_); (case side1 => repeat (first | exact (Kd.R_reads' HO311.out).2.2 | (with_reducible refine Kd.C_alloc ?_ _) | (with_reducible refine Kd.C_drewN ?_ _) | (with_reducible refine Kd.C_drew ?_))); (case side2 => exact (Kd.R_reads' HO311.out).2.1); (case side3 => repeat (first | exact (Kd.R_reads' HO315.out).2.2 | (with_reducible refine Kd.C_alloc ?_ _) | (with_reducible refine Kd.C_drewN ?_ _) | (with_reducible refine Kd.C_drew ?_))); (case side4 => exact (Kd.R_reads' HO315.out).2.1); rintro e w27 ⟨rfl, hb⟩; have n0_ := Aside0.mk (Kd.R_below (by (with_reducible repeat (first | apply Kd.R_alloc | apply Kd.R_drewN | apply Kd.R_drew)); exact HO311.out) hb); have n1_ := Aside0.mk (Kd.R_below (by (with_reducible repeat (first | apply Kd.R_alloc | apply Kd.R_drewN | apply Kd.R_drew)); exact HO315.out) hb); have n2_ := Aside0.mk (Kd.R_below (by (with_reducible repeat (first | apply Kd.R_alloc | apply Kd.R_drewN | apply Kd.R_drew)); exact HO318.out) hb); have n3_ := Aside0.mk (Kd.C_below (by repeat (first | (with_reducible exact HR322.out) | (with_reducible refine Kd.C_alloc ?_ _) | (with_reducible refine Kd.C_drewN ?_ _) | (with_reducible refine Kd.C_drew ?_) | exact HR322.out)) hb); have n4_ := Aside0.mk (below_step (by repeat (first | (with_reducible first | exact HB.out | apply below_alloc | apply pw_below_drewN | apply below_drew1) | exact HB.out)) hb); clear HO311; clear HO315; clear HO318; clear HR322; clear HB; have HO311 := n0_; have HO315 := n1_; have HO318 := n2_; have HR322 := n3_; have HB := n4_; clear n0_ n1_ n2_ n3_ n4_; (try clear hb); (try clear hb2); (try clear hk); (try clear hi)) | (go_at_call 13; (with_reducible refine (relstorelaw_num.calls t309 t327 _ A19.out).mono ?_); rintro e w' ⟨rfl, ⟨nd, rfl⟩⟩))
              go_meet
              case rel => exact ⟨_, ((t327 != t313)), (by first | rfl | (simp; done) | (simp [*]; done) | exact bq1 _ _ | exact bq2 _ _ | exact congrArg Value.bool (bq2 _ _) | exact congrArg Value.bool (bq1 _ _) | exact congrArg Value.bool (bq1' _ _) | exact bq1' _ _ | exact congrArg Value.bool (bq2' _ _) | exact bq2' _ _), H', ⟨by first | omega | exact Nat.le_refl _⟩, ⟨by (with_reducible repeat (first | apply Kd.R_alloc | apply Kd.R_drewN | apply Kd.R_drew)); exact Kd.R_mono HO311.out (fun _ hk => hk.1.2)⟩, ⟨by (with_reducible repeat (first | apply Kd.R_alloc | apply Kd.R_drewN | apply Kd.R_drew)); exact Kd.R_mono HO315.out (fun _ hk => hk.1.2)⟩, ⟨by repeat (first | (with_reducible first | exact HB.out | apply below_alloc | apply pw_below_drewN | apply below_drew1) | exact HB.out)⟩⟩
            · replace c18 := Bool.eq_false_iff.mpr c18
              subst c18
              have H1 : (relstorelaw_ValueKeys.j0 k a1 t308 t312 true) = some r := by rw [if_neg (show ¬ (false = true) by decide)] at H; exact H
              clear H
              have H := H1
              clear H1
              have H' := Aside0.mk H
              clear H
              obtain ⟨Ao29, co29, eo29⟩ := Kd.R_slice HO318.out
              subst eo29
              have q28 : ((l0.length : Int) : Int) ≤ ((t316.length : Int) : Int) := of_decide_eq_true (by first | (with_reducible assumption) | assumption)
              obtain ⟨i028, hi028, _, hsz28, _⟩ := info_parts info38
              have hroom28 : t316.length ≤ co29 := (Kd.R_reads' HO318.out).2.1
              have hC28 : Kd.C k38 _ Ao29 t316.length t316 := (Kd.R_reads' HO318.out).2.2
              have hcut28 := cut_to (P := Tryd.prog) 22 38 .i64 Tryd.underlying22 hi028 Ao29 t316.length co29 (l0.length : Int) (of_decide_eq_true (by first | (with_reducible assumption) | assumption)) q28 hroom28
              have hr28 := Kd.C_take (m := ((l0.length : Int) : Int).toNat) hC28 (by omega)
              have hy28 : y319.length = ((l0.length : Int) : Int).toNat := (by rw [Ny319.out, List.length_take]; omega)
              rw [← Ny319.out] at hr28
              rw [← hy28] at hcut28
              have HR322 := Aside0.mk hr28
              have HC322 := Aside0.mk (show y319.length ≤ co29 from by omega)
              clear hr28 hC28 hroom28 hi028 hsz28
              have KY28 := Aside0.mk hy28
              clear hy28
              have KL28 := Aside0.mk (show ((l0.length : Int) : Int).toNat ≤ t316.length from by omega)
              replace q28 := eq_true q28
              go_wp2_with (first | ((with_reducible refine gate_callee (f := 9) rfl ?_); refine goesL_ (some 28) rfl rfl Tryd.func9 (by kernel_rfl) rfl #[.slice Ao29 y319.length co29] rfl (by (try simp only [List.map_toArray, List.map_cons, List.map_nil]); first | done | rfl | (simp only [List.length_drop, List.length_take]; rfl) | (simp only [Int.ofNat_lt, Int.ofNat_le]; done) | (simp only [Int.ofNat_lt, Int.ofNat_le]; rfl) | (simp only [ByteArray.size_append, Int.natCast_add]; rfl)) ?_; (with_reducible refine (value_Key.calls k _ _ y319 t323 _ ?side1 ?side2 A12.out m0 ?hmc).mono ?_); (case hmc => exact (Below.cell (by repeat (first | (with_reducible first | exact HB.out | apply below_alloc | apply pw_below_drewN | apply below_drew1) | exact HB.out)) (World.block_lt_of_cell? _ _ HM0.out)).trans HM0.out); (case side1 => repeat (first | exact (by repeat (first | (with_reducible exact HR322.out) | (with_reducible refine Kd.C_alloc ?_ _) | (with_reducible refine Kd.C_drewN ?_ _) | (with_reducible refine Kd.C_drew ?_) | exact HR322.out)) | (with_reducible refine Kd.C_alloc ?_ _) | (with_reducible refine Kd.C_drewN ?_ _) | (with_reducible refine Kd.C_drew ?_))); (case side2 => exact HC322.out); rintro e w30 ⟨rfl, hb⟩; refine ⟨_, rfl, ?_⟩; have n0_ := Aside0.mk (Kd.R_below (by (with_reducible repeat (first | apply Kd.R_alloc | apply Kd.R_drewN | apply Kd.R_drew)); exact HO311.out) hb); have n1_ := Aside0.mk (Kd.R_below (by (with_reducible repeat (first | apply Kd.R_alloc | apply Kd.R_drewN | apply Kd.R_drew)); exact HO315.out) hb); have n2_ := Aside0.mk (Kd.R_below (by (with_reducible repeat (first | apply Kd.R_alloc | apply Kd.R_drewN | apply Kd.R_drew)); exact HO318.out) hb); have n3_ := Aside0.mk (Kd.C_below (by repeat (first | (with_reducible exact HR322.out) | (with_reducible refine Kd.C_alloc ?_ _) | (with_reducible refine Kd.C_drewN ?_ _) | (with_reducible refine Kd.C_drew ?_) | exact HR322.out)) hb); have n4_ := Aside0.mk (below_step (by repeat (first | (with_reducible first | exact HB.out | apply below_alloc | apply pw_below_drewN | apply below_drew1) | exact HB.out)) hb); clear HO311; clear HO315; clear HO318; clear HR322; clear HB; have HO311 := n0_; have HO315 := n1_; have HO318 := n2_; have HR322 := n3_; have HB := n4_; clear n0_ n1_ n2_ n3_ n4_; (try clear hb); (try clear hb2); (try clear hk); (try clear hi)) | ((with_reducible refine gate_callee (f := 10) rfl ?_); refine goesL_ (some 30) rfl rfl Tryd.func10 (by kernel_rfl) rfl #[.slice A0 l0.length c0] rfl (by (try simp only [List.map_toArray, List.map_cons, List.map_nil]); first | done | rfl | (simp only [List.length_drop, List.length_take]; rfl) | (simp only [Int.ofNat_lt, Int.ofNat_le]; done) | (simp only [Int.ofNat_lt, Int.ofNat_le]; rfl) | (simp only [ByteArray.size_append, Int.natCast_add]; rfl)) ?_; (with_reducible refine (relstoreref_Key.calls k _ _ l0 t324 _ ?side1 ?side2 A13.out).mono ?_); (case side1 => repeat (first | exact (Kd.C_below HR0.out HB.out) | (with_reducible refine Kd.C_alloc ?_ _) | (with_reducible refine Kd.C_drewN ?_ _) | (with_reducible refine Kd.C_drew ?_))); (case side2 => exact HC0.out); rintro e w31 ⟨rfl, hb⟩; refine ⟨_, rfl, ?_⟩; have n0_ := Aside0.mk (Kd.R_below (by (with_reducible repeat (first | apply Kd.R_alloc | apply Kd.R_drewN | apply Kd.R_drew)); exact HO311.out) hb); have n1_ := Aside0.mk (Kd.R_below (by (with_reducible repeat (first | apply Kd.R_alloc | apply Kd.R_drewN | apply Kd.R_drew)); exact HO315.out) hb); have n2_ := Aside0.mk (Kd.R_below (by (with_reducible repeat (first | apply Kd.R_alloc | apply Kd.R_drewN | apply Kd.R_drew)); exact HO318.out) hb); have n3_ := Aside0.mk (Kd.C_below (by repeat (first | (with_reducible exact HR322.out) | (with_reducible refine Kd.C_alloc ?_ _) | (with_reducible refine Kd.C_drewN ?_ _) | (with_reducible refine Kd.C_drew ?_) | exact HR322.out)) hb); have n4_ := Aside0.mk (below_step (by repeat (first | (with_reducible first | exact HB.out | apply below_alloc | apply pw_below_drewN | apply below_drew1) | exact HB.out)) hb); clear HO311; clear HO315; clear HO318; clear HR322; clear HB; have HO311 := n0_; have HO315 := n1_; have HO318 := n2_; have HR322 := n3_; have HB := n4_; clear n0_ n1_ n2_ n3_ n4_; (try clear hb); (try clear hb2); (try clear hk); (try clear hi)) | (go_at_call 11; (with_reducible refine (relstorelaw_back.calls k _ _ t316 _ _ l0 true _ ?side1 ?side2 ?side3 ?side4 A15.out).mono ?_); (case side1 => repeat (first | exact (Kd.R_reads' HO318.out).2.2 | (with_reducible refine Kd.C_alloc ?_ _) | (with_reducible refine Kd.C_drewN ?_ _) | (with_reducible refine Kd.C_drew ?_))); (case side2 => exact (Kd.R_reads' HO318.out).2.1); (case side3 => repeat (first | exact (Kd.C_below HR0.out HB.out) | (with_reducible refine Kd.C_alloc ?_ _) | (with_reducible refine Kd.C_drewN ?_ _) | (with_reducible refine Kd.C_drew ?_))); (case side4 => exact HC0.out); rintro e w32 ⟨rfl, hb⟩; have n0_ := Aside0.mk (Kd.R_below (by (with_reducible repeat (first | apply Kd.R_alloc | apply Kd.R_drewN | apply Kd.R_drew)); exact HO311.out) hb); have n1_ := Aside0.mk (Kd.R_below (by (with_reducible repeat (first | apply Kd.R_alloc | apply Kd.R_drewN | apply Kd.R_drew)); exact HO315.out) hb); have n2_ := Aside0.mk (Kd.R_below (by (with_reducible repeat (first | apply Kd.R_alloc | apply Kd.R_drewN | apply Kd.R_drew)); exact HO318.out) hb); have n3_ := Aside0.mk (Kd.C_below (by repeat (first | (with_reducible exact HR322.out) | (with_reducible refine Kd.C_alloc ?_ _) | (with_reducible refine Kd.C_drewN ?_ _) | (with_reducible refine Kd.C_drew ?_) | exact HR322.out)) hb); have n4_ := Aside0.mk (below_step (by repeat (first | (with_reducible first | exact HB.out | apply below_alloc | apply pw_below_drewN | apply below_drew1) | exact HB.out)) hb); clear HO311; clear HO315; clear HO318; clear HR322; clear HB; have HO311 := n0_; have HO315 := n1_; have HO318 := n2_; have HR322 := n3_; have HB := n4_; clear n0_ n1_ n2_ n3_ n4_; (try clear hb); (try clear hb2); (try clear hk); (try clear hi); obtain ⟨Ao33, co33, eo33⟩ := Kd.R_slice HO311.out; subst eo33; obtain ⟨Ao34, co34, eo34⟩ := Kd.R_slice HO315.out; subst eo34) | (go_at_call 12; (with_reducible refine (relstorelaw_sameValues.calls k _ _ t308 _ _ t312 false _ ?side1 ?side2 ?side3 ?side4 A17.out).mono ?_); (case side1 => repeat (first | exact (Kd.R_reads' HO311.out).2.2 | (with_reducible refine Kd.C_alloc ?_ _) | (with_reducible refine Kd.C_drewN ?_ _) | (with_reducible refine Kd.C_drew ?_))); (case side2 => exact (Kd.R_reads' HO311.out).2.1); (case side3 => repeat (first | exact (Kd.R_reads' HO315.out).2.2 | (with_reducible refine Kd.C_alloc ?_ _) | (with_reducible refine Kd.C_drewN ?_ _) | (with_reducible refine Kd.C_drew ?_))); (case side4 => exact (Kd.R_reads' HO315.out).2.1); rintro e w35 ⟨rfl, hb⟩; have n0_ := Aside0.mk (Kd.R_below (by (with_reducible repeat (first | apply Kd.R_alloc | apply Kd.R_drewN | apply Kd.R_drew)); exact HO311.out) hb); have n1_ := Aside0.mk (Kd.R_below (by (with_reducible repeat (first | apply Kd.R_alloc | apply Kd.R_drewN | apply Kd.R_drew)); exact HO315.out) hb); have n2_ := Aside0.mk (Kd.R_below (by (with_reducible repeat (first | apply Kd.R_alloc | apply Kd.R_drewN | apply Kd.R_drew)); exact HO318.out) hb); have n3_ := Aside0.mk (Kd.C_below (by repeat (first | (with_reducible exact HR322.out) | (with_reducible refine Kd.C_alloc ?_ _) | (with_reducible refine Kd.C_drewN ?_ _) | (with_reducible refine Kd.C_drew ?_) | exact HR322.out)) hb); have n4_ := Aside0.mk (below_step (by repeat (first | (with_reducible first | exact HB.out | apply below_alloc | apply pw_below_drewN | apply below_drew1) | exact HB.out)) hb); clear HO311; clear HO315; clear HO318; clear HR322; clear HB; have HO311 := n0_; have HO315 := n1_; have HO318 := n2_; have HR322 := n3_; have HB := n4_; clear n0_ n1_ n2_ n3_ n4_; (try clear hb); (try clear hb2); (try clear hk); (try clear hi)))
              go_meet
              case rel => exact ⟨_, (true), (by first | rfl | (simp; done) | (simp [*]; done) | exact bq1 _ _ | exact bq2 _ _ | exact congrArg Value.bool (bq2 _ _) | exact congrArg Value.bool (bq1 _ _) | exact congrArg Value.bool (bq1' _ _) | exact bq1' _ _ | exact congrArg Value.bool (bq2' _ _) | exact bq2' _ _), H', ⟨by first | omega | exact Nat.le_refl _⟩, ⟨by (with_reducible repeat (first | apply Kd.R_alloc | apply Kd.R_drewN | apply Kd.R_drew)); exact Kd.R_mono HO311.out (fun _ hk => hk.1.2)⟩, ⟨by (with_reducible repeat (first | apply Kd.R_alloc | apply Kd.R_drewN | apply Kd.R_drew)); exact Kd.R_mono HO315.out (fun _ hk => hk.1.2)⟩, ⟨by repeat (first | (with_reducible first | exact HB.out | apply below_alloc | apply pw_below_drewN | apply below_drew1) | exact HB.out)⟩⟩
          · replace c16 := Bool.eq_false_iff.mpr c16
            subst c16
            have H1 : (relstorelaw_ValueKeys.j0 k a1 t308 t312 true) = some r := by rw [if_neg (show ¬ (false = true) by decide)] at H; exact H
            clear H
            have H := H1
            clear H1
            have H' := Aside0.mk H
            clear H
            obtain ⟨Ao37, co37, eo37⟩ := Kd.R_slice HO318.out
            subst eo37
            have q36 : ((l0.length : Int) : Int) ≤ ((t316.length : Int) : Int) := of_decide_eq_true (by first | (with_reducible assumption) | assumption)
            obtain ⟨i036, hi036, _, hsz36, _⟩ := info_parts info38
            have hroom36 : t316.length ≤ co37 := (Kd.R_reads' HO318.out).2.1
            have hC36 : Kd.C k38 _ Ao37 t316.length t316 := (Kd.R_reads' HO318.out).2.2
            have hcut36 := cut_to (P := Tryd.prog) 22 38 .i64 Tryd.underlying22 hi036 Ao37 t316.length co37 (l0.length : Int) (of_decide_eq_true (by first | (with_reducible assumption) | assumption)) q36 hroom36
            have hr36 := Kd.C_take (m := ((l0.length : Int) : Int).toNat) hC36 (by omega)
            have hy36 : y319.length = ((l0.length : Int) : Int).toNat := (by rw [Ny319.out, List.length_take]; omega)
            rw [← Ny319.out] at hr36
            rw [← hy36] at hcut36
            have HR322 := Aside0.mk hr36
            have HC322 := Aside0.mk (show y319.length ≤ co37 from by omega)
            clear hr36 hC36 hroom36 hi036 hsz36
            have KY36 := Aside0.mk hy36
            clear hy36
            have KL36 := Aside0.mk (show ((l0.length : Int) : Int).toNat ≤ t316.length from by omega)
            replace q36 := eq_true q36
            go_wp2_with (first | ((with_reducible refine gate_callee (f := 9) rfl ?_); refine goesL_ (some 28) rfl rfl Tryd.func9 (by kernel_rfl) rfl #[.slice Ao37 y319.length co37] rfl (by (try simp only [List.map_toArray, List.map_cons, List.map_nil]); first | done | rfl | (simp only [List.length_drop, List.length_take]; rfl) | (simp only [Int.ofNat_lt, Int.ofNat_le]; done) | (simp only [Int.ofNat_lt, Int.ofNat_le]; rfl) | (simp only [ByteArray.size_append, Int.natCast_add]; rfl)) ?_; (with_reducible refine (value_Key.calls k _ _ y319 t323 _ ?side1 ?side2 A12.out m0 ?hmc).mono ?_); (case hmc => exact (Below.cell (by repeat (first | (with_reducible first | exact HB.out | apply below_alloc | apply pw_below_drewN | apply below_drew1) | exact HB.out)) (World.block_lt_of_cell? _ _ HM0.out)).trans HM0.out); (case side1 => repeat (first | exact (by repeat (first | (with_reducible exact HR322.out) | (with_reducible refine Kd.C_alloc ?_ _) | (with_reducible refine Kd.C_drewN ?_ _) | (with_reducible refine Kd.C_drew ?_) | exact HR322.out)) | (with_reducible refine Kd.C_alloc ?_ _) | (with_reducible refine Kd.C_drewN ?_ _) | (with_reducible refine Kd.C_drew ?_))); (case side2 => exact HC322.out); rintro e w38 ⟨rfl, hb⟩; refine ⟨_, rfl, ?_⟩; have n0_ := Aside0.mk (Kd.R_below (by (with_reducible repeat (first | apply Kd.R_alloc | apply Kd.R_drewN | apply Kd.R_drew)); exact HO311.out) hb); have n1_ := Aside0.mk (Kd.R_below (by (with_reducible repeat (first | apply Kd.R_alloc | apply Kd.R_drewN | apply Kd.R_drew)); exact HO315.out) hb); have n2_ := Aside0.mk (Kd.R_below (by (with_reducible repeat (first | apply Kd.R_alloc | apply Kd.R_drewN | apply Kd.R_drew)); exact HO318.out) hb); have n3_ := Aside0.mk (Kd.C_below (by repeat (first | (with_reducible exact HR322.out) | (with_reducible refine Kd.C_alloc ?_ _) | (with_reducible refine Kd.C_drewN ?_ _) | (with_reducible refine Kd.C_drew ?_) | exact HR322.out)) hb); have n4_ := Aside0.mk (below_step (by repeat (first | (with_reducible first | exact HB.out | apply below_alloc | apply pw_below_drewN | apply below_drew1) | exact HB.out)) hb); clear HO311; clear HO315; clear HO318; clear HR322; clear HB; have HO311 := n0_; have HO315 := n1_; have HO318 := n2_; have HR322 := n3_; have HB := n4_; clear n0_ n1_ n2_ n3_ n4_; (try clear hb); (try clear hb2); (try clear hk); (try clear hi)) | ((with_reducible refine gate_callee (f := 10) rfl ?_); refine goesL_ (some 30) rfl rfl Tryd.func10 (by kernel_rfl) rfl #[.slice A0 l0.length c0] rfl (by (try simp only [List.map_toArray, List.map_cons, List.map_nil]); first | done | rfl | (simp only [List.length_drop, List.length_take]; rfl) | (simp only [Int.ofNat_lt, Int.ofNat_le]; done) | (simp only [Int.ofNat_lt, Int.ofNat_le]; rfl) | (simp only [ByteArray.size_append, Int.natCast_add]; rfl)) ?_; (with_reducible refine (relstoreref_Key.calls k _ _ l0 t324 _ ?side1 ?side2 A13.out).mono ?_); (case side1 => repeat (first | exact (Kd.C_below HR0.out HB.out) | (with_reducible refine Kd.C_alloc ?_ _) | (with_reducible refine Kd.C_drewN ?_ _) | (with_reducible refine Kd.C_drew ?_))); (case side2 => exact HC0.out); rintro e w39 ⟨rfl, hb⟩; refine ⟨_, rfl, ?_⟩; have n0_ := Aside0.mk (Kd.R_below (by (with_reducible repeat (first | apply Kd.R_alloc | apply Kd.R_drewN | apply Kd.R_drew)); exact HO311.out) hb); have n1_ := Aside0.mk (Kd.R_below (by (with_reducible repeat (first | apply Kd.R_alloc | apply Kd.R_drewN | apply Kd.R_drew)); exact HO315.out) hb); have n2_ := Aside0.mk (Kd.R_below (by (with_reducible repeat (first | apply Kd.R_alloc | apply Kd.R_drewN | apply Kd.R_drew)); exact HO318.out) hb); have n3_ := Aside0.mk (Kd.C_below (by repeat (first | (with_reducible exact HR322.out) | (with_reducible refine Kd.C_alloc ?_ _) | (with_reducible refine Kd.C_drewN ?_ _) | (with_reducible refine Kd.C_drew ?_) | exact HR322.out)) hb); have n4_ := Aside0.mk (below_step (by repeat (first | (with_reducible first | exact HB.out | apply below_alloc | apply pw_below_drewN | apply below_drew1) | exact HB.out)) hb); clear HO311; clear HO315; clear HO318; clear HR322; clear HB; have HO311 := n0_; have HO315 := n1_; have HO318 := n2_; have HR322 := n3_; have HB := n4_; clear n0_ n1_ n2_ n3_ n4_; (try clear hb); (try clear hb2); (try clear hk); (try clear hi)) | (go_at_call 11; (with_reducible refine (relstorelaw_back.calls k _ _ t316 _ _ l0 false _ ?side1 ?side2 ?side3 ?side4 A15.out).mono ?_); (case side1 => repeat (first | exact (Kd.R_reads' HO318.out).2.2 | (with_reducible refine Kd.C_alloc ?_ _) | (with_reducible refine Kd.C_drewN ?_ _) | (with_reducible refine Kd.C_drew ?_))); (case side2 => exact (Kd.R_reads' HO318.out).2.1); (case side3 => repeat (first | exact (Kd.C_below HR0.out HB.out) | (with_reducible refine Kd.C_alloc ?_ _) | (with_reducible refine Kd.C_drewN ?_ _) | (with_reducible refine Kd.C_drew ?_))); (case side4 => exact HC0.out); rintro e w40 ⟨rfl, hb⟩; have n0_ := Aside0.mk (Kd.R_below (by (with_reducible repeat (first | apply Kd.R_alloc | apply Kd.R_drewN | apply Kd.R_drew)); exact HO311.out) hb); have n1_ := Aside0.mk (Kd.R_below (by (with_reducible repeat (first | apply Kd.R_alloc | apply Kd.R_drewN | apply Kd.R_drew)); exact HO315.out) hb); have n2_ := Aside0.mk (Kd.R_below (by (with_reducible repeat (first | apply Kd.R_alloc | apply Kd.R_drewN | apply Kd.R_drew)); exact HO318.out) hb); have n3_ := Aside0.mk (Kd.C_below (by repeat (first | (with_reducible exact HR322.out) | (with_reducible refine Kd.C_alloc ?_ _) | (with_reducible refine Kd.C_drewN ?_ _) | (with_reducible refine Kd.C_drew ?_) | exact HR322.out)) hb); have n4_ := Aside0.mk (below_step (by repeat (first | (with_reducible first | exact HB.out | apply below_alloc | apply pw_below_drewN | apply below_drew1) | exact HB.out)) hb); clear HO311; clear HO315; clear HO318; clear HR322; clear HB; have HO311 := n0_; have HO315 := n1_; have HO318 := n2_; have HR322 := n3_; have HB := n4_; clear n0_ n1_ n2_ n3_ n4_; (try clear hb); (try clear hb2); (try clear hk); (try clear hi)))
            go_meet
            case rel => exact ⟨_, (true), (by first | rfl | (simp; done) | (simp [*]; done) | exact bq1 _ _ | exact bq2 _ _ | exact congrArg Value.bool (bq2 _ _) | exact congrArg Value.bool (bq1 _ _) | exact congrArg Value.bool (bq1' _ _) | exact bq1' _ _ | exact congrArg Value.bool (bq2' _ _) | exact bq2' _ _), H', ⟨by first | omega | exact Nat.le_refl _⟩, ⟨by (with_reducible repeat (first | apply Kd.R_alloc | apply Kd.R_drewN | apply Kd.R_drew)); exact Kd.R_mono HO311.out (fun _ hk => hk.1.2)⟩, ⟨by (with_reducible repeat (first | apply Kd.R_alloc | apply Kd.R_drewN | apply Kd.R_drew)); exact Kd.R_mono HO315.out (fun _ hk => hk.1.2)⟩, ⟨by repeat (first | (with_reducible first | exact HB.out | apply below_alloc | apply pw_below_drewN | apply below_drew1) | exact HB.out)⟩⟩
        · rw [if_neg c14] at H
          have c14b0 : (t323.toList == t324.toList) = false := beq_eq_false_iff_ne.mpr c14
          have c14b1 : (t323.toList != t324.toList) = true := bne_iff_ne.mpr c14
          (first | rw [c14b0] | (simp only [i64_w, i32_w]; rw [c14b0]) | skip)
          have H' := Aside0.mk H
          clear H
          obtain ⟨Ao42, co42, eo42⟩ := Kd.R_slice HO318.out
          subst eo42
          have q41 : ((l0.length : Int) : Int) ≤ ((t316.length : Int) : Int) := of_decide_eq_true (by first | (with_reducible assumption) | assumption)
          obtain ⟨i041, hi041, _, hsz41, _⟩ := info_parts info38
          have hroom41 : t316.length ≤ co42 := (Kd.R_reads' HO318.out).2.1
          have hC41 : Kd.C k38 _ Ao42 t316.length t316 := (Kd.R_reads' HO318.out).2.2
          have hcut41 := cut_to (P := Tryd.prog) 22 38 .i64 Tryd.underlying22 hi041 Ao42 t316.length co42 (l0.length : Int) (of_decide_eq_true (by first | (with_reducible assumption) | assumption)) q41 hroom41
          have hr41 := Kd.C_take (m := ((l0.length : Int) : Int).toNat) hC41 (by omega)
          have hy41 : y319.length = ((l0.length : Int) : Int).toNat := (by rw [Ny319.out, List.length_take]; omega)
          rw [← Ny319.out] at hr41
          rw [← hy41] at hcut41
          have HR322 := Aside0.mk hr41
          have HC322 := Aside0.mk (show y319.length ≤ co42 from by omega)
          clear hr41 hC41 hroom41 hi041 hsz41
          have KY41 := Aside0.mk hy41
          clear hy41
          have KL41 := Aside0.mk (show ((l0.length : Int) : Int).toNat ≤ t316.length from by omega)
          replace q41 := eq_true q41
          go_wp2_with (first | ((with_reducible refine gate_callee (f := 9) rfl ?_); refine goesL_ (some 28) rfl rfl Tryd.func9 (by kernel_rfl) rfl #[.slice Ao42 y319.length co42] rfl (by (try simp only [List.map_toArray, List.map_cons, List.map_nil]); first | done | rfl | (simp only [List.length_drop, List.length_take]; rfl) | (simp only [Int.ofNat_lt, Int.ofNat_le]; done) | (simp only [Int.ofNat_lt, Int.ofNat_le]; rfl) | (simp only [ByteArray.size_append, Int.natCast_add]; rfl)) ?_; (with_reducible refine (value_Key.calls k _ _ y319 t323 _ ?side1 ?side2 A12.out m0 ?hmc).mono ?_); (case hmc => exact (Below.cell (by repeat (first | (with_reducible first | exact HB.out | apply below_alloc | apply pw_below_drewN | apply below_drew1) | exact HB.out)) (World.block_lt_of_cell? _ _ HM0.out)).trans HM0.out); (case side1 => repeat (first | exact (by repeat (first | (with_reducible exact HR322.out) | (with_reducible refine Kd.C_alloc ?_ _) | (with_reducible refine Kd.C_drewN ?_ _) | (with_reducible refine Kd.C_drew ?_) | exact HR322.out)) | (with_reducible refine Kd.C_alloc ?_ _) | (with_reducible refine Kd.C_drewN ?_ _) | (with_reducible refine Kd.C_drew ?_))); (case side2 => exact HC322.out); rintro e w43 ⟨rfl, hb⟩; refine ⟨_, rfl, ?_⟩; have n0_ := Aside0.mk (Kd.R_below (by (with_reducible repeat (first | apply Kd.R_alloc | apply Kd.R_drewN | apply Kd.R_drew)); exact HO311.out) hb); have n1_ := Aside0.mk (Kd.R_below (by (with_reducible repeat (first | apply Kd.R_alloc | apply Kd.R_drewN | apply Kd.R_drew)); exact HO315.out) hb); have n2_ := Aside0.mk (Kd.R_below (by (with_reducible repeat (first | apply Kd.R_alloc | apply Kd.R_drewN | apply Kd.R_drew)); exact HO318.out) hb); have n3_ := Aside0.mk (Kd.C_below (by repeat (first | (with_reducible exact HR322.out) | (with_reducible refine Kd.C_alloc ?_ _) | (with_reducible refine Kd.C_drewN ?_ _) | (with_reducible refine Kd.C_drew ?_) | exact HR322.out)) hb); have n4_ := Aside0.mk (below_step (by repeat (first | (with_reducible first | exact HB.out | apply below_alloc | apply pw_below_drewN | apply below_drew1) | exact HB.out)) hb); clear HO311; clear HO315; clear HO318; clear HR322; clear HB; have HO311 := n0_; have HO315 := n1_; have HO318 := n2_; have HR322 := n3_; have HB := n4_; clear n0_ n1_ n2_ n3_ n4_; (try clear hb); (try clear hb2); (try clear hk); (try clear hi)) | ((with_reducible refine gate_callee (f := 10) rfl ?_); refine goesL_ (some 30) rfl rfl Tryd.func10 (by kernel_rfl) rfl #[.slice A0 l0.length c0] rfl (by (try simp only [List.map_toArray, List.map_cons, List.map_nil]); first | done | rfl | (simp only [List.length_drop, List.length_take]; rfl) | (simp only [Int.ofNat_lt, Int.ofNat_le]; done) | (simp only [Int.ofNat_lt, Int.ofNat_le]; rfl) | (simp only [ByteArray.size_append, Int.natCast_add]; rfl)) ?_; (with_reducible refine (relstoreref_Key.calls k _ _ l0 t324 _ ?side1 ?side2 A13.out).mono ?_); (case side1 => repeat (first | exact (Kd.C_below HR0.out HB.out) | (with_reducible refine Kd.C_alloc ?_ _) | (with_reducible refine Kd.C_drewN ?_ _) | (with_reducible refine Kd.C_drew ?_))); (case side2 => exact HC0.out); rintro e w44 ⟨rfl, hb⟩; refine ⟨_, rfl, ?_⟩; have n0_ := Aside0.mk (Kd.R_below (by (with_reducible repeat (first | apply Kd.R_alloc | apply Kd.R_drewN | apply Kd.R_drew)); exact HO311.out) hb); have n1_ := Aside0.mk (Kd.R_below (by (with_reducible repeat (first | apply Kd.R_alloc | apply Kd.R_drewN | apply Kd.R_drew)); exact HO315.out) hb); have n2_ := Aside0.mk (Kd.R_below (by (with_reducible repeat (first | apply Kd.R_alloc | apply Kd.R_drewN | apply Kd.R_drew)); exact HO318.out) hb); have n3_ := Aside0.mk (Kd.C_below (by repeat (first | (with_reducible exact HR322.out) | (with_reducible refine Kd.C_alloc ?_ _) | (with_reducible refine Kd.C_drewN ?_ _) | (with_reducible refine Kd.C_drew ?_) | exact HR322.out)) hb); have n4_ := Aside0.mk (below_step (by repeat (first | (with_reducible first | exact HB.out | apply below_alloc | apply pw_below_drewN | apply below_drew1) | exact HB.out)) hb); clear HO311; clear HO315; clear HO318; clear HR322; clear HB; have HO311 := n0_; have HO315 := n1_; have HO318 := n2_; have HR322 := n3_; have HB := n4_; clear n0_ n1_ n2_ n3_ n4_; (try clear hb); (try clear hb2); (try clear hk); (try clear hi)))
          go_meet
          case rel => exact ⟨_, (true), (by first | rfl | (simp; done) | (simp [*]; done) | exact bq1 _ _ | exact bq2 _ _ | exact congrArg Value.bool (bq2 _ _) | exact congrArg Value.bool (bq1 _ _) | exact congrArg Value.bool (bq1' _ _) | exact bq1' _ _ | exact congrArg Value.bool (bq2' _ _) | exact bq2' _ _), H', ⟨by first | omega | exact Nat.le_refl _⟩, ⟨by (with_reducible repeat (first | apply Kd.R_alloc | apply Kd.R_drewN | apply Kd.R_drew)); exact Kd.R_mono HO311.out (fun _ hk => hk.1.2)⟩, ⟨by (with_reducible repeat (first | apply Kd.R_alloc | apply Kd.R_drewN | apply Kd.R_drew)); exact Kd.R_mono HO315.out (fun _ hk => hk.1.2)⟩, ⟨by repeat (first | (with_reducible first | exact HB.out | apply below_alloc | apply pw_below_drewN | apply below_drew1) | exact HB.out)⟩⟩
      · rw [if_neg c11] at H
        exact absurd H (by simp)
    · rw [if_neg c10] at H
      exact absurd H (by simp)
  case rest =>
    clear HC6
    try clear c1
    try clear q1
    try clear p2
    try clear q2
    try clear c3
    try clear q3
    try clear q4
    try clear c6
    try clear c7
    try clear c8
    try clear c9
    try clear c10
    try clear c10b0
    try clear c10b1
    try clear c11
    try clear c11b0
    try clear c11b1
    try clear c14
    try clear c14b0
    try clear c14b1
    try clear c16
    try clear c18
    try clear q20
    try clear q28
    try clear q36
    try clear q41
    try clear q20
    try clear q28
    try clear q36
    try clear q41
    obtain ⟨kq, x49_5, rfl, HA, HJ5, HO_5, HO_7, HB⟩ := hcut
    cases kq with
    | zero => exact absurd HA.out (by simp [relstorelaw_ValueKeys.j0])
    | succ kj5 =>
      have H := HA.out
      clear HA
      simp only [relstorelaw_ValueKeys.j0] at H
      by_cases c45 : x49_5 = true
      · subst c45
        have H1 : (some false) = some r := by rw [if_pos rfl] at H; exact H
        clear H
        have H := H1
        clear H1
        obtain rfl := Option.some.inj H
        go_wp2
        go_ret
        exact ⟨by first | rfl | (simp [errW_none, errW_some] <;> rfl) | (simp [*, errW_none, errW_some] <;> rfl), by repeat (first | (with_reducible first | exact HB.out | apply below_alloc | apply pw_below_drewN | apply below_drew1) | exact HB.out)⟩
      · replace c45 := Bool.eq_false_iff.mpr c45
        subst c45
        have H1 : ((relstorelaw_spoil.f kj5 t308).bind fun _ => ((value_Unkey.f kj5 a1).bind fun bt328 => ((relstorelaw_sameValues.f kj5 bt328.1 t312).bind fun t332 => (some t332)))) = some r := by rw [if_neg (show ¬ (false = true) by decide)] at H; exact H
        clear H
        have H := H1
        clear H1
        replace H := Option.bind_eq_some_iff.mp H
        obtain ⟨_, A460, H⟩ := H
        replace H : ((value_Unkey.f kj5 a1).bind fun bt328 => ((relstorelaw_sameValues.f kj5 bt328.1 t312).bind fun t332 => (some t332))) = some r := H
        have A46 := Aside0.mk A460
        clear A460
        replace H := Option.bind_eq_some_iff.mp H
        obtain ⟨⟨t328, t329⟩, A470, H⟩ := H
        replace H : ((relstorelaw_sameValues.f kj5 t328 t312).bind fun t332 => (some t332)) = some r := H
        have A47 := Aside0.mk A470
        clear A470
        replace H := Option.bind_eq_some_iff.mp H
        obtain ⟨t332, A480, H⟩ := H
        replace H : (some t332) = some r := H
        have A48 := Aside0.mk A480
        clear A480
        obtain rfl := Option.some.inj H
        obtain ⟨Ao49, co49, eo49⟩ := Kd.R_slice HO_5.out
        subst eo49
        go_wp2_with (first | ((with_reducible refine gate_callee (f := 14) rfl ?_); refine goesL_ (some 51) rfl rfl Tryd.func14 (by kernel_rfl) rfl #[.slice Ao49 t308.length co49] rfl (by (try simp only [List.map_toArray, List.map_cons, List.map_nil]); first | done | rfl | (simp only [List.length_drop, List.length_take]; rfl) | (simp only [Int.ofNat_lt, Int.ofNat_le]; done) | (simp only [Int.ofNat_lt, Int.ofNat_le]; rfl) | (simp only [ByteArray.size_append, Int.natCast_add]; rfl)) ?_; (with_reducible refine (relstorelaw_spoil.calls kj5 (fun k_ => some k_ = (.slice Ao49 t308.length co49 : Value).ownBlock) (.slice Ao49 t308.length co49) t308  w _ ?side1 ?side2 A46.out).mono ?_); (case side1 => repeat (first | (with_reducible first | exact HB.out | apply below_alloc | apply pw_below_drewN | apply below_drew1) | exact HB.out)); (case side2 => exact Kd.R_tight rfl HO_5.out); rintro e w50 ⟨rfl, hb, hkp⟩; refine ⟨_, rfl, ?_⟩; have n0_ := Aside0.mk (Kd.R_mono (ok' := fun k_ => True) (Kd.R_keptB (HO_7.out) hkp (fun k_ hk_ hs_ => (hk_) hs_)) (fun k_ hk_ => trivial)); have n1_ := Aside0.mk (hb); clear HO_7; clear HB; clear HO_5; have HO_7 := n0_; have HB := n1_; clear n0_ n1_; (try clear hb); (try clear hkp)) | ((with_reducible refine gate_callee (f := 6) rfl ?_); refine goesL_ (some 54) rfl rfl Tryd.func6 (by kernel_rfl) rfl #[.string a1] rfl (by (try simp only [List.map_toArray, List.map_cons, List.map_nil]); first | done | rfl | (simp only [List.length_drop, List.length_take]; rfl) | (simp only [Int.ofNat_lt, Int.ofNat_le]; done) | (simp only [Int.ofNat_lt, Int.ofNat_le]; rfl) | (simp only [ByteArray.size_append, Int.natCast_add]; rfl)) ?_; (with_reducible refine (value_Unkey.calls kj5 a1 t328 t329 _ A47.out).mono ?_); rintro e w51 ⟨v330, rfl, ho0, hb⟩; refine ⟨_, rfl, ?_⟩; have n0_ := Aside0.mk (Kd.R_elder' (by (with_reducible repeat (first | apply Kd.R_alloc | apply Kd.R_drewN | apply Kd.R_drew)); exact HO_7.out) (Kd.R_base ho0) hb); have n1_ := Aside0.mk (Kd.R_lower (Kd.R_new' ho0 (Kd.R_lt (by (with_reducible repeat (first | apply Kd.R_alloc | apply Kd.R_drewN | apply Kd.R_drew)); exact HO_7.out))) (below_size (by repeat (first | (with_reducible first | exact HB.out | apply below_alloc | apply pw_below_drewN | apply below_drew1) | exact HB.out)))); have n2_ := Aside0.mk (below_step (by repeat (first | (with_reducible first | exact HB.out | apply below_alloc | apply pw_below_drewN | apply below_drew1) | exact HB.out)) hb); clear HO_7; clear HB; have HO_7 := n0_; have HO331 := n1_; have HB := n2_; clear n0_ n1_ n2_; (try clear hb); (try clear hb2); (try clear hk); (try clear hi); (try clear ho0); obtain ⟨Ao52, co52, eo52⟩ := Kd.R_slice HO331.out; subst eo52; obtain ⟨Ao53, co53, eo53⟩ := Kd.R_slice HO_7.out; subst eo53) | ((with_reducible refine gate_callee (f := 12) rfl ?_); refine goesL_ (some 59) rfl rfl Tryd.func12 (by kernel_rfl) rfl #[.slice Ao52 t328.length co52, .slice Ao53 t312.length co53] rfl (by (try simp only [List.map_toArray, List.map_cons, List.map_nil]); first | done | rfl | (simp only [List.length_drop, List.length_take]; rfl) | (simp only [Int.ofNat_lt, Int.ofNat_le]; done) | (simp only [Int.ofNat_lt, Int.ofNat_le]; rfl) | (simp only [ByteArray.size_append, Int.natCast_add]; rfl)) ?_; (with_reducible refine (relstorelaw_sameValues.calls kj5 _ _ t328 _ _ t312 t332 _ ?side1 ?side2 ?side3 ?side4 A48.out).mono ?_); (case side1 => repeat (first | exact (Kd.R_reads' HO331.out).2.2 | (with_reducible refine Kd.C_alloc ?_ _) | (with_reducible refine Kd.C_drewN ?_ _) | (with_reducible refine Kd.C_drew ?_))); (case side2 => exact (Kd.R_reads' HO331.out).2.1); (case side3 => repeat (first | exact (Kd.R_reads' HO_7.out).2.2 | (with_reducible refine Kd.C_alloc ?_ _) | (with_reducible refine Kd.C_drewN ?_ _) | (with_reducible refine Kd.C_drew ?_))); (case side4 => exact (Kd.R_reads' HO_7.out).2.1); rintro e w54 ⟨rfl, hb⟩; refine ⟨_, rfl, ?_⟩; have n0_ := Aside0.mk (Kd.R_below (by (with_reducible repeat (first | apply Kd.R_alloc | apply Kd.R_drewN | apply Kd.R_drew)); exact HO_7.out) hb); have n1_ := Aside0.mk (Kd.R_below (by (with_reducible repeat (first | apply Kd.R_alloc | apply Kd.R_drewN | apply Kd.R_drew)); exact HO331.out) hb); have n2_ := Aside0.mk (below_step (by repeat (first | (with_reducible first | exact HB.out | apply below_alloc | apply pw_below_drewN | apply below_drew1) | exact HB.out)) hb); clear HO_7; clear HO331; clear HB; have HO_7 := n0_; have HO331 := n1_; have HB := n2_; clear n0_ n1_ n2_; (try clear hb); (try clear hb2); (try clear hk); (try clear hi)))
        go_ret
        exact ⟨by first | rfl | (simp [errW_none, errW_some] <;> rfl) | (simp [*, errW_none, errW_some] <;> rfl), by repeat (first | (with_reducible first | exact HB.out | apply below_alloc | apply pw_below_drewN | apply below_drew1) | exact HB.out)⟩
end Go.Proofs.YthaoaaboempajabDoor.QValueKeys
namespace Go.Proofs.YthaoaaboempajabDoorE
open Go.RowKit Go.Proofs.YthaoaaboempajabDoorW.PrintWords
theorem Ev.ite_true {α : Type} {g h : Nat → Option α} {c : Prop} [Decidable c] {r : α} (hc : c) (k : Ev g r) : Ev (fun n => if c then g n else h n) r := by
  obtain ⟨K, k⟩ := k
  exact ⟨K, fun n hn => (if_pos hc).trans (k n hn)⟩
theorem Ev.ite_false {α : Type} {g h : Nat → Option α} {c : Prop} [Decidable c] {r : α} (hc : ¬ c) (k : Ev h r) : Ev (fun n => if c then g n else h n) r := by
  obtain ⟨K, k⟩ := k
  exact ⟨K, fun n hn => (if_neg hc).trans (k n hn)⟩
theorem Ev.some_bind {α β : Type} {o : Option α} {f : Nat → α → Option β} {a : α} {r : β} (h : o = some a) (k : Ev (fun n => f n a) r) : Ev (fun n => o.bind (f n)) r := by
  obtain ⟨K, k⟩ := k
  refine ⟨K, fun n hn => ?_⟩
  rw [h]
  exact k n hn
theorem Ev.const {α : Type} {o : Option α} {r : α} (h : o = some r) : Ev (fun _ => o) r := ⟨0, fun _ _ => h⟩
theorem bt_in {s : ByteArray} {X Y : List UInt8} {x : UInt8} (h : s.data.toList = X ++ x :: Y) : bt s (X.length : Int) = (x.toNat : Int) := by
  have hs : s.size = X.length + (Y.length + 1) := by
    have := congrArg List.length h
    simpa using this
  unfold bt
  have hlt : ((X.length : Int)).toNat < s.size := by simp; omega
  rw [dif_pos hlt]
  have : s[((X.length : Int)).toNat]'hlt = x := by
    show s.data[((X.length : Int)).toNat]'hlt = x
    have e : s.data[((X.length : Int)).toNat]'hlt = s.data.toList[X.length]'(by rw [h]; simp) := by simp
    rw [e]
    simp [h]
  rw [this]
theorem size_in {s : ByteArray} {X : List UInt8} (h : s.data.toList = X) : s.size = X.length := by
  have := congrArg List.length h
  simpa using this
theorem w64 {i : Int} (h0 : 0 ≤ i) (h : i ≤ 4611686018427387904) : wrap64 (i + 1) = i + 1 := by unfold wrap64; omega
theorem w64' {i : Int} (h0 : -9223372036854775808 ≤ i) (h : i ≤ 9223372036854775807) : wrap64 i = i := by unfold wrap64; omega
theorem u8_is (x : UInt8) (n : Nat) (hn : n < 256) : ((x.toNat : Int) = n) ↔ x = UInt8.ofNat n := by
  constructor
  · intro h
    apply UInt8.toNat_inj.1
    rw [UInt8.toNat_ofNat', Nat.mod_eq_of_lt (by simpa using hn)]
    omega
  · rintro rfl
    rw [UInt8.toNat_ofNat', Nat.mod_eq_of_lt (by simpa using hn)]
theorem getD_in {α : Type} {l X Y : List α} {x z : α} (h : l = X ++ x :: Y) : l.getD ((X.length : Int).toNat) z = x := by
  rw [h, Int.toNat_natCast, List.getD_eq_getElem?_getD, List.getElem?_append_right (Nat.le_refl _)]
  simp
end Go.Proofs.YthaoaaboempajabDoorE
namespace Go.Proofs.YthaoaaboempajabDoor.Pure
open Go.RowKit Go.Proofs.YthaoaaboempajabDoor.QValueKeys Go.Proofs.YthaoaaboempajabDoorW.PrintWords Go.Proofs.YthaoaaboempajabDoorW.PrintLast Go.Proofs.YthaoaaboempajabDoorE
set_option linter.unusedVariables false
set_option linter.unusedSimpArgs false
theorem same_self (a b : Int) (c : ByteArray) : relstorelaw_sameValue.f a b c a b c = some true := by simp [relstorelaw_sameValue.f]
theorem sames_l0 {l : List S38} (hl : l.length ≤ 4611686018427387904) : ∀ (A A0 : List S38), l = A0 ++ A → ∃ n, relstorelaw_sameValues.l0 n l l (l.length : Int) (A0.length : Int) = some true
  | [], A0, h1 => by
    have z1 := congrArg List.length h1
    simp at z1
    refine ⟨1, ?_⟩
    simp only [relstorelaw_sameValues.l0]
    rw [if_neg (by omega)]
  | x :: A, A0, h1 => by
    have z1 := congrArg List.length h1
    simp at z1
    obtain ⟨n, hn⟩ := sames_l0 hl A (A0 ++ [x]) (by simp [h1])
    refine ⟨n + 1, ?_⟩
    simp only [relstorelaw_sameValues.l0]
    rw [if_pos (by omega), if_pos (by omega), if_pos (by omega), if_pos (by omega), same_self]
    simp only [Option.bind_some, if_true]
    rw [w64 (by omega) (by omega)]
    simpa using hn
theorem sames_self {l : List S38} (hl : l.length ≤ 4611686018427387904) : Ev (fun k => relstorelaw_sameValues.f k l l) true := by
  obtain ⟨n, hn⟩ := sames_l0 hl l [] rfl
  refine Ev.of (g := fun k => relstorelaw_sameValues.f k l l) (fun k => relstorelaw_sameValues.mono l l k) (k := n) ?_
  unfold relstorelaw_sameValues.f
  rw [if_pos rfl]
  exact hn
def marks : List S38 := [⟨9, 7, ⟨#[]⟩⟩, ⟨9, 8, ⟨#[]⟩⟩]
theorem lent_is {l : List S38} (hl : l.length * 32 ≤ 140737488351232) : relstorelaw_lent.f l = some (l ++ marks) := by
  unfold relstorelaw_lent.f
  rw [if_pos (by simp; omega)]
  simp only [Option.bind_some, List.nil_append]
  rw [if_pos (by simp; omega)]
  rfl
theorem take_lent (l : List S38) : (l ++ marks).take ((l.length : Int) : Int).toNat = l := by simp
theorem back_lent {l : List S38} (hl : l.length * 32 ≤ 140737488351232) : Ev (fun k => relstorelaw_back.f k (l ++ marks) l) true := by
  have hz : (l ++ marks).length = l.length + 2 := by simp [marks]
  have h0 : rd_T38 (l ++ marks) (l.length : Int) = ⟨9, 7, ⟨#[]⟩⟩ := getD_in (X := l) (Y := [⟨9, 8, ⟨#[]⟩⟩]) rfl
  have h1 : rd_T38 (l ++ marks) (wrap64 ((l.length : Int) + 1)) = ⟨9, 8, ⟨#[]⟩⟩ := by
    rw [w64 (by omega) (by omega)]
    have := getD_in (l := l ++ marks) (X := l ++ [(⟨9, 7, ⟨#[]⟩⟩ : S38)]) (Y := []) (x := (⟨9, 8, ⟨#[]⟩⟩ : S38)) (z := z38) (by simp [marks])
    rw [show ((l.length : Int) + 1) = ((l ++ [(⟨9, 7, ⟨#[]⟩⟩ : S38)]).length : Int) by simp]
    exact this
  have e0 : wrap64 ((l.length : Int) + 1) = l.length + 1 := w64 (by omega) (by omega)
  refine Ev.congr (f := fun k => (relstorelaw_sameValues.f k l l).bind fun t => if t = true then some true else some false) (fun k => ?_) (Ev.bind (sames_self (by omega)) (Ev.now true))
  unfold relstorelaw_back.f
  rw [if_pos (by omega), if_pos (by omega), take_lent]
  congr 1
  funext t
  cases t with
  | false => rfl
  | true =>
    simp only [if_true]
    rw [if_pos (by omega), h0, h1, e0]
    rw [if_pos (by simp [Lib.toList_data]), if_pos (by omega), if_pos (by omega)]
    simp [Lib.toList_data]
def b8 (n : Int) : UInt8 := UInt8.ofNat n.toNat
theorem data_inj {a b : ByteArray} (h : a.data.toList = b.data.toList) : a = b := by
  cases a; cases b
  congr 1
  exact Array.ext' h
theorem nums_data (xs : List Int) : (strOfNums xs).data.toList = xs.map b8 := rfl
theorem nums_append (xs ys : List Int) : strOfNums xs ++ strOfNums ys = strOfNums (xs ++ ys) := by
  apply data_inj
  rw [ByteArray.data_append, Array.toList_append, nums_data, nums_data, nums_data, List.map_append]
theorem nums_bytes (s : ByteArray) : strOfNums (bytesOf s) = s := by
  apply data_inj
  rw [nums_data, bytesOf, List.map_map]
  conv => rhs; rw [← List.map_id s.data.toList]
  apply List.map_congr_left
  intro x _
  show UInt8.ofNat ((x.toNat : Int)).toNat = x
  rw [Int.toNat_natCast]
  exact UInt8.ofNat_toNat
theorem nums_size (xs : List Int) : (strOfNums xs).size = xs.length := by simp [strOfNums, ByteArray.size]
def be8 (x : Int) : List Int := [shr .u64 x 56 % 256, shr .u64 x 48 % 256, shr .u64 x 40 % 256, shr .u64 x 32 % 256, shr .u64 x 24 % 256, shr .u64 x 16 % 256, shr .u64 x 8 % 256, shr .u64 x 0 % 256]
theorem long_is (l : List Int) (x : Int) (h : l.length < 140737488355320) : Ev (fun k => value_long.f k l x) (l ++ be8 x) := by
  refine ⟨9, fun k hk => ?_⟩
  obtain ⟨k, rfl⟩ : ∃ m, k = m + 9 := ⟨k - 9, by omega⟩
  have step : ∀ (k : Nat) (l : List Int) (i j : Int), 0 ≤ i → wrap64 (i - 8) = j → l.length < 140737488355328 → value_long.l0 (k + 1) l x i = value_long.l0 k (l ++ [(shr .u64 x i) % 256]) x j := by
    intro k l i j hi hj hl
    simp only [value_long.l0]
    rw [if_pos hi, if_pos hi, if_pos hl, hj]
  show value_long.l0 (k + 8 + 1) l x 56 = _
  rw [step (k + 8) _ 56 48 (by decide) (by unfold wrap64; omega) (by omega)]
  rw [step (k + 7) _ 48 40 (by decide) (by unfold wrap64; omega) (by simp; omega)]
  rw [step (k + 6) _ 40 32 (by decide) (by unfold wrap64; omega) (by simp; omega)]
  rw [step (k + 5) _ 32 24 (by decide) (by unfold wrap64; omega) (by simp; omega)]
  rw [step (k + 4) _ 24 16 (by decide) (by unfold wrap64; omega) (by simp; omega)]
  rw [step (k + 3) _ 16 8 (by decide) (by unfold wrap64; omega) (by simp; omega)]
  rw [step (k + 2) _ 8 0 (by decide) (by unfold wrap64; omega) (by simp; omega)]
  rw [step (k + 1) _ 0 (-8) (by decide) (by unfold wrap64; omega) (by simp; omega)]
  simp only [value_long.l0]
  rw [if_neg (by decide)]
  simp [be8]
def beN : Nat → Int → List Int → List Int
  | 0, _, ys => ys
  | j + 1, x, ys => beN j (x / 256) (x % 256 :: ys)
theorem bytes_l0 : ∀ (j : Nat) (x : Int) (ys : List Int), 0 ≤ x → x < 18446744073709551616 → j + ys.length ≤ 1000 → Ev (fun k => relstoreref_bytes.l0 k x (j : Int) (strOfNums ys)) (strOfNums (beN j x ys))
  | 0, x, ys, h0, h1, hl => by
    refine Ev.step (f := fun _ => some (strOfNums ys)) (fun k => ?_) (Ev.now _)
    simp only [relstoreref_bytes.l0]
    rw [if_neg (by decide)]
  | j + 1, x, ys, h0, h1, hl => by
    have ih := bytes_l0 j (x / 256) (x % 256 :: ys) (by omega) (by omega) (by simp; omega)
    refine Ev.step (f := fun k => relstoreref_bytes.l0 k (x / 256) (j : Int) (strOfNums (x % 256 :: ys))) (fun k => ?_) ih
    simp only [relstoreref_bytes.l0]
    rw [if_pos (by omega)]
    simp only [Option.bind_some]
    have e1 : Int.tmod x 256 % 256 = x % 256 := by rw [Int.tmod_eq_emod_of_nonneg h0]; omega
    have e2 : IntKind.u64.wrap (Int.tdiv x 256) = x / 256 := by rw [Int.tdiv_eq_ediv_of_nonneg h0, IntKind.wrap_u64]; omega
    have e3 : wrap64 (((j + 1 : Nat) : Int) - 1) = (j : Int) := by unfold wrap64; omega
    rw [e1, e2, e3, nums_append, nums_size, nums_size, if_pos (by simp; omega)]
    rfl
theorem bytes8 (x : Int) (h0 : 0 ≤ x) (h1 : x < 18446744073709551616) : Ev (fun k => relstoreref_bytes.f k x 8) (strOfNums (be8 x)) := by
  have := bytes_l0 8 x [] h0 h1 (by decide)
  have e : beN 8 x [] = be8 x := by
    have s : ∀ (i : Int) (n : Nat) (d : Int), i.toNat = n → n ≤ 64 → (2 : Int) ^ n = d → shr .u64 x i = x / d := by
      intro i n d h1 h2 h3
      unfold shr
      rw [h1, show IntKind.u64.bits = 64 from rfl, Nat.min_eq_left h2, h3]
    simp only [beN, be8]
    rw [s 56 56 72057594037927936 rfl (by decide) rfl, s 48 48 281474976710656 rfl (by decide) rfl, s 40 40 1099511627776 rfl (by decide) rfl, s 32 32 4294967296 rfl (by decide) rfl, s 24 24 16777216 rfl (by decide) rfl, s 16 16 65536 rfl (by decide) rfl, s 8 8 256 rfl (by decide) rfl, s 0 0 1 rfl (by decide) rfl]
    rw [show x / 256 / 256 = x / 65536 by omega, show x / 65536 / 256 = x / 16777216 by omega, show x / 16777216 / 256 = x / 4294967296 by omega, show x / 4294967296 / 256 = x / 1099511627776 by omega, show x / 1099511627776 / 256 = x / 281474976710656 by omega, show x / 281474976710656 / 256 = x / 72057594037927936 by omega, show x / 1 = x by omega]
  rw [e] at this
  exact this
theorem clean_is (v : S38) : value_Clean.f v.f0 v.f1 v.f2 = some (if v.f0 = 1 then (1, if v.f1 = 0 then 0 else 1, ⟨#[]⟩) else if v.f0 = 2 then (2, v.f1, ⟨#[]⟩) else if v.f0 = 3 then (3, 0, v.f2) else (0, 0, ⟨#[]⟩)) := by
  unfold value_Clean.f value_Flag.f value_Of.f value_Str.f value_None.f
  by_cases h1 : v.f0 = 1
  · rw [if_pos h1, if_pos h1]
    by_cases h : v.f1 = 0
    · have : (v.f1 != 0) = false := by simp [h]
      rw [this, if_pos h]; rfl
    · have : (v.f1 != 0) = true := by simp [h]
      rw [this, if_neg h]; rfl
  · rw [if_neg h1, if_neg h1]
    by_cases h2 : v.f0 = 2
    · rw [if_pos h2, if_pos h2]; rfl
    · rw [if_neg h2, if_neg h2]
      by_cases h3 : v.f0 = 3
      · rw [if_pos h3, if_pos h3]; rfl
      · rw [if_neg h3, if_neg h3]; rfl
theorem rclean_is (v : S38) : relstoreref_Clean.f v.f0 v.f1 v.f2 = value_Clean.f v.f0 v.f1 v.f2 := rfl
theorem wrap64u (n : Int) : 0 ≤ IntKind.u64.wrap n ∧ IntKind.u64.wrap n < 18446744073709551616 := by rw [IntKind.wrap_u64]; omega
abbrev E0 : ByteArray := ⟨#[]⟩
theorem fold_step (n : Int) (b : UInt8) (h0 : 0 ≤ n) (h1 : n < 72057594037927936) : Go.bits .or .u64 (IntKind.u64.wrap (n * 256)) (IntKind.u64.wrap (b.toNat : Int)) = n * 256 + (b.toNat : Int) := by
  have hb : b.toNat < 256 := b.toNat_lt
  have e1 : IntKind.u64.wrap (n * 256) = ((n.toNat * 256 : Nat) : Int) := by rw [IntKind.wrap_u64]; omega
  have e2 : IntKind.u64.wrap (b.toNat : Int) = (b.toNat : Int) := by rw [IntKind.wrap_u64]; omega
  rw [e1, e2, bits_or_u64_nat _ _ (by omega) (by omega)]
  have : n.toNat * 256 ||| b.toNat = n.toNat * 256 + b.toNat := by
    have := Nat.two_pow_add_eq_or_of_lt (i := 8) hb n.toNat
    rw [Nat.mul_comm]
    exact this.symm
  rw [this]
  omega
def val8 (l : List UInt8) (n : Int) : Int := l.foldl (fun n b => n * 256 + (b.toNat : Int)) n
theorem val8_range : ∀ (l : List UInt8) (n m : Int), 0 ≤ n → n < m → 0 ≤ val8 l n ∧ val8 l n < m * 256 ^ l.length
  | [], n, m, h0, h1 => by simp [val8]; omega
  | b :: l, n, m, h0, h1 => by
    have hb : b.toNat < 256 := b.toNat_lt
    have := val8_range l (n * 256 + (b.toNat : Int)) (m * 256) (by omega) (by omega)
    rw [List.length_cons, Int.pow_succ, Int.mul_comm (256 ^ l.length) 256, ← Int.mul_assoc]
    exact this
theorem fold_is : ∀ (l : List UInt8) (n m : Int), 0 ≤ n → n < m → m * 256 ^ l.length ≤ 18446744073709551616 → value_scanner_long.fold l n = val8 l n
  | [], n, m, h0, h1, h2 => rfl
  | b :: l, n, m, h0, h1, h2 => by
    have hb : b.toNat < 256 := b.toNat_lt
    have hp : (1 : Int) ≤ 256 ^ l.length := Int.pow_pos (by decide)
    rw [List.length_cons, Int.pow_succ, Int.mul_comm (256 ^ l.length) 256, ← Int.mul_assoc] at h2
    have hm : m * 256 ≤ m * 256 * 256 ^ l.length := by
      have := Int.mul_le_mul_of_nonneg_left hp (show 0 ≤ m * 256 by omega)
      omega
    have := fold_is l (n * 256 + (b.toNat : Int)) (m * 256) (by omega) (by omega) h2
    unfold value_scanner_long.fold val8 at *
    rw [List.foldl_cons, List.foldl_cons, fold_step n b h0 (by omega)]
    exact this
theorem unbytes_l0 (s : ByteArray) (hs : s.size ≤ 8) : ∀ (R Q : List UInt8) (n m : Int), s.data.toList = Q ++ R → 0 ≤ n → n < m → m * 256 ^ R.length ≤ 18446744073709551616 → Ev (fun k => relstoreref_unbytes.l0 k s n (Q.length : Int)) (val8 R n)
  | [], Q, n, m, h, h0, h1, h2 => by
    have z := size_in h
    simp at z
    refine Ev.step (f := fun _ => some n) (fun k => ?_) (Ev.now _)
    simp only [relstoreref_unbytes.l0]
    rw [if_neg (by omega)]
  | b :: R, Q, n, m, h, h0, h1, h2 => by
    have z := size_in h
    simp at z
    have hb : b.toNat < 256 := b.toNat_lt
    have hp : (1 : Int) ≤ 256 ^ R.length := Int.pow_pos (by decide)
    rw [List.length_cons, Int.pow_succ, Int.mul_comm (256 ^ R.length) 256, ← Int.mul_assoc] at h2
    have hm : m * 256 ≤ m * 256 * 256 ^ R.length := by
      have := Int.mul_le_mul_of_nonneg_left hp (show 0 ≤ m * 256 by omega)
      omega
    have ih := unbytes_l0 s hs R (Q ++ [b]) (n * 256 + (b.toNat : Int)) (m * 256) (by simp [h]) (by omega) (by omega) h2
    refine Ev.step (f := fun k => relstoreref_unbytes.l0 k s (n * 256 + (b.toNat : Int)) ((Q ++ [b]).length : Int)) (fun k => ?_) ih
    simp only [relstoreref_unbytes.l0]
    rw [if_pos (by omega), if_pos (by omega), bt_in h, w64 (by omega) (by omega)]
    have e : IntKind.u64.wrap (IntKind.u64.wrap (256 * n) + IntKind.u64.wrap (b.toNat : Int)) = n * 256 + (b.toNat : Int) := by
      rw [IntKind.wrap_u64, IntKind.wrap_u64, IntKind.wrap_u64]; omega
    rw [e]
    congr 1
    simp
theorem unbytes_is (s : ByteArray) (hs : s.size ≤ 8) : Ev (fun k => relstoreref_unbytes.f k s) (val8 s.data.toList 0) := by
  have hl : s.data.toList.length ≤ 8 := by rw [← size_in rfl]; exact hs
  refine unbytes_l0 s hs s.data.toList [] 0 1 rfl (by decide) (by decide) ?_
  have : ∀ n, n ≤ 8 → (1 : Int) * 256 ^ n ≤ 18446744073709551616 := by
    intro n hn
    have : n = 0 ∨ n = 1 ∨ n = 2 ∨ n = 3 ∨ n = 4 ∨ n = 5 ∨ n = 6 ∨ n = 7 ∨ n = 8 := by omega
    rcases this with rfl | rfl | rfl | rfl | rfl | rfl | rfl | rfl | rfl <;> decide
  exact this _ hl
theorem take_is (s : ByteArray) (c : Bool) (n : Int) (h0 : 0 ≤ n) (h1 : n ≤ (s.size : Int)) : ∃ t r, value_scanner_take.f s c n = some (t, r, c) ∧ t.data.toList = s.data.toList.take n.toNat ∧ r.data.toList = s.data.toList.drop n.toNat := by
  refine ⟨s.extract 0 n.toNat, s.extract n.toNat s.size, ?_, ?_, ?_⟩
  · unfold value_scanner_take.f
    rw [if_neg (by omega), if_neg (by omega), if_pos h0, if_pos h1]
  · rw [ByteArray.data_extract, Array.toList_extract, List.extract_eq_take_drop]
    simp
  · rw [ByteArray.data_extract, Array.toList_extract, List.extract_eq_take_drop]
    have : s.data.toList.length = s.size := (size_in rfl).symm
    rw [List.take_of_length_le (by rw [List.length_drop]; omega)]
theorem take_out (s : ByteArray) (c : Bool) (n : Int) (h : n < 0 ∨ (s.size : Int) < n) : value_scanner_take.f s c n = some (E0, E0, true) := by
  unfold value_scanner_take.f
  by_cases h0 : n < 0
  · rw [if_pos h0]
  · rw [if_neg h0, if_pos (by omega)]
theorem toList_nil {t : ByteArray} : t.toList = ([] : List UInt8) ↔ t.data.toList = [] := by rw [Lib.toList_data]
theorem byte_is (s : ByteArray) (c : Bool) (x : UInt8) (r : List UInt8) (h : s.data.toList = x :: r) : ∃ s', s'.data.toList = r ∧ value_scanner_byte.f s c = some ((x.toNat : Int), s', c) := by
  have z := size_in h
  simp at z
  obtain ⟨t, r', e, ht, hr⟩ := take_is s c 1 (by decide) (by omega)
  rw [h] at ht hr
  refine ⟨r', hr, ?_⟩
  unfold value_scanner_byte.f
  rw [e]
  have ht' : t.data.toList = [x] := ht
  have zt := size_in ht'
  simp only [Option.bind_some]
  rw [if_neg (by rw [toList_nil, ht']; simp), if_pos (by simp at zt; omega)]
  have hb : bt t 0 = (x.toNat : Int) := bt_in (X := []) (Y := []) (x := x) ht'
  have hx : x.toNat < 256 := x.toNat_lt
  rw [hb, w64' (by omega) (by omega)]
theorem byte_out (s : ByteArray) (c : Bool) (h : s.data.toList = []) : value_scanner_byte.f s c = some (0, E0, true) := by
  have z : s.size = 0 := by rw [size_in h]; rfl
  unfold value_scanner_byte.f
  rw [take_out s c 1 (by omega)]
  simp only [Option.bind_some]
  rw [if_pos (toList_nil.2 rfl)]
theorem long_is' (s : ByteArray) (c : Bool) (h : 8 ≤ s.data.toList.length) : ∃ s', s'.data.toList = s.data.toList.drop 8 ∧ value_scanner_long.f s c = some (val8 (s.data.toList.take 8) 0, s', c) := by
  have z : s.size = s.data.toList.length := size_in rfl
  obtain ⟨t, r', e, ht, hr⟩ := take_is s c 8 (by decide) (by omega)
  refine ⟨r', hr, ?_⟩
  unfold value_scanner_long.f
  rw [e]
  simp only [Option.bind_some]
  have ht' : t.data.toList = s.data.toList.take 8 := ht
  rw [ht', fold_is _ 0 1 (by decide) (by decide) (by rw [List.length_take, Nat.min_eq_left h]; decide)]
theorem long_out (s : ByteArray) (c : Bool) (h : s.data.toList.length < 8) : value_scanner_long.f s c = some (0, E0, true) := by
  have z : s.size = s.data.toList.length := size_in rfl
  unfold value_scanner_long.f
  rw [take_out s c 8 (by omega)]
  rfl
theorem val8_lim (t : List UInt8) (h : t.length ≤ 8) : 0 ≤ val8 t 0 ∧ val8 t 0 < 18446744073709551616 := by
  have h1 := val8_range t 0 1 (by decide) (by decide)
  have : ∀ n, n ≤ 8 → (1 : Int) * 256 ^ n ≤ 18446744073709551616 := by
    intro n hn
    have : n = 0 ∨ n = 1 ∨ n = 2 ∨ n = 3 ∨ n = 4 ∨ n = 5 ∨ n = 6 ∨ n = 7 ∨ n = 8 := by omega
    rcases this with rfl | rfl | rfl | rfl | rfl | rfl | rfl | rfl | rfl <;> decide
  have := this _ h
  omega
theorem b8_nat (x : UInt8) : b8 (x.toNat : Int) = x := by unfold b8; rw [Int.toNat_natCast]; exact UInt8.ofNat_toNat
theorem wrapU (x : Int) (h0 : 0 ≤ x) (h1 : x < 18446744073709551616) : IntKind.u64.wrap (wrap64 x) = x := by
  rw [IntKind.wrap_u64]
  unfold wrap64
  omega
theorem be8_val (t : List UInt8) (h : t.length = 8) : (be8 (IntKind.u64.wrap (wrap64 (val8 t 0)))).map b8 = t := by
  match t, h with
  | [a, b, c, d, e, f, g, i], _ =>
    have ha := a.toNat_lt
    have hb := b.toNat_lt
    have hc := c.toNat_lt
    have hd := d.toNat_lt
    have he := e.toNat_lt
    have hf := f.toNat_lt
    have hg := g.toNat_lt
    have hi := i.toNat_lt
    have hv := val8_lim [a, b, c, d, e, f, g, i] (by simp)
    have hw : IntKind.u64.wrap (wrap64 (val8 [a, b, c, d, e, f, g, i] 0)) = val8 [a, b, c, d, e, f, g, i] 0 := wrapU _ hv.1 hv.2
    rw [hw]
    have s : ∀ (x i : Int) (n : Nat) (d : Int), i.toNat = n → n ≤ 64 → (2 : Int) ^ n = d → shr .u64 x i = x / d := by
      intro x i n d h1 h2 h3
      unfold shr
      rw [h1, show IntKind.u64.bits = 64 from rfl, Nat.min_eq_left h2, h3]
    simp only [be8, List.map_cons, List.map_nil, val8, List.foldl_cons, List.foldl_nil]
    rw [s _ 56 56 72057594037927936 rfl (by decide) rfl, s _ 48 48 281474976710656 rfl (by decide) rfl, s _ 40 40 1099511627776 rfl (by decide) rfl, s _ 32 32 4294967296 rfl (by decide) rfl, s _ 24 24 16777216 rfl (by decide) rfl, s _ 16 16 65536 rfl (by decide) rfl, s _ 8 8 256 rfl (by decide) rfl, s _ 0 0 1 rfl (by decide) rfl]
    generalize hA : (a.toNat : Int) = A
    generalize hB : (b.toNat : Int) = B
    generalize hC : (c.toNat : Int) = C
    generalize hD : (d.toNat : Int) = D
    generalize hE : (e.toNat : Int) = E
    generalize hF : (f.toNat : Int) = F
    generalize hG : (g.toNat : Int) = G
    generalize hI : (i.toNat : Int) = I
    clear hv hw s
    have e1 : (((((((0 * 256 + A) * 256 + B) * 256 + C) * 256 + D) * 256 + E) * 256 + F) * 256 + G) * 256 + I = A * 72057594037927936 + B * 281474976710656 + C * 1099511627776 + D * 4294967296 + E * 16777216 + F * 65536 + G * 256 + I := by omega
    rw [e1]
    generalize hX : A * 72057594037927936 + B * 281474976710656 + C * 1099511627776 + D * 4294967296 + E * 16777216 + F * 65536 + G * 256 + I = X
    have x1 : X / 72057594037927936 % 256 = A := by omega
    have x2 : X / 281474976710656 % 256 = B := by omega
    have x3 : X / 1099511627776 % 256 = C := by omega
    have x4 : X / 4294967296 % 256 = D := by omega
    have x5 : X / 16777216 % 256 = E := by omega
    have x6 : X / 65536 % 256 = F := by omega
    have x7 : X / 256 % 256 = G := by omega
    have x8 : X / 1 % 256 = I := by omega
    rw [x1, x2, x3, x4, x5, x6, x7, x8, ← hA, ← hB, ← hC, ← hD, ← hE, ← hF, ← hG, ← hI]
    simp only [b8_nat]
theorem spoil_l0 {n : Nat} (hn : n ≤ 1048576) : ∀ (j : Nat) (i : Nat) (l : List S38), l.length = n → i + j = n → Ev (fun k => relstorelaw_spoil.l0 k l (n : Int) (i : Int)) ()
  | 0, i, l, hl, hij => by
    refine Ev.step (f := fun _ => some ()) (fun k => ?_) (Ev.now _)
    simp only [relstorelaw_spoil.l0]
    rw [if_neg (by omega), if_pos (by simp; omega)]
  | j + 1, i, l, hl, hij => by
    have ih := spoil_l0 hn j (i + 1) (l.set (i : Int).toNat ⟨9, 0, ⟨#[]⟩⟩) (by rw [List.length_set]; exact hl) (by omega)
    refine Ev.step (f := fun k => relstorelaw_spoil.l0 k (l.set (i : Int).toNat ⟨9, 0, ⟨#[]⟩⟩) (n : Int) ((i + 1 : Nat) : Int)) (fun k => ?_) ih
    simp only [relstorelaw_spoil.l0]
    rw [if_pos (by omega), if_pos (by omega), if_pos (by omega), w64 (by omega) (by omega)]
    rfl
theorem spoil_is (l : List S38) (h : l.length ≤ 1048576) : Ev (fun k => relstorelaw_spoil.f k l) () := spoil_l0 h l.length 0 l rfl (by omega)
def toB (l : List UInt8) : ByteArray := ⟨l.toArray⟩
theorem toB_data (l : List UInt8) : (toB l).data.toList = l := rfl
theorem toB_of {s : ByteArray} {l : List UInt8} (h : s.data.toList = l) : s = toB l := data_inj h
theorem toB_size (l : List UInt8) : (toB l).size = l.length := size_in rfl
theorem toB_append (a b : List UInt8) : toB a ++ toB b = toB (a ++ b) := by
  apply data_inj
  rw [ByteArray.data_append, Array.toList_append]
  rfl
theorem nums_toB (xs : List Int) : strOfNums xs = toB (xs.map b8) := rfl
def esc : List UInt8 → List UInt8
  | [] => []
  | x :: r => if x = 0 then 0 :: 255 :: esc r else x :: esc r
theorem esc_length : ∀ l : List UInt8, (esc l).length ≤ 2 * l.length
  | [] => Nat.le_refl _
  | x :: r => by
    have := esc_length r
    unfold esc
    split <;> simp only [List.length_cons] <;> omega
theorem replace_esc : ∀ t : List UInt8, Lib.replaceK [0] [0, 255] (Lib.count t [0]) t = esc t
  | [] => by
    have h : Lib.index ([] : List UInt8) [0] = -1 := rfl
    rw [Lib.count_miss h]
    rfl
  | b :: l => by
    have ih := replace_esc l
    by_cases hb : b = 0
    · subst hb
      have h : Lib.index (0 :: l) [(0 : UInt8)] = ((0 : Nat) : Int) := by
        unfold Lib.index
        rw [if_pos (by simp [List.isPrefixOf])]
        rfl
      rw [Lib.count_hit (by simp) h, Nat.add_comm 1, Lib.replaceK_hit _ _ _ _ _ h]
      show [] ++ [0, 255] ++ Lib.replaceK [0] [0, 255] (Lib.count l [0]) l = _
      rw [ih, esc, if_pos rfl]
      rfl
    · have hp : ¬ ([(0 : UInt8)].isPrefixOf (b :: l) = true) := by
        simp [List.isPrefixOf]
        exact fun e => hb e.symm
      have hge := Lib.index_ge l [0]
      rw [esc, if_neg hb]
      by_cases h : Lib.index l [0] = -1
      · have h2 : Lib.index (b :: l) [0] = -1 := by
          unfold Lib.index
          rw [if_neg hp, if_pos (beq_iff_eq.2 h)]
        rw [Lib.count_miss h] at ih
        rw [Lib.count_miss h2, ← ih]
        rfl
      · obtain ⟨i, hi⟩ : ∃ i : Nat, Lib.index l [0] = i := ⟨(Lib.index l [0]).toNat, by omega⟩
        have h2 : Lib.index (b :: l) [0] = ((i + 1 : Nat) : Int) := by
          unfold Lib.index
          rw [if_neg hp, if_neg (fun e => h (beq_iff_eq.1 e)), hi]
          rfl
        have c1 := Lib.count_hit (s := l) (sub := [0]) (by simp) hi
        have c2 := Lib.count_hit (s := b :: l) (sub := [0]) (by simp) h2
        have hd : (b :: l).drop (i + 1 + [(0 : UInt8)].length) = l.drop (i + [(0 : UInt8)].length) := rfl
        rw [hd] at c2
        rw [c1, Nat.add_comm 1, Lib.replaceK_hit _ _ _ _ _ hi] at ih
        rw [c2, Nat.add_comm 1, Lib.replaceK_hit _ _ _ _ _ h2, hd, ← ih]
        rfl
theorem replaceAll_esc (t : List UInt8) : Lib.replaceAll t [0] [0, 255] = esc t := by
  unfold Lib.replaceAll Lib.replace
  rw [if_neg (by decide)]
  have : Lib.replaceNum t [0] (-1) = Lib.count t [0] := by unfold Lib.replaceNum; rw [if_pos (.inl (by decide))]
  rw [this, replace_esc]
theorem ReplaceAll_is (t : ByteArray) (h : t.size ≤ 1048576) : strings_ReplaceAll.f t (⟨#[0]⟩ : ByteArray) (⟨#[0, 255]⟩ : ByteArray) = some (toB (esc t.data.toList)) := by
  have hm := Lib.countB_mul_le (⟨#[0]⟩ : ByteArray) (by decide) t.size t (Nat.le_refl _)
  have h1 : (⟨#[0]⟩ : ByteArray).size = 1 := rfl
  have h2 : (⟨#[0, 255]⟩ : ByteArray).size = 2 := rfl
  unfold strings_ReplaceAll.f
  rw [h1] at hm ⊢
  rw [h2, if_pos ⟨by omega, by omega, by omega⟩]
  exact congrArg some (congrArg toB (replaceAll_esc t.data.toList))
theorem xor_top_nat (x : Nat) (h : x < 18446744073709551616) : x ^^^ 9223372036854775808 = (x + 9223372036854775808) % 18446744073709551616 := by
  have e1 : (9223372036854775808 : Nat) = 2 ^ 63 := rfl
  have e2 : (18446744073709551616 : Nat) = 2 ^ 64 := rfl
  rw [e1, e2] at *
  apply Nat.eq_of_testBit_eq
  intro i
  rw [Nat.testBit_xor, Nat.testBit_two_pow, Nat.testBit_mod_two_pow, Nat.add_comm x]
  by_cases h1 : i < 63
  · rw [Nat.testBit_two_pow_add_gt h1, decide_eq_true (show i < 64 by omega), decide_eq_false (show ¬ 63 = i by omega)]
    simp
  · by_cases h2 : i = 63
    · subst h2
      rw [Nat.testBit_two_pow_add_eq]
      simp
    · rw [decide_eq_false (show ¬ i < 64 by omega), decide_eq_false (show ¬ 63 = i by omega), Nat.testBit_lt_two_pow (Nat.lt_of_lt_of_le h (Nat.pow_le_pow_right (n := 2) (by decide) (show 64 ≤ i by omega)))]
      simp
theorem xor_top (x : Int) (h0 : 0 ≤ x) (h1 : x < 18446744073709551616) : Go.bits .xor .u64 x 9223372036854775808 = IntKind.u64.wrap (x + 9223372036854775808) := by
  have e := bits_xor_u64_nat x.toNat 9223372036854775808 (by omega) (by decide)
  rw [show ((x.toNat : Nat) : Int) = x by omega, show ((9223372036854775808 : Nat) : Int) = 9223372036854775808 from rfl] at e
  rw [e, xor_top_nat _ (by omega), IntKind.wrap_u64]
  omega
def ku (x : Int) : Int := IntKind.u64.wrap (IntKind.u64.wrap x + 9223372036854775808)
theorem ku_range (x : Int) : 0 ≤ ku x ∧ ku x < 18446744073709551616 := wrap64u _
def kb (v : S38) : List UInt8 :=
  if v.f0 = 1 then [if v.f1 = 0 then 2 else 3] else if v.f0 = 2 then 4 :: (be8 (ku v.f1)).map b8
  else if v.f0 = 3 then 5 :: (esc v.f2.data.toList ++ [0, 1]) else [1]
def kbs (l : List S38) : List UInt8 := l.flatMap kb
theorem kb_length (v : S38) : (kb v).length ≤ 9 + 2 * v.f2.size := by
  have h := esc_length v.f2.data.toList
  have z : v.f2.size = v.f2.data.toList.length := size_in rfl
  unfold kb
  split
  · simp; omega
  · split
    · simp [be8]
    · split
      · simp only [List.length_cons, List.length_append, List.length_nil]; omega
      · simp; omega
theorem Key_l0 {l : List S38} (hl : l.length ≤ 1048576) (hx : ∀ v ∈ l, v.f2.size ≤ 1048576) : ∀ (R A : List S38) (acc : List Int), l = A ++ R → acc.length ≤ 2097200 * A.length →
    Ev (fun k => value_Key.l0 k acc l (l.length : Int) (A.length : Int)) (toB (acc.map b8 ++ kbs R))
  | [], A, acc, h1, hc => by
    have z1 := congrArg List.length h1
    simp at z1
    refine Ev.step (f := fun _ => some (strOfNums acc)) (fun k => ?_) ?_
    · simp only [value_Key.l0]
      rw [if_neg (by omega)]
    · rw [show kbs ([] : List S38) = [] from rfl, List.append_nil]
      exact Ev.now _
  | v :: R, A, acc, h1, hc => by
    have z1 := congrArg List.length h1
    simp at z1
    have hv : rd_T38 l (A.length : Int) = v := getD_in h1
    have hw : wrap64 ((A.length : Int) + 1) = ((A ++ [v]).length : Int) := by rw [w64 (by omega) (by omega)]; simp
    have hvs : v.f2.size ≤ 1048576 := hx v (by rw [h1]; simp)
    have ih := fun acc hc => Key_l0 hl hx R (A ++ [v]) acc (by simp [h1]) hc
    have done : ∀ acc' : List Int, acc'.map b8 = acc.map b8 ++ kb v → Ev (fun k => value_Key.l0 k acc' l (l.length : Int) ((A ++ [v]).length : Int)) (toB (acc.map b8 ++ kbs (v :: R))) := by
      intro acc' h
      have hn := kb_length v
      have hz := congrArg List.length h
      simp only [List.length_map, List.length_append] at hz
      have := ih acc' (by rw [List.length_append]; simp only [List.length_cons, List.length_nil]; omega)
      rw [h] at this
      rw [show kbs (v :: R) = kb v ++ kbs R from rfl, ← List.append_assoc]
      exact this
    refine Ev.step (f := fun k => (value_Clean.f v.f0 v.f1 v.f2).bind fun bt261 => (if bt261.1 = 1 then (if acc.length < 140737488355328 then (value_Key.l0 k (acc ++ [(2 + bt261.2.1) % 256]) l (l.length : Int) (wrap64 ((A.length : Int) + 1))) else (none)) else (if bt261.1 = 2 then (if acc.length < 140737488355328 then ((value_long.f k (acc ++ [4]) (Go.bits .xor .u64 (IntKind.u64.wrap (bt261.2.1)) 9223372036854775808)).bind fun t270 => (value_Key.l0 k t270 l (l.length : Int) (wrap64 ((A.length : Int) + 1)))) else (none)) else (if bt261.1 = 3 then (if acc.length < 140737488355328 then ((some (acc ++ [5] : List Int)).bind fun y273 => ((strings_ReplaceAll.f bt261.2.2 (⟨#[0]⟩ : ByteArray) (⟨#[0, 255]⟩ : ByteArray)).bind fun t276 => (if y273.length + t276.size < 140737488355328 then ((some (y273 ++ bytesOf t276 : List Int)).bind fun y277 => ((some (([0, 1] : List Int) : List Int)).bind fun y280 => (if y277.length + y280.length < 140737488355328 then (value_Key.l0 k (y277 ++ y280) l (l.length : Int) (wrap64 ((A.length : Int) + 1))) else (none)))) else (none)))) else (none)) else (if acc.length < 140737488355328 then (value_Key.l0 k (acc ++ [1]) l (l.length : Int) (wrap64 ((A.length : Int) + 1))) else (none)))))) (fun k => ?_) ?_
    · simp only [value_Key.l0]
      rw [if_pos (by omega), if_pos (by omega), if_pos (by omega), hv]
    refine Ev.some_bind (clean_is v) ?_
    rw [hw]
    have hlim : acc.length < 140737488355328 := by omega
    by_cases c1 : v.f0 = 1
    · simp only [if_pos c1]
      refine Ev.ite_true trivial (Ev.ite_true hlim (done _ ?_))
      unfold kb
      rw [if_pos c1, List.map_append]
      by_cases c : v.f1 = 0
      · rw [if_pos c, if_pos c]; rfl
      · rw [if_neg c, if_neg c]; rfl
    · simp only [if_neg c1]
      by_cases c2 : v.f0 = 2
      · simp only [if_pos c2]
        refine Ev.ite_false (by decide) (Ev.ite_true trivial (Ev.ite_true hlim (Ev.bind (long_is _ _ (by simp; omega)) (done _ ?_))))
        have hr := wrap64u v.f1
        unfold kb ku
        rw [if_neg c1, if_pos c2, xor_top _ hr.1 hr.2, List.map_append, List.map_append, List.append_assoc]
        rfl
      · simp only [if_neg c2]
        by_cases c3 : v.f0 = 3
        · simp only [if_pos c3]
          have hE := esc_length v.f2.data.toList
          have z : v.f2.size = v.f2.data.toList.length := size_in rfl
          refine Ev.ite_false (by decide) (Ev.ite_false (by decide) (Ev.ite_true trivial (Ev.ite_true hlim (Ev.some_bind rfl (Ev.some_bind (ReplaceAll_is v.f2 hvs) (Ev.ite_true (by rw [toB_size, List.length_append]; simp only [List.length_cons, List.length_nil]; omega) (Ev.some_bind rfl (Ev.some_bind rfl (Ev.ite_true (by rw [List.length_append, List.length_append, bytesOf_length, toB_size]; simp only [List.length_cons, List.length_nil]; omega) (done _ ?_))))))))))
          unfold kb
          rw [if_neg c1, if_neg c2, if_pos c3]
          simp only [List.map_append]
          rw [show (bytesOf (toB (esc v.f2.data.toList))).map b8 = esc v.f2.data.toList from congrArg (fun s : ByteArray => s.data.toList) (nums_bytes (toB (esc v.f2.data.toList)))]
          simp only [List.append_assoc]
          rfl
        · simp only [if_neg c3]
          refine Ev.ite_false (by decide) (Ev.ite_false (by decide) (Ev.ite_false (by decide) (Ev.ite_true hlim (done _ ?_))))
          unfold kb
          rw [if_neg c1, if_neg c2, if_neg c3, List.map_append]
          rfl
theorem Key_is {l : List S38} (hl : l.length ≤ 1048576) (hx : ∀ v ∈ l, v.f2.size ≤ 1048576) : Ev (fun k => value_Key.f k l) (toB (kbs l)) := Key_l0 hl hx l [] [] rfl (by simp)
theorem one_more (s : ByteArray) (Q R : List UInt8) (x : UInt8) (acc : List UInt8) (h : s.data.toList = Q ++ x :: R) : toB acc ++ s.extract (Q.length : Int).toNat ((Q.length : Int) + 1).toNat = toB (acc ++ [x]) := by
  apply data_inj
  rw [ByteArray.data_append, Array.toList_append, ByteArray.data_extract, Array.toList_extract, List.extract_eq_take_drop, h]
  have e1 : ((Q.length : Int)).toNat = Q.length := Int.toNat_natCast _
  have e2 : ((Q.length : Int) + 1).toNat = Q.length + 1 := by omega
  rw [e1, e2, Nat.add_sub_cancel_left, List.drop_append_of_le_length (Nat.le_refl _), List.drop_length]
  rfl
theorem one_size (s : ByteArray) (Q R : List UInt8) (x : UInt8) (h : s.data.toList = Q ++ x :: R) : (s.extract (Q.length : Int).toNat ((Q.length : Int) + 1).toNat).size = 1 := by
  have z := size_in h
  simp only [List.length_append, List.length_cons] at z
  rw [ByteArray.size_extract]
  omega
theorem rKey_l1 {l : List S38} {n i a b : Int} {t : ByteArray} (ht : t.size ≤ 1048576) {o : ByteArray} : ∀ (R Q acc : List UInt8), t.data.toList = Q ++ R → acc.length ≤ 4611686018427387904 + 2 * Q.length →
    Ev (fun k => relstoreref_Key.l0 k (toB (acc ++ esc R ++ [0, 1])) l n (wrap64 (i + 1))) o → Ev (fun k => relstoreref_Key.l1 k (toB acc) (Q.length : Int) l n i a b t) o
  | [], Q, acc, h, hc, hk => by
    have z := size_in h
    simp only [List.length_append, List.length_nil] at z
    rw [show esc [] = [] from rfl, List.append_nil] at hk
    refine Ev.step (f := fun k => relstoreref_Key.l0 k (toB (acc ++ [0, 1])) l n (wrap64 (i + 1))) (fun k => ?_) hk
    simp only [relstoreref_Key.l1]
    rw [if_neg (by omega), if_pos (by rw [toB_size]; omega)]
    rw [show (⟨#[0, 1]⟩ : ByteArray) = toB [0, 1] from rfl, toB_append]
  | x :: R, Q, acc, h, hc, hk => by
    have z := size_in h
    simp only [List.length_append, List.length_cons] at z
    have hb : bt t (Q.length : Int) = (x.toNat : Int) := bt_in h
    have e1 : wrap64 ((Q.length : Int) + 1) = (Q.length : Int) + 1 := w64 (by omega) (by omega)
    have hm := one_more t Q R x acc h
    have hs := one_size t Q R x h
    have hw : ((Q.length : Int) + 1) = ((Q ++ [x]).length : Int) := by simp
    by_cases c : x = 0
    · have ih := rKey_l1 (l := l) (n := n) (i := i) (a := a) (b := b) (o := o) ht R (Q ++ [x]) (acc ++ [x] ++ [255]) (by simp [h]) (by simp; omega) (by
        have e : acc ++ [x] ++ [255] ++ esc R ++ [0, 1] = acc ++ esc (x :: R) ++ [0, 1] := by rw [c, esc, if_pos rfl]; simp
        rw [e]; exact hk)
      refine Ev.step (f := fun k => relstoreref_Key.l1 k (toB (acc ++ [x] ++ [255])) ((Q ++ [x]).length : Int) l n i a b t) (fun k => ?_) ih
      simp only [relstoreref_Key.l1]
      rw [if_pos (by omega), if_pos (by omega), e1, if_pos (by omega), if_pos (by omega), if_pos (by rw [hs, toB_size]; omega), hb, if_pos (by rw [c]; rfl), hm, if_pos (by rw [toB_size]; simp; omega), show (⟨#[255]⟩ : ByteArray) = toB [255] from rfl, toB_append, hw]
    · have ih := rKey_l1 (l := l) (n := n) (i := i) (a := a) (b := b) (o := o) ht R (Q ++ [x]) (acc ++ [x]) (by simp [h]) (by simp; omega) (by
        have e : acc ++ [x] ++ esc R ++ [0, 1] = acc ++ esc (x :: R) ++ [0, 1] := by rw [esc, if_neg c]; simp
        rw [e]; exact hk)
      refine Ev.step (f := fun k => relstoreref_Key.l1 k (toB (acc ++ [x])) ((Q ++ [x]).length : Int) l n i a b t) (fun k => ?_) ih
      simp only [relstoreref_Key.l1]
      rw [if_pos (by omega), if_pos (by omega), e1, if_pos (by omega), if_pos (by omega), if_pos (by rw [hs, toB_size]; omega), hb, if_neg (show ¬ ((x.toNat : Int) = 0) from fun e => c ((u8_is x 0 (by decide)).1 e)), hm, hw]
theorem rKey_l0 {l : List S38} (hl : l.length ≤ 1048576) (hx : ∀ v ∈ l, v.f2.size ≤ 1048576) : ∀ (R A : List S38) (acc : List UInt8), l = A ++ R → acc.length ≤ 2097200 * A.length →
    Ev (fun k => relstoreref_Key.l0 k (toB acc) l (l.length : Int) (A.length : Int)) (toB (acc ++ kbs R))
  | [], A, acc, h1, hc => by
    have z1 := congrArg List.length h1
    simp at z1
    refine Ev.step (f := fun _ => some (toB acc)) (fun k => ?_) ?_
    · simp only [relstoreref_Key.l0]
      rw [if_neg (by omega)]
    · rw [show kbs ([] : List S38) = [] from rfl, List.append_nil]
      exact Ev.now _
  | v :: R, A, acc, h1, hc => by
    have z1 := congrArg List.length h1
    simp at z1
    have hv : rd_T38 l (A.length : Int) = v := getD_in h1
    have hw : wrap64 ((A.length : Int) + 1) = ((A ++ [v]).length : Int) := by rw [w64 (by omega) (by omega)]; simp
    have hvs : v.f2.size ≤ 1048576 := hx v (by rw [h1]; simp)
    have ih := fun acc hc => rKey_l0 hl hx R (A ++ [v]) acc (by simp [h1]) hc
    have done : ∀ acc' : List UInt8, acc' = acc ++ kb v → Ev (fun k => relstoreref_Key.l0 k (toB acc') l (l.length : Int) ((A ++ [v]).length : Int)) (toB (acc ++ kbs (v :: R))) := by
      rintro acc' rfl
      have hn := kb_length v
      have := ih (acc ++ kb v) (by rw [List.length_append, List.length_append]; simp only [List.length_cons, List.length_nil]; omega)
      rw [show kbs (v :: R) = kb v ++ kbs R from rfl, ← List.append_assoc]
      exact this
    refine Ev.step (f := fun k => (relstoreref_Clean.f v.f0 v.f1 v.f2).bind fun bt184 => (if bt184.1 = 0 then (if (toB acc).size + 1 ≤ 9223372036854775807 then (relstoreref_Key.l0 k (toB acc ++ (⟨#[1]⟩ : ByteArray)) l (l.length : Int) (wrap64 ((A.length : Int) + 1))) else (none)) else (if bt184.1 = 1 then ((some (([(wrap64 (2 + bt184.2.1)) % 256] : List Int) : List Int)).bind fun y187 => (if (toB acc).size + (strOfNums y187).size ≤ 9223372036854775807 then (relstoreref_Key.l0 k (toB acc ++ (strOfNums y187)) l (l.length : Int) (wrap64 ((A.length : Int) + 1))) else (none))) else (if bt184.1 = 2 then ((relstoreref_bytes.f k (IntKind.u64.wrap ((IntKind.u64.wrap (bt184.2.1)) + 9223372036854775808)) 8).bind fun t190 => (if 1 + t190.size ≤ 9223372036854775807 then (if (toB acc).size + ((⟨#[4]⟩ : ByteArray) ++ t190).size ≤ 9223372036854775807 then (relstoreref_Key.l0 k (toB acc ++ ((⟨#[4]⟩ : ByteArray) ++ t190)) l (l.length : Int) (wrap64 ((A.length : Int) + 1))) else (none)) else (none))) else (if bt184.1 = 3 then (if (toB acc).size + 1 ≤ 9223372036854775807 then (relstoreref_Key.l1 k (toB acc ++ (⟨#[5]⟩ : ByteArray)) 0 l (l.length : Int) (A.length : Int) bt184.1 bt184.2.1 bt184.2.2) else (none)) else (relstoreref_Key.l0 k (toB acc) l (l.length : Int) (wrap64 ((A.length : Int) + 1)))))))) (fun k => ?_) ?_
    · simp only [relstoreref_Key.l0]
      rw [if_pos (by omega), if_pos (by omega), if_pos (by omega), hv]
    refine Ev.some_bind ((rclean_is v).trans (clean_is v)) ?_
    have hlim : acc.length ≤ 2199023255552000 := by omega
    by_cases c1 : v.f0 = 1
    · simp only [if_pos c1]
      refine Ev.ite_false (by decide) (Ev.ite_true trivial (Ev.some_bind rfl (Ev.ite_true (by rw [toB_size, nums_toB, toB_size]; simp only [List.length_map, List.length_cons, List.length_nil]; omega) ?_)))
      rw [hw, nums_toB, toB_append]
      refine done _ ?_
      unfold kb
      rw [if_pos c1]
      by_cases c : v.f1 = 0
      · rw [if_pos c, if_pos c, show wrap64 (2 + 0) = 2 from w64' (by decide) (by decide)]; rfl
      · rw [if_neg c, if_neg c, show wrap64 (2 + 1) = 3 from w64' (by decide) (by decide)]; rfl
    · simp only [if_neg c1]
      by_cases c2 : v.f0 = 2
      · simp only [if_pos c2]
        have hr := ku_range v.f1
        refine Ev.ite_false (by decide) (Ev.ite_false (by decide) (Ev.ite_true trivial (Ev.bind (bytes8 (ku v.f1) hr.1 hr.2) ?_)))
        rw [nums_toB, show (⟨#[4]⟩ : ByteArray) = toB [4] from rfl, toB_append, toB_size, toB_size, toB_size]
        refine Ev.ite_true (by simp [be8]) (Ev.ite_true (by simp [be8]; omega) ?_)
        rw [hw, toB_append]
        refine done _ ?_
        unfold kb
        rw [if_neg c1, if_pos c2]
        rfl
      · simp only [if_neg c2]
        by_cases c3 : v.f0 = 3
        · simp only [if_pos c3]
          refine Ev.ite_false (by decide) (Ev.ite_false (by decide) (Ev.ite_false (by decide) (Ev.ite_true trivial (Ev.ite_true (by rw [toB_size]; omega) ?_))))
          rw [show (⟨#[5]⟩ : ByteArray) = toB [5] from rfl, toB_append]
          refine rKey_l1 hvs v.f2.data.toList [] (acc ++ [5]) rfl (by simp; omega) ?_
          rw [hw]
          refine done _ ?_
          unfold kb
          rw [if_neg c1, if_neg c2, if_pos c3]
          simp
        · simp only [if_neg c3]
          refine Ev.ite_true trivial (Ev.ite_true (by rw [toB_size]; omega) ?_)
          rw [hw, show (⟨#[1]⟩ : ByteArray) = toB [1] from rfl, toB_append]
          refine done _ ?_
          unfold kb
          rw [if_neg c1, if_neg c2, if_neg c3]
theorem rKey_is {l : List S38} (hl : l.length ≤ 1048576) (hx : ∀ v ∈ l, v.f2.size ≤ 1048576) : Ev (fun k => relstoreref_Key.f k l) (toB (kbs l)) := rKey_l0 hl hx l [] [] rfl (by simp)
def escRead : List UInt8 → Option (List UInt8 × List UInt8)
  | [] => none
  | [_] => none
  | x :: y :: r => if x = 0 then (if y = 1 then some ([], r) else if y = 255 then (escRead r).map (fun p => (0 :: p.1, p.2)) else none) else (escRead (y :: r)).map (fun p => (x :: p.1, p.2))
theorem escRead_ne {x : UInt8} (h : ¬ x = 0) (r : List UInt8) : escRead (x :: r) = (escRead r).map (fun p => (x :: p.1, p.2)) := by
  cases r with
  | nil => rfl
  | cons y r => rw [escRead, if_neg h]
theorem escRead_zero (y : UInt8) (r : List UInt8) : escRead (0 :: y :: r) = if y = 1 then some ([], r) else if y = 255 then (escRead r).map (fun p => (0 :: p.1, p.2)) else none := by rw [escRead, if_pos rfl]
def kn (x : Int) : Int := wrap64 (IntKind.u64.wrap (x + 9223372036854775808))
def kitem : List UInt8 → Option (S38 × List UInt8)
  | [] => none
  | x :: r => if x = 1 then some (⟨0, 0, E0⟩, r) else if x = 2 then some (⟨1, 0, E0⟩, r) else if x = 3 then some (⟨1, 1, E0⟩, r)
    else if x = 4 then (if r.length < 8 then none else some (⟨2, kn (val8 (r.take 8) 0), E0⟩, r.drop 8))
    else if x = 5 then (escRead r).map (fun p => (⟨3, 0, toB p.1⟩, p.2)) else none
def keys : Nat → List UInt8 → Option (List S38)
  | _, [] => some []
  | 0, _ => none
  | n + 1, b => (kitem b).bind fun p => (keys n p.2).map fun q => p.1 :: q
def said (acc : List S38) (o : Option (List S38)) : List S38 × Int := match o with | some l => (acc ++ l, 0) | none => ([], 4)
theorem idx_split : ∀ L : List UInt8, (Lib.indexByte L 0 = -1 ∧ escRead L = none) ∨ ∃ Q R, L = Q ++ 0 :: R ∧ Lib.indexByte L 0 = (Q.length : Int) ∧ ∀ R', escRead (Q ++ R') = (escRead R').map (fun p => (Q ++ p.1, p.2))
  | [] => .inl ⟨rfl, rfl⟩
  | x :: r => by
    by_cases hx : x = 0
    · subst hx
      refine .inr ⟨[], r, rfl, ?_, fun R' => ?_⟩
      · unfold Lib.indexByte
        rw [if_pos (by decide)]
        rfl
      · rw [List.nil_append]
        cases escRead R' <;> rfl
    · have hb : ¬ ((x == 0) = true) := fun e => hx (by simpa using e)
      rcases idx_split r with ⟨h1, h2⟩ | ⟨Q, R, h1, h2, h3⟩
      · refine .inl ⟨?_, ?_⟩
        · unfold Lib.indexByte
          rw [if_neg hb, h1, if_pos (by decide)]
        · rw [escRead_ne hx, h2]
          rfl
      · refine .inr ⟨x :: Q, R, by rw [h1]; rfl, ?_, fun R' => ?_⟩
        · unfold Lib.indexByte
          rw [if_neg hb, h2, if_neg (by simp)]
          simp
        · show escRead (x :: (Q ++ R')) = _
          rw [escRead_ne hx, h3 R']
          cases escRead R' <;> rfl
theorem escRead_len : ∀ (L : List UInt8) {t r : List UInt8}, escRead L = some (t, r) → t.length + r.length < L.length
  | [], t, r, h => by cases h
  | [_], t, r, h => by cases h
  | x :: y :: L, t, r, h => by
    by_cases hx : x = 0
    · subst hx
      rw [escRead_zero] at h
      split at h
      · cases h
        simp only [List.length_nil, List.length_cons]
        omega
      · split at h
        · obtain ⟨p, hp, e⟩ := Option.map_eq_some_iff.1 h
          cases e
          have := escRead_len L hp
          simp only [List.length_cons]
          omega
        · cases h
    · rw [escRead_ne hx] at h
      obtain ⟨p, hp, e⟩ := Option.map_eq_some_iff.1 h
      cases e
      have := escRead_len (y :: L) hp
      simp only [List.length_cons] at this ⊢
      omega
theorem kitem_len {b r : List UInt8} {v : S38} (h : kitem b = some (v, r)) : r.length < b.length := by
  cases b with
  | nil => cases h
  | cons x b =>
    simp only [kitem] at h
    split at h
    · cases h; simp
    · split at h
      · cases h; simp
      · split at h
        · cases h; simp
        · split at h
          · split at h
            · cases h
            · cases h; simp only [List.length_drop, List.length_cons]; omega
          · split at h
            · obtain ⟨p, hp, e⟩ := Option.map_eq_some_iff.1 h
              cases e
              have := escRead_len b hp
              simp only [List.length_cons]
              omega
            · cases h
theorem take_none (s : ByteArray) (c : Bool) : value_scanner_take.f s c (-1) = some (E0, E0, true) := take_out s c (-1) (.inl (by decide))
theorem take_to {s : ByteArray} {c : Bool} {X Y : List UInt8} (h : s.data.toList = X ++ Y) : value_scanner_take.f s c (X.length : Int) = some (toB X, toB Y, c) := by
  have z := size_in h
  rw [List.length_append] at z
  obtain ⟨t, r, e, h1, h2⟩ := take_is s c (X.length : Int) (by omega) (by omega)
  rw [h, Int.toNat_natCast] at h1 h2
  rw [List.take_append_of_le_length (Nat.le_refl _), List.take_length] at h1
  rw [List.drop_append_of_le_length (Nat.le_refl _), List.drop_length, List.nil_append] at h2
  rw [e, toB_of h1, toB_of h2]
theorem nums_map (acc : List Int) (t : List UInt8) : (acc ++ bytesOf (toB t)).map b8 = acc.map b8 ++ t := by
  rw [List.map_append, show (bytesOf (toB t)).map b8 = t from congrArg (fun s : ByteArray => s.data.toList) (nums_bytes (toB t))]
theorem escaped_is : ∀ (n : Nat) (s : ByteArray) (acc : List Int), s.size ≤ n → acc.length + s.size ≤ 1000000000 →
    Ev (fun k => value_scanner_escaped.l0 k acc s false) (match escRead s.data.toList with | some p => (toB (acc.map b8 ++ p.1), toB p.2, false) | none => (E0, E0, true))
  | n, s, acc, hn, hc => by
    have z : s.size = s.data.toList.length := size_in rfl
    refine Ev.step (f := fun k => if Lib.indexByte s.data.toList 0 < 0 then (value_scanner_escaped.j1 k acc (Lib.indexByte s.data.toList 0) true s false) else (value_scanner_escaped.j1 k acc (Lib.indexByte s.data.toList 0) ((wrap64 (Lib.indexByte s.data.toList 0 + 1)) == (s.size : Int)) s false)) (fun k => ?_) ?_
    · simp only [value_scanner_escaped.l0]
      rfl
    have out : ∀ (i : Int), escRead s.data.toList = none → Ev (fun k => value_scanner_escaped.j1 k acc i true s false) (match escRead s.data.toList with | some p => (toB (acc.map b8 ++ p.1), toB p.2, false) | none => (E0, E0, true)) := by
      intro i h
      rw [h]
      refine Ev.step (f := fun _ => some (E0, E0, true)) (fun k => ?_) (Ev.now _)
      simp only [value_scanner_escaped.j1]
      rw [if_pos trivial, take_none]
      rfl
    rcases idx_split s.data.toList with ⟨h1, h2⟩ | ⟨Q, R, h1, h2, h3⟩
    · rw [h1]
      exact Ev.ite_true (by decide) (out _ h2)
    · rw [h2]
      refine Ev.ite_false (by omega) ?_
      rw [h1] at z
      simp only [List.length_append, List.length_cons] at z
      have e1 : wrap64 ((Q.length : Int) + 1) = (Q.length : Int) + 1 := w64 (by omega) (by omega)
      rw [e1]
      have hE : escRead s.data.toList = (escRead (0 :: R)).map (fun p => (Q ++ p.1, p.2)) := by rw [h1]; exact h3 (0 :: R)
      cases R with
      | nil =>
        rw [show ((Q.length : Int) + 1 == (s.size : Int)) = true by rw [beq_iff_eq, z]; simp]
        refine out _ ?_
        rw [hE]
        rfl
      | cons y R =>
        simp only [List.length_cons] at z
        rw [show ((Q.length : Int) + 1 == (s.size : Int)) = false by rw [beq_eq_false_iff_ne, z]; omega]
        have hby : bt s ((Q.length : Int) + 1) = (y.toNat : Int) := by
          have := bt_in (s := s) (X := Q ++ [0]) (Y := R) (x := y) (by rw [h1]; simp)
          rw [show ((Q ++ [(0 : UInt8)]).length : Int) = (Q.length : Int) + 1 by simp] at this
          exact this
        have t1 := take_to (c := false) h1
        have t2 : value_scanner_take.f (toB (0 :: y :: R)) false 2 = some (toB [0, y], toB R, false) := take_to (X := [0, y]) (Y := R) rfl
        have hz : (bytesOf (toB Q)).length = Q.length := by rw [bytesOf_length, toB_size]
        refine Ev.step (f := fun k => if (y.toNat : Int) = 1 then (some (strOfNums (acc ++ bytesOf (toB Q)), toB R, false)) else (if (y.toNat : Int) = 255 then (value_scanner_escaped.l0 k ((acc ++ bytesOf (toB Q)) ++ [0]) (toB R) false) else some (E0, E0, true))) (fun k => ?_) ?_
        · simp only [value_scanner_escaped.j1]
          rw [if_neg Bool.false_ne_true, e1, if_pos (by omega), if_pos (by omega), t1]
          simp only [Option.bind_some]
          rw [if_pos (by rw [toB_size]; omega), t2]
          simp only [Option.bind_some]
          rw [hby, if_pos (show (acc ++ bytesOf (toB Q)).length < 140737488355328 by rw [List.length_append, hz]; omega), take_none]
          rfl
        · rw [hE]
          by_cases c1 : y = 1
          · subst c1
            refine Ev.ite_true rfl ?_
            rw [show escRead (0 :: 1 :: R) = some ([], R) from rfl]
            simp only [Option.map_some, List.append_nil]
            rw [nums_toB, nums_map]
            exact Ev.now _
          · refine Ev.ite_false (fun e => c1 ((u8_is y 1 (by decide)).1 e)) ?_
            by_cases c2 : y = 255
            · subst c2
              refine Ev.ite_true rfl ?_
              have zR : (toB R).size = R.length := toB_size R
              obtain ⟨n, rfl⟩ : ∃ m, n = m + 1 := ⟨n - 1, by omega⟩
              have ih := escaped_is n (toB R) ((acc ++ bytesOf (toB Q)) ++ [0]) (by omega) (by rw [List.length_append, List.length_append, hz, zR]; simp only [List.length_cons, List.length_nil]; omega)
              rw [show escRead (0 :: 255 :: R) = (escRead R).map (fun p => (0 :: p.1, p.2)) from rfl]
              rw [toB_data] at ih
              cases hR : escRead R with
              | none => rw [hR] at ih; exact ih
              | some p =>
                rw [hR] at ih
                simp only at ih
                simp only [Option.map_some]
                have e : (acc ++ bytesOf (toB Q) ++ [0]).map b8 ++ p.1 = acc.map b8 ++ (Q ++ 0 :: p.1) := by
                  rw [List.map_append, nums_map]
                  simp only [List.append_assoc]
                  rfl
                rw [e] at ih
                exact ih
            · refine Ev.ite_false (fun e => c2 ((u8_is y 255 (by decide)).1 e)) ?_
              have : escRead (0 :: y :: R) = none := by rw [escRead_zero, if_neg c1, if_neg c2]
              rw [this]
              exact Ev.now _
theorem one_is (s : ByteArray) (hs : s.size ≤ 1048576) : (∀ v r, kitem s.data.toList = some (v, r) → Ev (fun k => value_scanner_one.f k s false) (v.f0, v.f1, v.f2, toB r, false)) ∧
    (kitem s.data.toList = none → ∃ a b c s', Ev (fun k => value_scanner_one.f k s false) (a, b, c, s', true)) := by
  cases h : s.data.toList with
  | nil =>
    refine ⟨fun v r h => (by cases h), fun _ => ⟨0, 0, E0, E0, ?_⟩⟩
    unfold value_scanner_one.f
    refine Ev.some_bind (byte_out s false h) (Ev.ite_false (by decide) (Ev.ite_false (by decide) ?_))
    refine Ev.step (f := fun _ => some (0, 0, E0, E0, true)) (fun k => ?_) (Ev.now _)
    simp [value_scanner_one.j0, value_None.f]
  | cons x r =>
    obtain ⟨s', hs', e⟩ := byte_is s false x r h
    obtain rfl := toB_of hs'
    have z := size_in h
    simp only [List.length_cons] at z
    have zr : (toB r).size = r.length := toB_size r
    have start : ∀ {o}, Ev (fun k => (if (x.toNat : Int) = 1 then ((value_None.f).bind fun bt131 => (some (bt131.1, bt131.2.1, bt131.2.2, toB r, false))) else (if (x.toNat : Int) = 2 then (value_scanner_one.j0 k (x.toNat : Int) (x.toNat : Int) ((x.toNat : Int) == 2) (toB r) false) else (value_scanner_one.j0 k (x.toNat : Int) (x.toNat : Int) ((x.toNat : Int) == 3) (toB r) false)))) o → Ev (fun k => value_scanner_one.f k s false) o := by
      intro o ho
      unfold value_scanner_one.f
      exact Ev.some_bind e ho
    by_cases c1 : x = 1
    · subst c1
      refine ⟨fun v r' h => ?_, fun h => by cases h⟩
      cases h
      exact start (Ev.ite_true rfl (Ev.some_bind rfl (Ev.now _)))
    have n1 : ¬ ((x.toNat : Int) = 1) := fun e => c1 ((u8_is x 1 (by decide)).1 e)
    by_cases c2 : x = 2
    · subst c2
      refine ⟨fun v r' h => ?_, fun h => by cases h⟩
      cases h
      refine start (Ev.ite_false n1 (Ev.ite_true rfl (Ev.step (f := fun _ => some (1, 0, E0, toB r, false)) (fun k => ?_) (Ev.now _))))
      simp [value_scanner_one.j0, value_Flag.f]
    have n2 : ¬ ((x.toNat : Int) = 2) := fun e => c2 ((u8_is x 2 (by decide)).1 e)
    by_cases c3 : x = 3
    · subst c3
      refine ⟨fun v r' h => ?_, fun h => by cases h⟩
      cases h
      refine start (Ev.ite_false n1 (Ev.ite_false n2 (Ev.step (f := fun _ => some (1, 1, E0, toB r, false)) (fun k => ?_) (Ev.now _))))
      simp [value_scanner_one.j0, value_Flag.f]
    have n3 : ((x.toNat : Int) == 3) = false := beq_eq_false_iff_ne.2 (fun e => c3 ((u8_is x 3 (by decide)).1 e))
    have on : ∀ {o}, Ev (fun k => (if (x.toNat : Int) = 4 then ((value_scanner_long.f (toB r) false).bind fun bt137 => ((value_Of.f (wrap64 (Go.bits .xor .u64 bt137.1 9223372036854775808))).bind fun bt140 => (some (bt140.1, bt140.2.1, bt140.2.2, bt137.2.1, bt137.2.2)))) else (if (x.toNat : Int) = 5 then ((value_scanner_escaped.f k (toB r) false).bind fun bt143 => ((value_Str.f bt143.1).bind fun bt146 => (some (bt146.1, bt146.2.1, bt146.2.2, bt143.2.1, bt143.2.2)))) else ((value_None.f).bind fun bt149 => (some (bt149.1, bt149.2.1, bt149.2.2, toB r, true)))))) o → Ev (fun k => value_scanner_one.f k s false) o := by
      intro o ho
      refine start (Ev.ite_false n1 (Ev.ite_false n2 ?_))
      rw [n3]
      refine Ev.step (fun k => ?_) ho
      simp only [value_scanner_one.j0]
      rw [if_neg Bool.false_ne_true]
    by_cases c4 : x = 4
    · subst c4
      by_cases h8 : r.length < 8
      · refine ⟨fun v r' h => ?_, fun _ => ⟨2, _, E0, E0, on (Ev.ite_true rfl (Ev.some_bind (long_out (toB r) false h8) (Ev.some_bind rfl (Ev.now _))))⟩⟩
        simp only [kitem] at h
        rw [if_neg (by decide), if_neg (by decide), if_neg (by decide), if_pos trivial, if_pos h8] at h
        cases h
      · have hk : kitem (4 :: r) = some (⟨2, kn (val8 (r.take 8) 0), E0⟩, r.drop 8) := by
          simp only [kitem]
          rw [if_neg (by decide), if_neg (by decide), if_neg (by decide), if_pos trivial, if_neg h8]
        rw [hk]
        refine ⟨fun v r' h => ?_, fun h => by cases h⟩
        cases h
        obtain ⟨s2, h2, e2⟩ := long_is' (toB r) false (by rw [toB_data]; omega)
        obtain rfl := toB_of h2
        have hv := val8_lim (r.take 8) (by rw [List.length_take]; omega)
        refine on (Ev.ite_true rfl (Ev.some_bind e2 (Ev.some_bind rfl ?_)))
        simp only [toB_data]
        rw [xor_top _ hv.1 hv.2]
        exact Ev.now _
    have n4 : ¬ ((x.toNat : Int) = 4) := fun e => c4 ((u8_is x 4 (by decide)).1 e)
    by_cases c5 : x = 5
    · subst c5
      have hk : kitem (5 :: r) = (escRead r).map (fun p => (⟨3, 0, toB p.1⟩, p.2)) := by
        simp only [kitem]
        rw [if_neg (by decide), if_neg (by decide), if_neg (by decide), if_neg (by decide), if_pos trivial]
      rw [hk]
      have hE := escaped_is (toB r).size (toB r) [] (Nat.le_refl _) (by rw [zr]; simp only [List.length_nil]; omega)
      rw [toB_data] at hE
      cases hr : escRead r with
      | none =>
        rw [hr] at hE
        exact ⟨fun v r' h => (by cases h), fun _ => ⟨3, 0, E0, E0, on (Ev.ite_false n4 (Ev.ite_true rfl (Ev.bind hE (Ev.some_bind rfl (Ev.now _)))))⟩⟩
      | some p =>
        rw [hr] at hE
        refine ⟨fun v r' h => ?_, fun h => by cases h⟩
        cases h
        exact on (Ev.ite_false n4 (Ev.ite_true rfl (Ev.bind hE (Ev.some_bind rfl (Ev.now _)))))
    have n5 : ¬ ((x.toNat : Int) = 5) := fun e => c5 ((u8_is x 5 (by decide)).1 e)
    refine ⟨fun v r' h => ?_, fun _ => ⟨0, 0, E0, toB r, on (Ev.ite_false n4 (Ev.ite_false n5 (Ev.some_bind rfl (Ev.now _))))⟩⟩
    simp only [kitem] at h
    rw [if_neg c1, if_neg c2, if_neg c3, if_neg c4, if_neg c5] at h
    cases h
theorem bad_l0 (acc : List S38) (s : ByteArray) : Ev (fun k => value_Unkey.l0 k acc s true) ([], 4) := by
  refine Ev.step (f := fun _ => some ([], 4)) (fun k => ?_) (Ev.now _)
  simp only [value_Unkey.l0]
  split
  · rw [if_pos trivial]
  · rw [if_pos trivial]
theorem keys_none {n : Nat} {b : List UInt8} (hb : b ≠ []) (h : kitem b = none) (acc : List S38) : said acc (keys (n + 1) b) = ([], 4) := by
  cases b with
  | nil => exact absurd rfl hb
  | cons x r => simp only [keys, h, Option.bind_none]; rfl
theorem keys_some {n : Nat} {b r : List UInt8} {v : S38} (h : kitem b = some (v, r)) (acc : List S38) : said acc (keys (n + 1) b) = said (acc ++ [v]) (keys n r) := by
  cases b with
  | nil => cases h
  | cons x b =>
    simp only [keys, h, Option.bind_some]
    cases keys n r with
    | none => rfl
    | some q => simp [said]
theorem Unkey_l0 : ∀ (n : Nat) (acc : List S38) (s : ByteArray), s.size ≤ n → n ≤ 1048576 → acc.length + s.size ≤ 1048576 → Ev (fun k => value_Unkey.l0 k acc s false) (said acc (keys n s.data.toList))
  | n, acc, s, hn, hm, hc => by
    have z : s.size = s.data.toList.length := size_in rfl
    cases h : s.data.toList with
    | nil =>
      rw [h] at z
      simp only [List.length_nil] at z
      refine Ev.step (f := fun _ => some (acc, 0)) (fun k => ?_) ?_
      · simp only [value_Unkey.l0]
        rw [if_neg (by omega), if_neg Bool.false_ne_true]
      · have : keys n [] = some ([] : List S38) := by cases n <;> rfl
        rw [this]
        simpa [said] using Ev.now (acc, (0 : Int))
    | cons x r =>
      rw [h] at z
      simp only [List.length_cons] at z
      obtain ⟨n, rfl⟩ : ∃ m, n = m + 1 := ⟨n - 1, by omega⟩
      obtain ⟨o1, o2⟩ := one_is s (by omega)
      rw [h] at o1 o2
      refine Ev.step (f := fun k => (value_scanner_one.f k s false).bind fun bt153 => (if acc.length < 4398046511104 then (value_Unkey.l0 k (acc ++ [(⟨bt153.1, bt153.2.1, bt153.2.2.1⟩ : S38)]) bt153.2.2.2.1 bt153.2.2.2.2) else (none))) (fun k => ?_) ?_
      · simp only [value_Unkey.l0]
        rw [if_pos (by omega), if_neg Bool.false_ne_true]
      cases hk : kitem (x :: r) with
      | none =>
        rw [keys_none (by simp) hk]
        obtain ⟨a, b, c, s', he⟩ := o2 hk
        exact Ev.bind he (Ev.ite_true (by omega) (bad_l0 _ _))
      | some p =>
        obtain ⟨v, r'⟩ := p
        rw [keys_some hk]
        have hlen := kitem_len hk
        simp only [List.length_cons] at hlen
        refine Ev.bind (o1 v r' hk) (Ev.ite_true (by omega) ?_)
        have ih := Unkey_l0 n (acc ++ [v]) (toB r') (by rw [toB_size]; omega) (by omega) (by rw [toB_size, List.length_append]; simp only [List.length_cons, List.length_nil]; omega)
        rw [toB_data] at ih
        exact ih
theorem Unkey_is (s : ByteArray) (hs : s.size ≤ 1048576) : Ev (fun k => value_Unkey.f k s) (said [] (keys s.size s.data.toList)) := Unkey_l0 s.size [] s (Nat.le_refl _) hs (by simp only [List.length_nil]; omega)
def refT : List UInt8 → List UInt8
  | [] => []
  | [_] => []
  | x :: y :: r => if x = 0 then (if y = 1 then [] else 0 :: refT r) else x :: refT (y :: r)
theorem refT_len : ∀ L : List UInt8, (refT L).length ≤ L.length
  | [] => Nat.le_refl _
  | [_] => Nat.zero_le _
  | x :: y :: r => by
    have h1 := refT_len r
    have h2 := refT_len (y :: r)
    unfold refT
    simp only [List.length_cons] at h2
    split
    · split
      · exact Nat.zero_le _
      · simp only [List.length_cons]; omega
    · simp only [List.length_cons]; omega
def cand : List UInt8 → S38
  | [] => ⟨0, 0, E0⟩
  | x :: r => if x = 2 then ⟨1, 0, E0⟩ else if x = 3 then ⟨1, 1, E0⟩ else if x = 4 ∧ 8 ≤ r.length then ⟨2, kn (val8 (r.take 8) 0), E0⟩ else if x = 5 then ⟨3, 0, toB (refT r)⟩ else ⟨0, 0, E0⟩
theorem esc_read : ∀ (t r : List UInt8), escRead (esc t ++ 0 :: 1 :: r) = some (t, r)
  | [], r => rfl
  | x :: t, r => by
    have ih := esc_read t r
    by_cases hx : x = 0
    · subst hx
      rw [esc, if_pos rfl]
      show escRead (0 :: 255 :: (esc t ++ 0 :: 1 :: r)) = _
      rw [escRead_zero, if_neg (by decide), if_pos rfl, ih]
      rfl
    · rw [esc, if_neg hx]
      show escRead (x :: (esc t ++ 0 :: 1 :: r)) = _
      rw [escRead_ne hx, ih]
      rfl
theorem read_esc : ∀ (L : List UInt8) {t r : List UInt8}, escRead L = some (t, r) → L = esc t ++ 0 :: 1 :: r ∧ refT L = t
  | [], t, r, h => by cases h
  | [_], t, r, h => by cases h
  | x :: y :: L, t, r, h => by
    by_cases hx : x = 0
    · subst hx
      rw [escRead_zero] at h
      by_cases c1 : y = 1
      · subst c1
        rw [if_pos rfl] at h
        cases h
        exact ⟨rfl, rfl⟩
      · rw [if_neg c1] at h
        by_cases c2 : y = 255
        · subst c2
          rw [if_pos rfl] at h
          obtain ⟨p, hp, e⟩ := Option.map_eq_some_iff.1 h
          cases e
          obtain ⟨h1, h2⟩ := read_esc L hp
          refine ⟨?_, ?_⟩
          · rw [esc, if_pos rfl]
            show 0 :: 255 :: L = 0 :: 255 :: (esc p.1 ++ 0 :: 1 :: p.2)
            rw [← h1]
          · rw [refT, if_pos rfl, if_neg (by decide), h2]
        · rw [if_neg c2] at h
          cases h
    · rw [escRead_ne hx] at h
      obtain ⟨p, hp, e⟩ := Option.map_eq_some_iff.1 h
      cases e
      obtain ⟨h1, h2⟩ := read_esc (y :: L) hp
      refine ⟨?_, ?_⟩
      · rw [esc, if_neg hx]
        show x :: y :: L = x :: (esc p.1 ++ 0 :: 1 :: p.2)
        rw [← h1]
      · rw [refT, if_neg hx, h2]
theorem ku_kn (x : Int) (h0 : 0 ≤ x) (h1 : x < 18446744073709551616) : ku (kn x) = x := by
  unfold ku kn
  rw [IntKind.wrap_u64, IntKind.wrap_u64, IntKind.wrap_u64]
  unfold wrap64
  omega
theorem be8_kn (t : List UInt8) (h : t.length = 8) : (be8 (ku (kn (val8 t 0)))).map b8 = t := by
  have hv := val8_lim t (by omega)
  have e := be8_val t h
  rw [wrapU _ hv.1 hv.2] at e
  rw [ku_kn _ hv.1 hv.2, e]
theorem kb_text (t : List UInt8) : kb (⟨3, 0, toB t⟩ : S38) = 5 :: (esc t ++ [0, 1]) := by
  unfold kb
  rw [if_neg (show ¬ ((3 : Int) = 1) by decide), if_neg (show ¬ ((3 : Int) = 2) by decide), if_pos rfl]
  rfl
theorem kb_num (x : Int) : kb (⟨2, x, E0⟩ : S38) = 4 :: (be8 (ku x)).map b8 := by
  unfold kb
  rw [if_neg (show ¬ ((2 : Int) = 1) by decide), if_pos rfl]
theorem kitem_cand {b r : List UInt8} {v : S38} (h : kitem b = some (v, r)) : cand b = v ∧ b = kb v ++ r := by
  cases b with
  | nil => cases h
  | cons x b =>
    simp only [kitem] at h
    by_cases c1 : x = 1
    · subst c1
      rw [if_pos rfl] at h
      cases h
      exact ⟨rfl, rfl⟩
    rw [if_neg c1] at h
    by_cases c2 : x = 2
    · subst c2
      rw [if_pos rfl] at h
      cases h
      exact ⟨rfl, rfl⟩
    rw [if_neg c2] at h
    by_cases c3 : x = 3
    · subst c3
      rw [if_pos rfl] at h
      cases h
      exact ⟨rfl, rfl⟩
    rw [if_neg c3] at h
    by_cases c4 : x = 4
    · subst c4
      rw [if_pos rfl] at h
      by_cases c8 : b.length < 8
      · rw [if_pos c8] at h
        cases h
      · rw [if_neg c8] at h
        cases h
        refine ⟨?_, ?_⟩
        · simp only [cand]
          rw [if_neg (by decide), if_neg (by decide), if_pos ⟨trivial, by omega⟩]
        · rw [kb_num, be8_kn _ (by rw [List.length_take]; omega), List.cons_append, List.take_append_drop]
    rw [if_neg c4] at h
    by_cases c5 : x = 5
    · subst c5
      rw [if_pos rfl] at h
      obtain ⟨p, hp, e⟩ := Option.map_eq_some_iff.1 h
      cases e
      obtain ⟨h1, h2⟩ := read_esc b hp
      refine ⟨?_, ?_⟩
      · simp only [cand]
        rw [if_neg (by decide), if_neg (by decide), if_neg (fun e => absurd e.1 (by decide)), if_pos trivial, h2]
      · rw [kb_text, List.cons_append, List.append_assoc]
        exact congrArg (5 :: ·) h1
    · rw [if_neg c5] at h
      cases h
theorem cand_kitem {b r : List UInt8} (hb : b ≠ []) (h : b = kb (cand b) ++ r) : kitem b = some (cand b, r) := by
  cases b with
  | nil => exact absurd rfl hb
  | cons x b =>
    simp only [kitem]
    by_cases c2 : x = 2
    · subst c2
      have e : cand (2 :: b) = ⟨1, 0, E0⟩ := rfl
      rw [e] at h ⊢
      obtain rfl : b = r := (List.cons.inj h).2
      rw [if_neg (by decide), if_pos rfl]
    by_cases c3 : x = 3
    · subst c3
      have e : cand (3 :: b) = ⟨1, 1, E0⟩ := rfl
      rw [e] at h ⊢
      obtain rfl : b = r := (List.cons.inj h).2
      rw [if_neg (by decide), if_neg (by decide), if_pos rfl]
    by_cases c4 : x = 4 ∧ 8 ≤ b.length
    · obtain ⟨rfl, h8⟩ := c4
      have e : cand (4 :: b) = ⟨2, kn (val8 (b.take 8) 0), E0⟩ := by
        simp only [cand]
        rw [if_neg (by decide), if_neg (by decide), if_pos ⟨trivial, h8⟩]
      rw [e] at h ⊢
      rw [kb_num, be8_kn _ (by rw [List.length_take]; omega)] at h
      have h2 : b = b.take 8 ++ r := (List.cons.inj h).2
      have h3 : b.drop 8 = r := by
        have l8 : (b.take 8).length = 8 := by rw [List.length_take]; omega
        have h4 : b.drop 8 = (b.take 8 ++ r).drop 8 := congrArg (List.drop 8) h2
        rw [List.drop_append_of_le_length (Nat.le_of_eq l8.symm), List.drop_of_length_le (Nat.le_of_eq l8), List.nil_append] at h4
        exact h4
      rw [if_neg (by decide), if_neg (by decide), if_neg (by decide), if_pos rfl, if_neg (by omega), h3]
    by_cases c5 : x = 5
    · subst c5
      have e : cand (5 :: b) = ⟨3, 0, toB (refT b)⟩ := by
        simp only [cand]
        rw [if_neg (by decide), if_neg (by decide), if_neg (fun e => absurd e.1 (by decide)), if_pos trivial]
      rw [e] at h ⊢
      rw [kb_text, List.cons_append, List.append_assoc] at h
      have h2 : b = esc (refT b) ++ 0 :: 1 :: r := (List.cons.inj h).2
      have h3 := esc_read (refT b) r
      rw [← h2] at h3
      rw [if_neg (by decide), if_neg (by decide), if_neg (by decide), if_neg (by decide), if_pos rfl, h3]
      rfl
    · have e : cand (x :: b) = ⟨0, 0, E0⟩ := by
        simp only [cand]
        rw [if_neg c2, if_neg c3, if_neg c4, if_neg c5]
      rw [e] at h ⊢
      have h1 := List.cons.inj (show x :: b = 1 :: r from h)
      obtain ⟨rfl, rfl⟩ := h1
      rw [if_pos rfl]
theorem cand_size (b : List UInt8) : (cand b).f2.size ≤ b.length := by
  cases b with
  | nil => exact Nat.zero_le _
  | cons x b =>
    have h := refT_len b
    simp only [cand]
    split
    · exact Nat.zero_le _
    · split
      · exact Nat.zero_le _
      · split
        · exact Nat.zero_le _
        · split
          · rw [toB_size]; simp only [List.length_cons]; omega
          · exact Nat.zero_le _
def finK (k : Nat) (x0 : ByteArray) (x4 : List S38) (v : S38) : Option (List S38 × Int) :=
  (relstoreref_Key.f k (([v] : List (S38)))).bind fun t201 => (if (t201.size : Int) > (x0.size : Int) then (some (([] : List (S38)), 4)) else (if 0 ≤ (t201.size : Int) then (if (t201.size : Int) ≤ (x0.size : Int) then (if (x0.extract 0 ((t201.size : Int) : Int).toNat).toList = t201.toList then (if x4.length < 4398046511104 then (relstoreref_Unkey.l0 k (x0.extract ((t201.size : Int) : Int).toNat x0.size) (x4 ++ [v])) else (none)) else (some (([] : List (S38)), 4))) else (none)) else (none)))
theorem finK_is {n : Nat} {s : ByteArray} {acc : List S38} (hs : s.size ≤ 1048576) (hn : s.size ≤ n + 1) (hc : acc.length + s.size ≤ 1048576) (h0 : s.data.toList ≠ [])
    (ih : ∀ (v : S38) (r : List UInt8), r.length ≤ n → acc.length + 1 + r.length ≤ 1048576 → Ev (fun k => relstoreref_Unkey.l0 k (toB r) (acc ++ [v])) (said (acc ++ [v]) (keys n r))) :
    Ev (fun k => finK k s acc (cand s.data.toList)) (said acc (keys (n + 1) s.data.toList)) := by
  have z : s.size = s.data.toList.length := size_in rfl
  have hz := cand_size s.data.toList
  have hK := rKey_is (l := [cand s.data.toList]) (show 1 ≤ 1048576 by decide) (fun v hv => by rw [List.mem_singleton.1 hv]; omega)
  rw [show kbs [cand s.data.toList] = kb (cand s.data.toList) from List.append_nil _] at hK
  refine Ev.bind hK ?_
  rw [toB_size]
  have no : (¬ ∃ r, s.data.toList = kb (cand s.data.toList) ++ r) → said acc (keys (n + 1) s.data.toList) = ([], 4) := by
    intro hno
    cases hk : kitem s.data.toList with
    | none => exact keys_none h0 hk acc
    | some p =>
      obtain ⟨e1, e2⟩ := kitem_cand (v := p.1) (r := p.2) hk
      exact absurd ⟨p.2, by rw [e1]; exact e2⟩ hno
  by_cases c : s.size < (kb (cand s.data.toList)).length
  · refine Ev.ite_true (by omega) ?_
    rw [no (by
      rintro ⟨r, hr⟩
      have := congrArg List.length hr
      rw [List.length_append] at this
      omega)]
    exact Ev.now _
  · refine Ev.ite_false (by omega) (Ev.ite_true (by omega) (Ev.ite_true (by omega) ?_))
    rw [Int.toNat_natCast]
    have hd : (s.extract 0 (kb (cand s.data.toList)).length).data.toList = s.data.toList.take (kb (cand s.data.toList)).length := by
      rw [ByteArray.data_extract, Array.toList_extract, List.extract_eq_take_drop]
      simp
    by_cases d : s.data.toList.take (kb (cand s.data.toList)).length = kb (cand s.data.toList)
    · have hb : s.data.toList = kb (cand s.data.toList) ++ s.data.toList.drop (kb (cand s.data.toList)).length := by
        conv => rhs; arg 1; rw [← d]
        rw [List.take_append_drop]
      have hk := cand_kitem h0 hb
      have hlen := kitem_len hk
      rw [keys_some hk]
      have hr : s.extract (kb (cand s.data.toList)).length s.size = toB (s.data.toList.drop (kb (cand s.data.toList)).length) := by
        apply toB_of
        rw [ByteArray.data_extract, Array.toList_extract, List.extract_eq_take_drop, List.take_of_length_le (by rw [List.length_drop]; omega)]
      rw [hr]
      refine Ev.ite_true (by rw [Lib.toList_data, Lib.toList_data, hd, toB_data]; exact d) (Ev.ite_true (by omega) ?_)
      exact ih _ _ (by omega) (by omega)
    · refine Ev.ite_false (fun e => d (by rw [Lib.toList_data, Lib.toList_data, hd, toB_data] at e; exact e)) ?_
      rw [no (by
        rintro ⟨r, hr⟩
        apply d
        conv => lhs; arg 2; rw [hr]
        rw [List.take_append_of_le_length (Nat.le_refl _), List.take_length])]
      exact Ev.now _
theorem refT_l1 {s : ByteArray} (hs : s.size ≤ 1048576) {x4 : List S38} {o : List S38 × Int} : ∀ (R Q acc : List UInt8), s.data.toList = Q ++ R → acc.length ≤ Q.length →
    Ev (fun k => finK k s x4 ⟨3, 0, toB (acc ++ refT R)⟩) o → Ev (fun k => relstoreref_Unkey.l1 k s x4 (toB acc) (Q.length : Int)) o := by
  have stop : ∀ (Q acc : List UInt8), Ev (fun k => finK k s x4 ⟨3, 0, toB acc⟩) o → Ev (fun k => relstoreref_Unkey.j4 k s x4 (toB acc) (Q.length : Int) false) o := by
    intro Q acc h
    refine Ev.step (fun k => ?_) h
    simp only [relstoreref_Unkey.j4]
    rw [if_neg Bool.false_ne_true]
    rfl
  intro R
  induction hm : R.length using Nat.strongRecOn generalizing R with
  | _ m ih =>
  intro Q acc h hc hk
  have z := size_in h
  rw [List.length_append] at z
  have e1 : wrap64 ((Q.length : Int) + 1) = (Q.length : Int) + 1 := w64 (by omega) (by omega)
  match R, hm with
  | [], hm =>
    simp only [List.length_nil] at z
    rw [show refT [] = [] from rfl, List.append_nil] at hk
    refine Ev.step (fun k => ?_) (stop Q acc hk)
    simp only [relstoreref_Unkey.l1]
    rw [e1, if_neg (by omega)]
  | [x], hm =>
    simp only [List.length_cons, List.length_nil] at z
    rw [show refT [x] = [] from rfl, List.append_nil] at hk
    refine Ev.step (fun k => ?_) (stop Q acc hk)
    simp only [relstoreref_Unkey.l1]
    rw [e1, if_neg (by omega)]
  | x :: y :: R, hm =>
    simp only [List.length_cons] at z hm
    have hb : bt s (Q.length : Int) = (x.toNat : Int) := bt_in h
    have hby : bt s ((Q.length : Int) + 1) = (y.toNat : Int) := by
      have := bt_in (s := s) (X := Q ++ [x]) (Y := R) (x := y) (by rw [h]; simp)
      rw [show ((Q ++ [x]).length : Int) = (Q.length : Int) + 1 by simp] at this
      exact this
    have hm1 := one_more s Q (y :: R) x acc h
    have hs1 := one_size s Q (y :: R) x h
    have go : ∀ o', Ev (fun k => if (x.toNat : Int) = 0 then (relstoreref_Unkey.l1 k s x4 (toB (acc ++ [x])) ((Q.length : Int) + 1 + 1)) else (relstoreref_Unkey.l1 k s x4 (toB (acc ++ [x])) ((Q.length : Int) + 1))) o' → Ev (fun k => relstoreref_Unkey.j4 k s x4 (toB acc) (Q.length : Int) true) o' := by
      intro o' ho
      refine Ev.step (fun k => ?_) ho
      simp only [relstoreref_Unkey.j4]
      rw [if_pos trivial, if_pos (by omega), e1, if_pos (by omega), if_pos (by omega), if_pos (by rw [hs1, toB_size]; omega), if_pos (by omega), hb, hm1, w64 (by omega) (by omega)]
    by_cases hx : x = 0
    · subst hx
      by_cases hy : y = 1
      · subst hy
        rw [show refT (0 :: 1 :: R) = [] from rfl, List.append_nil] at hk
        refine Ev.step (fun k => ?_) (stop Q acc hk)
        simp only [relstoreref_Unkey.l1]
        rw [e1, if_pos (by omega), if_pos (by omega), if_pos (by omega), hb, if_pos (show ((UInt8.toNat 0 : Nat) : Int) = 0 from rfl), if_pos (by omega), hby]
        rfl
      · have ny : ((y.toNat : Int) == 1) = false := beq_eq_false_iff_ne.2 (fun e => hy ((u8_is y 1 (by decide)).1 e))
        have he : refT (0 :: y :: R) = 0 :: refT R := by rw [refT, if_pos rfl, if_neg hy]
        rw [he] at hk
        have h2 := ih R.length (by omega) R rfl (Q ++ [0, y]) (acc ++ [0]) (by rw [h]; simp) (by simp; omega) (by rw [List.append_assoc]; exact hk)
        rw [show ((Q ++ [0, y]).length : Int) = (Q.length : Int) + 1 + 1 by rw [List.length_append]; simp only [List.length_cons, List.length_nil]; omega] at h2
        refine Ev.step (fun k => ?_) (go o (Ev.ite_true rfl h2))
        simp only [relstoreref_Unkey.l1]
        rw [e1, if_pos (by omega), if_pos (by omega), if_pos (by omega), hb, if_pos (show ((UInt8.toNat 0 : Nat) : Int) = 0 from rfl), if_pos (by omega), hby, ny]
        rfl
    · have nx : ¬ ((x.toNat : Int) = 0) := fun e => hx ((u8_is x 0 (by decide)).1 e)
      have he : refT (x :: y :: R) = x :: refT (y :: R) := by rw [refT, if_neg hx]
      rw [he] at hk
      have h2 := ih (y :: R).length (by simp only [List.length_cons]; omega) (y :: R) rfl (Q ++ [x]) (acc ++ [x]) (by rw [h]; simp) (by simp; omega) (by rw [List.append_assoc]; exact hk)
      rw [show ((Q ++ [x]).length : Int) = (Q.length : Int) + 1 by simp] at h2
      refine Ev.step (fun k => ?_) (go o (Ev.ite_false nx h2))
      simp only [relstoreref_Unkey.l1]
      rw [e1, if_pos (by omega), if_pos (by omega), if_pos (by omega), hb, if_neg nx]
      rfl
theorem rUnkey_l0 : ∀ (n : Nat) (acc : List S38) (s : ByteArray), s.size ≤ n → n ≤ 1048576 → acc.length + s.size ≤ 1048576 → Ev (fun k => relstoreref_Unkey.l0 k s acc) (said acc (keys n s.data.toList))
  | n, acc, s, hn, hm, hc => by
    have z : s.size = s.data.toList.length := size_in rfl
    cases h : s.data.toList with
    | nil =>
      refine Ev.step (f := fun _ => some (acc, 0)) (fun k => ?_) ?_
      · simp only [relstoreref_Unkey.l0]
        rw [if_pos (toList_nil.2 h)]
      · have : keys n [] = some ([] : List S38) := by cases n <;> rfl
        rw [this]
        simpa [said] using Ev.now (acc, (0 : Int))
    | cons x r =>
      rw [h] at z
      simp only [List.length_cons] at z
      obtain ⟨n, rfl⟩ : ∃ m, n = m + 1 := ⟨n - 1, by omega⟩
      have hb : bt s 0 = (x.toNat : Int) := bt_in (X := []) h
      have hfin := finK_is (n := n) (s := s) (acc := acc) (by omega) hn hc (by rw [h]; simp) (fun v r hr ha => by
        have := rUnkey_l0 n (acc ++ [v]) (toB r) (by rw [toB_size]; omega) (by omega) (by rw [toB_size, List.length_append]; simp only [List.length_cons, List.length_nil]; omega)
        rw [toB_data] at this
        exact this)
      rw [h] at hfin
      have start : ∀ o, Ev (fun k => if (x.toNat : Int) = 2 then (relstoreref_Unkey.j1 k s acc true 0 0 E0) else (relstoreref_Unkey.j1 k s acc ((x.toNat : Int) == 3) 0 0 E0)) o → Ev (fun k => relstoreref_Unkey.l0 k s acc) o := by
        intro o ho
        refine Ev.step (fun k => ?_) ho
        simp only [relstoreref_Unkey.l0]
        rw [if_neg (fun e => by have := toList_nil.1 e; rw [h] at this; cases this), show relstoreref_null.f = some (0, 0, E0) from rfl]
        simp only [Option.bind_some]
        rw [if_pos (by omega), hb]
      have flag : Ev (fun k => finK k s acc ⟨1, if ((x.toNat : Int) == 3) = true then 1 else 0, E0⟩) (said acc (keys (n + 1) (x :: r))) → Ev (fun k => relstoreref_Unkey.j1 k s acc true 0 0 E0) (said acc (keys (n + 1) (x :: r))) := by
        intro ho
        refine Ev.step (fun k => ?_) ho
        simp only [relstoreref_Unkey.j1]
        rw [if_pos trivial, if_pos (by omega), hb]
        cases (x.toNat : Int) == 3 <;> rfl
      by_cases c2 : x = 2
      · subst c2
        exact start _ (Ev.ite_true rfl (flag hfin))
      refine start _ (Ev.ite_false (fun e => c2 ((u8_is x 2 (by decide)).1 e)) ?_)
      by_cases c3 : x = 3
      · subst c3
        exact flag hfin
      rw [show ((x.toNat : Int) == 3) = false from beq_eq_false_iff_ne.2 (fun e => c3 ((u8_is x 3 (by decide)).1 e))]
      have next : ∀ o, Ev (fun k => if (x.toNat : Int) = 4 then (relstoreref_Unkey.j2 k s acc (decide ((s.size : Int) ≥ 9)) 0 0 E0) else (relstoreref_Unkey.j2 k s acc false 0 0 E0)) o → Ev (fun k => relstoreref_Unkey.j1 k s acc false 0 0 E0) o := by
        intro o ho
        refine Ev.step (fun k => ?_) ho
        simp only [relstoreref_Unkey.j1]
        rw [if_neg Bool.false_ne_true, if_pos (by omega), hb]
      have last : ∀ o, Ev (fun k => if (x.toNat : Int) = 5 then (relstoreref_Unkey.l1 k s acc E0 1) else finK k s acc ⟨0, 0, E0⟩) o → Ev (fun k => relstoreref_Unkey.j2 k s acc false 0 0 E0) o := by
        intro o ho
        refine Ev.step (fun k => ?_) ho
        simp only [relstoreref_Unkey.j2]
        rw [if_neg Bool.false_ne_true, if_pos (by omega), hb]
        rfl
      refine next _ ?_
      by_cases c4 : x = 4
      · subst c4
        refine Ev.ite_true rfl ?_
        by_cases h8 : 8 ≤ r.length
        · have e : cand (4 :: r) = ⟨2, kn (val8 (r.take 8) 0), E0⟩ := by
            simp only [cand]
            rw [if_neg (by decide), if_neg (by decide), if_pos ⟨trivial, h8⟩]
          rw [e] at hfin
          rw [decide_eq_true (show (s.size : Int) ≥ 9 by omega)]
          have hx : (s.extract 1 9).data.toList = r.take 8 := by
            rw [ByteArray.data_extract, Array.toList_extract, List.extract_eq_take_drop, h]
            rfl
          have hu := unbytes_is (s.extract 1 9) (by rw [size_in hx, List.length_take]; omega)
          rw [hx] at hu
          have hv := val8_lim (r.take 8) (by rw [List.length_take]; omega)
          have en : wrap64 (IntKind.u64.wrap (val8 (r.take 8) 0 - 9223372036854775808)) = kn (val8 (r.take 8) 0) := by
            unfold kn
            rw [IntKind.wrap_u64, IntKind.wrap_u64]
            congr 1
            omega
          refine Ev.step (f := fun k => (relstoreref_unbytes.f k (s.extract 1 9)).bind fun t => finK k s acc ⟨2, wrap64 (IntKind.u64.wrap (t - 9223372036854775808)), E0⟩) (fun k => ?_) (Ev.bind hu ?_)
          · simp only [relstoreref_Unkey.j2]
            rw [if_pos trivial, if_pos (by decide), if_pos (by omega)]
            rfl
          · rw [en]
            exact hfin
        · have e : cand (4 :: r) = ⟨0, 0, E0⟩ := by
            simp only [cand]
            rw [if_neg (by decide), if_neg (by decide), if_neg (fun e => h8 e.2), if_neg (by decide)]
          rw [e] at hfin
          rw [decide_eq_false (show ¬ (s.size : Int) ≥ 9 by omega)]
          exact last _ (Ev.ite_false (by decide) hfin)
      refine Ev.ite_false (fun e => c4 ((u8_is x 4 (by decide)).1 e)) (last _ ?_)
      by_cases c5 : x = 5
      · subst c5
        have e : cand (5 :: r) = ⟨3, 0, toB (refT r)⟩ := by
          simp only [cand]
          rw [if_neg (by decide), if_neg (by decide), if_neg (fun e => absurd e.1 (by decide)), if_pos trivial]
        rw [e] at hfin
        exact Ev.ite_true rfl (refT_l1 (by omega) r [5] [] h (Nat.zero_le _) hfin)
      · have e : cand (x :: r) = ⟨0, 0, E0⟩ := by
          simp only [cand]
          rw [if_neg c2, if_neg c3, if_neg (fun e => c4 e.1), if_neg c5]
        rw [e] at hfin
        exact Ev.ite_false (fun e => c5 ((u8_is x 5 (by decide)).1 e)) hfin
theorem rUnkey_is (s : ByteArray) (hs : s.size ≤ 1048576) : Ev (fun k => relstoreref_Unkey.f k s) (said [] (keys s.size s.data.toList)) := rUnkey_l0 s.size [] s (Nat.le_refl _) hs (by simp only [List.length_nil]; omega)
theorem keys_length : ∀ (n : Nat) (b : List UInt8) {l : List S38}, keys n b = some l → l.length ≤ n
  | n, [], l, h => by
    have : keys n [] = some ([] : List S38) := by cases n <;> rfl
    rw [this] at h
    cases h
    exact Nat.zero_le _
  | 0, x :: r, l, h => by cases h
  | n + 1, x :: r, l, h => by
    simp only [keys] at h
    obtain ⟨p, hp, h⟩ := Option.bind_eq_some_iff.1 h
    obtain ⟨q, hq, rfl⟩ := Option.map_eq_some_iff.1 h
    have := keys_length n p.2 hq
    simp only [List.length_cons]
    omega
theorem said_length (n : Nat) (b : List UInt8) : (said [] (keys n b)).1.length ≤ n := by
  cases h : keys n b with
  | none => exact Nat.zero_le _
  | some l => exact keys_length n b h
theorem ValueKeys (l : List S38) (s : ByteArray) (hl : l.length ≤ 1048576) (hx : ∀ v ∈ l, v.f2.size ≤ 1048576) (hs : s.size ≤ 1048576) : ∃ k, relstorelaw_ValueKeys.f k l s = some true := by
  refine Ev.rounds (r := true) ?_
  have hl' : l.length * 32 ≤ 140737488351232 := by omega
  have hU := said_length s.size s.data.toList
  unfold relstorelaw_ValueKeys.f
  refine Ev.bind (Unkey_is s hs) (Ev.bind (rUnkey_is s hs) (Ev.some_bind (lent_is hl') (Ev.ite_true (by omega) (Ev.ite_true (by rw [List.length_append]; omega) ?_))))
  rw [take_lent]
  refine Ev.bind (Key_is hl hx) (Ev.bind (rKey_is hl hx) (Ev.ite_true rfl (Ev.bind (back_lent hl') (Ev.ite_true rfl (Ev.bind (sames_self (by omega)) (Ev.ite_true rfl (Ev.some_bind rfl ?_)))))))
  have e : ((said [] (keys s.size s.data.toList)).2 != (said [] (keys s.size s.data.toList)).2) = false := by simp
  rw [e]
  refine Ev.step (f := fun k => (relstorelaw_spoil.f k (said [] (keys s.size s.data.toList)).1).bind fun _ => ((value_Unkey.f k s).bind fun bt328 => ((relstorelaw_sameValues.f k bt328.1 (said [] (keys s.size s.data.toList)).1).bind fun t332 => (some t332)))) (fun k => ?_) ?_
  · simp [relstorelaw_ValueKeys.j0]
  exact Ev.bind (spoil_is _ (by omega)) (Ev.bind (Unkey_is s hs) (Ev.bind (sames_self (by omega)) (Ev.now true)))
end Go.Proofs.YthaoaaboempajabDoor.Pure
