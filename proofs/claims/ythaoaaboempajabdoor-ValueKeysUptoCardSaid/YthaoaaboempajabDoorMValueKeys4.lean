/- Lines of the texts that the claim ValueKeys rests on, bundled: part 4; no conditions but those that each row names. -/
import Derived.Test.YthaoaaboempajabDoorMValueKeys3
namespace Go.Proofs.YthaoaaboempajabDoor.QValueKeys
open Go.RowKit Go.Proofs.YthaoaaboempajabDoorW.PrintWords Go.Proofs.YthaoaaboempajabDoorW.PrintLast Go.Proofs.YthaoaaboempajabDoorW.PrintMore Go.Proofs.YthaoaaboempajabDoorX
attribute [local go_sem] max2_int min2_int max_two min_two max_three min_three max_four min_four   -- for this text's walks alone
set_option linter.unusedVariables false
set_option linter.unusedSimpArgs false
mutual
def relstoreref_Unkey.l0 : Nat → ByteArray → List (S38) → Option ((List (S38)) × Int)
  | 0, _, _ => none
  | k + 1, x0, x4 => if x0.toList = ([] : List UInt8) then (some (x4, 0)) else ((relstoreref_null.f).bind fun bt191 => (if 0 < (x0.size : Int) then (if (bt x0 0) = 2 then (relstoreref_Unkey.j1 k x0 x4 true bt191.1 bt191.2.1 bt191.2.2) else (relstoreref_Unkey.j1 k x0 x4 ((bt x0 0) == 3) bt191.1 bt191.2.1 bt191.2.2)) else (none)))
def relstoreref_Unkey.j1 : Nat → ByteArray → List (S38) → Bool → Int → Int → ByteArray → Option ((List (S38)) × Int)
  | 0, _, _, _, _, _, _ => none
  | k + 1, x0, x4, x12, x195000, x195001, x195002 => if x12 = true then (if 0 < (x0.size : Int) then ((relstoreref_truth.f ((bt x0 0) == 3)).bind fun bt195 => ((relstoreref_Key.f k (([(⟨bt195.1, bt195.2.1, bt195.2.2⟩ : S38)] : List (S38)))).bind fun t201 => (if (t201.size : Int) > (x0.size : Int) then (some (([] : List (S38)), 4)) else (if 0 ≤ (t201.size : Int) then (if (t201.size : Int) ≤ (x0.size : Int) then (if (x0.extract 0 ((t201.size : Int) : Int).toNat).toList = t201.toList then (if x4.length < 4398046511104 then (relstoreref_Unkey.l0 k (x0.extract ((t201.size : Int) : Int).toNat x0.size) (x4 ++ [(⟨bt195.1, bt195.2.1, bt195.2.2⟩ : S38)])) else (none)) else (some (([] : List (S38)), 4))) else (none)) else (none))))) else (none)) else (if 0 < (x0.size : Int) then (if (bt x0 0) = 4 then (relstoreref_Unkey.j2 k x0 x4 (decide ((x0.size : Int) ≥ 9)) x195000 x195001 x195002) else (relstoreref_Unkey.j2 k x0 x4 false x195000 x195001 x195002)) else (none))
def relstoreref_Unkey.j2 : Nat → ByteArray → List (S38) → Bool → Int → Int → ByteArray → Option ((List (S38)) × Int)
  | 0, _, _, _, _, _, _ => none
  | k + 1, x0, x4, x25, x195000, x195001, x195002 => if x25 = true then (if 1 ≤ 9 then (if 9 ≤ (x0.size : Int) then ((relstoreref_unbytes.f k (x0.extract 1 9)).bind fun t205 => ((relstoreref_num.f (wrap64 (IntKind.u64.wrap (t205 - 9223372036854775808)))).bind fun bt206 => ((relstoreref_Key.f k (([(⟨bt206.1, bt206.2.1, bt206.2.2⟩ : S38)] : List (S38)))).bind fun t212 => (if (t212.size : Int) > (x0.size : Int) then (some (([] : List (S38)), 4)) else (if 0 ≤ (t212.size : Int) then (if (t212.size : Int) ≤ (x0.size : Int) then (if (x0.extract 0 ((t212.size : Int) : Int).toNat).toList = t212.toList then (if x4.length < 4398046511104 then (relstoreref_Unkey.l0 k (x0.extract ((t212.size : Int) : Int).toNat x0.size) (x4 ++ [(⟨bt206.1, bt206.2.1, bt206.2.2⟩ : S38)])) else (none)) else (some (([] : List (S38)), 4))) else (none)) else (none)))))) else (none)) else (none)) else (if 0 < (x0.size : Int) then (if (bt x0 0) = 5 then (relstoreref_Unkey.l1 k x0 x4 (⟨#[]⟩ : ByteArray) 1) else ((relstoreref_Key.f k (([(⟨x195000, x195001, x195002⟩ : S38)] : List (S38)))).bind fun t229 => (if (t229.size : Int) > (x0.size : Int) then (some (([] : List (S38)), 4)) else (if 0 ≤ (t229.size : Int) then (if (t229.size : Int) ≤ (x0.size : Int) then (if (x0.extract 0 ((t229.size : Int) : Int).toNat).toList = t229.toList then (if x4.length < 4398046511104 then (relstoreref_Unkey.l0 k (x0.extract ((t229.size : Int) : Int).toNat x0.size) (x4 ++ [(⟨x195000, x195001, x195002⟩ : S38)])) else (none)) else (some (([] : List (S38)), 4))) else (none)) else (none))))) else (none))
def relstoreref_Unkey.l1 : Nat → ByteArray → List (S38) → ByteArray → Int → Option ((List (S38)) × Int)
  | 0, _, _, _, _ => none
  | k + 1, x0, x4, x6, x7 => if (wrap64 (x7 + 1)) < (x0.size : Int) then (if 0 ≤ x7 then (if x7 < (x0.size : Int) then (if (bt x0 x7) = 0 then (if 0 ≤ (wrap64 (x7 + 1)) then (relstoreref_Unkey.j4 k x0 x4 x6 x7 (!((bt x0 (wrap64 (x7 + 1))) == 1))) else (none)) else (relstoreref_Unkey.j4 k x0 x4 x6 x7 (!false))) else (none)) else (none)) else (relstoreref_Unkey.j4 k x0 x4 x6 x7 false)
def relstoreref_Unkey.j4 : Nat → ByteArray → List (S38) → ByteArray → Int → Bool → Option ((List (S38)) × Int)
  | 0, _, _, _, _, _ => none
  | k + 1, x0, x4, x6, x7, x62 => if x62 = true then (if 0 ≤ x7 then (if x7 ≤ (wrap64 (x7 + 1)) then (if (wrap64 (x7 + 1)) ≤ (x0.size : Int) then (if x6.size + (x0.extract (x7 : Int).toNat ((wrap64 (x7 + 1)) : Int).toNat).size ≤ 9223372036854775807 then (if x7 < (x0.size : Int) then (if (bt x0 x7) = 0 then (relstoreref_Unkey.l1 k x0 x4 (x6 ++ (x0.extract (x7 : Int).toNat ((wrap64 (x7 + 1)) : Int).toNat)) (wrap64 ((wrap64 (x7 + 1)) + 1))) else (relstoreref_Unkey.l1 k x0 x4 (x6 ++ (x0.extract (x7 : Int).toNat ((wrap64 (x7 + 1)) : Int).toNat)) (wrap64 (x7 + 1)))) else (none)) else (none)) else (none)) else (none)) else (none)) else ((relstoreref_str.f x6).bind fun bt216 => ((relstoreref_Key.f k (([(⟨bt216.1, bt216.2.1, bt216.2.2⟩ : S38)] : List (S38)))).bind fun t222 => (if (t222.size : Int) > (x0.size : Int) then (some (([] : List (S38)), 4)) else (if 0 ≤ (t222.size : Int) then (if (t222.size : Int) ≤ (x0.size : Int) then (if (x0.extract 0 ((t222.size : Int) : Int).toNat).toList = t222.toList then (if x4.length < 4398046511104 then (relstoreref_Unkey.l0 k (x0.extract ((t222.size : Int) : Int).toNat x0.size) (x4 ++ [(⟨bt216.1, bt216.2.1, bt216.2.2⟩ : S38)])) else (none)) else (some (([] : List (S38)), 4))) else (none)) else (none)))))
end
def relstoreref_Unkey.f (k : Nat) (a0 : ByteArray) : Option ((List (S38)) × Int) := relstoreref_Unkey.l0 k a0 ([] : List (S38))
theorem relstoreref_Unkey.mono_l : ∀ k, (∀ y0 y1, LeO (relstoreref_Unkey.l0 k y0 y1) (relstoreref_Unkey.l0 (k + 1) y0 y1)) ∧ (∀ y0 y1 y2 y3 y4 y5, LeO (relstoreref_Unkey.j1 k y0 y1 y2 y3 y4 y5) (relstoreref_Unkey.j1 (k + 1) y0 y1 y2 y3 y4 y5)) ∧ (∀ y0 y1 y2 y3 y4 y5, LeO (relstoreref_Unkey.j2 k y0 y1 y2 y3 y4 y5) (relstoreref_Unkey.j2 (k + 1) y0 y1 y2 y3 y4 y5)) ∧ (∀ y0 y1 y2 y3, LeO (relstoreref_Unkey.l1 k y0 y1 y2 y3) (relstoreref_Unkey.l1 (k + 1) y0 y1 y2 y3)) ∧ (∀ y0 y1 y2 y3 y4, LeO (relstoreref_Unkey.j4 k y0 y1 y2 y3 y4) (relstoreref_Unkey.j4 (k + 1) y0 y1 y2 y3 y4))
  | 0 => ⟨fun _ _ r h => by simp [relstoreref_Unkey.l0] at h, fun _ _ _ _ _ _ r h => by simp [relstoreref_Unkey.j1] at h, fun _ _ _ _ _ _ r h => by simp [relstoreref_Unkey.j2] at h, fun _ _ _ _ r h => by simp [relstoreref_Unkey.l1] at h, fun _ _ _ _ _ r h => by simp [relstoreref_Unkey.j4] at h⟩
  | k + 1 => by
    obtain ⟨ih0, ih1, ih2, ih3, ih4⟩ := relstoreref_Unkey.mono_l k
    refine ⟨?_, ?_, ?_, ?_, ?_⟩
    · intro y0 y1
      unfold relstoreref_Unkey.l0
      repeat' first
      | (with_reducible exact ih0 _ _)
      | (with_reducible exact ih1 _ _ _ _ _ _)
      | (with_reducible exact ih2 _ _ _ _ _ _)
      | (with_reducible exact ih3 _ _ _ _)
      | (with_reducible exact ih4 _ _ _ _ _)
      | (with_reducible exact relstoreref_Key.mono _ _)
      | (with_reducible exact relstoreref_unbytes.mono _ _)
      | (with_reducible exact LeO.refl _)
      | (with_reducible exact LeO.none _)
      | (with_reducible refine LeO.ite ?_ ?_)
      | (with_reducible refine LeO.bind ?_ (fun _ => ?_))
      | exact ih0 _ _
      | exact ih1 _ _ _ _ _ _
      | exact ih2 _ _ _ _ _ _
      | exact ih3 _ _ _ _
      | exact ih4 _ _ _ _ _
      | exact relstoreref_Key.mono _ _
      | exact relstoreref_unbytes.mono _ _
      | exact LeO.none _
      | refine LeO.ite ?_ ?_
      | refine LeO.bind ?_ (fun _ => ?_)
    · intro y0 y1 y2 y3 y4 y5
      unfold relstoreref_Unkey.j1
      repeat' first
      | (with_reducible exact ih0 _ _)
      | (with_reducible exact ih1 _ _ _ _ _ _)
      | (with_reducible exact ih2 _ _ _ _ _ _)
      | (with_reducible exact ih3 _ _ _ _)
      | (with_reducible exact ih4 _ _ _ _ _)
      | (with_reducible exact relstoreref_Key.mono _ _)
      | (with_reducible exact relstoreref_unbytes.mono _ _)
      | (with_reducible exact LeO.refl _)
      | (with_reducible exact LeO.none _)
      | (with_reducible refine LeO.ite ?_ ?_)
      | (with_reducible refine LeO.bind ?_ (fun _ => ?_))
      | exact ih0 _ _
      | exact ih1 _ _ _ _ _ _
      | exact ih2 _ _ _ _ _ _
      | exact ih3 _ _ _ _
      | exact ih4 _ _ _ _ _
      | exact relstoreref_Key.mono _ _
      | exact relstoreref_unbytes.mono _ _
      | exact LeO.none _
      | refine LeO.ite ?_ ?_
      | refine LeO.bind ?_ (fun _ => ?_)
    · intro y0 y1 y2 y3 y4 y5
      unfold relstoreref_Unkey.j2
      repeat' first
      | (with_reducible exact ih0 _ _)
      | (with_reducible exact ih1 _ _ _ _ _ _)
      | (with_reducible exact ih2 _ _ _ _ _ _)
      | (with_reducible exact ih3 _ _ _ _)
      | (with_reducible exact ih4 _ _ _ _ _)
      | (with_reducible exact relstoreref_Key.mono _ _)
      | (with_reducible exact relstoreref_unbytes.mono _ _)
      | (with_reducible exact LeO.refl _)
      | (with_reducible exact LeO.none _)
      | (with_reducible refine LeO.ite ?_ ?_)
      | (with_reducible refine LeO.bind ?_ (fun _ => ?_))
      | exact ih0 _ _
      | exact ih1 _ _ _ _ _ _
      | exact ih2 _ _ _ _ _ _
      | exact ih3 _ _ _ _
      | exact ih4 _ _ _ _ _
      | exact relstoreref_Key.mono _ _
      | exact relstoreref_unbytes.mono _ _
      | exact LeO.none _
      | refine LeO.ite ?_ ?_
      | refine LeO.bind ?_ (fun _ => ?_)
    · intro y0 y1 y2 y3
      unfold relstoreref_Unkey.l1
      repeat' first
      | (with_reducible exact ih0 _ _)
      | (with_reducible exact ih1 _ _ _ _ _ _)
      | (with_reducible exact ih2 _ _ _ _ _ _)
      | (with_reducible exact ih3 _ _ _ _)
      | (with_reducible exact ih4 _ _ _ _ _)
      | (with_reducible exact relstoreref_Key.mono _ _)
      | (with_reducible exact relstoreref_unbytes.mono _ _)
      | (with_reducible exact LeO.refl _)
      | (with_reducible exact LeO.none _)
      | (with_reducible refine LeO.ite ?_ ?_)
      | (with_reducible refine LeO.bind ?_ (fun _ => ?_))
      | exact ih0 _ _
      | exact ih1 _ _ _ _ _ _
      | exact ih2 _ _ _ _ _ _
      | exact ih3 _ _ _ _
      | exact ih4 _ _ _ _ _
      | exact relstoreref_Key.mono _ _
      | exact relstoreref_unbytes.mono _ _
      | exact LeO.none _
      | refine LeO.ite ?_ ?_
      | refine LeO.bind ?_ (fun _ => ?_)
    · intro y0 y1 y2 y3 y4
      unfold relstoreref_Unkey.j4
      repeat' first
      | (with_reducible exact ih0 _ _)
      | (with_reducible exact ih1 _ _ _ _ _ _)
      | (with_reducible exact ih2 _ _ _ _ _ _)
      | (with_reducible exact ih3 _ _ _ _)
      | (with_reducible exact ih4 _ _ _ _ _)
      | (with_reducible exact relstoreref_Key.mono _ _)
      | (with_reducible exact relstoreref_unbytes.mono _ _)
      | (with_reducible exact LeO.refl _)
      | (with_reducible exact LeO.none _)
      | (with_reducible refine LeO.ite ?_ ?_)
      | (with_reducible refine LeO.bind ?_ (fun _ => ?_))
      | exact ih0 _ _
      | exact ih1 _ _ _ _ _ _
      | exact ih2 _ _ _ _ _ _
      | exact ih3 _ _ _ _
      | exact ih4 _ _ _ _ _
      | exact relstoreref_Key.mono _ _
      | exact relstoreref_unbytes.mono _ _
      | exact LeO.none _
      | refine LeO.ite ?_ ?_
      | refine LeO.bind ?_ (fun _ => ?_)
theorem relstoreref_Unkey.mono : ∀ a0 k, LeO (relstoreref_Unkey.f k a0) (relstoreref_Unkey.f (k + 1) a0) := by
  intro a0 k
  obtain ⟨ih0, ih1, ih2, ih3, ih4⟩ := relstoreref_Unkey.mono_l k
  unfold relstoreref_Unkey.f
  repeat' first
      | (with_reducible exact ih0 _ _)
      | (with_reducible exact ih1 _ _ _ _ _ _)
      | (with_reducible exact ih2 _ _ _ _ _ _)
      | (with_reducible exact ih3 _ _ _ _)
      | (with_reducible exact ih4 _ _ _ _ _)
      | (with_reducible exact relstoreref_Key.mono _ _)
      | (with_reducible exact relstoreref_unbytes.mono _ _)
      | (with_reducible exact LeO.refl _)
      | (with_reducible exact LeO.none _)
      | (with_reducible refine LeO.ite ?_ ?_)
      | (with_reducible refine LeO.bind ?_ (fun _ => ?_))
      | exact ih0 _ _
      | exact ih1 _ _ _ _ _ _
      | exact ih2 _ _ _ _ _ _
      | exact ih3 _ _ _ _
      | exact ih4 _ _ _ _ _
      | exact relstoreref_Key.mono _ _
      | exact relstoreref_unbytes.mono _ _
      | exact LeO.none _
      | refine LeO.ite ?_ ?_
      | refine LeO.bind ?_ (fun _ => ?_)
set_option maxHeartbeats 8000000 in
set_option maxRecDepth 100000 in
theorem relstoreref_Unkey.calls (k : Nat) (a0 : ByteArray) (r1 : List (S38)) (r2 : Int) (w : World) (h : relstoreref_Unkey.f k a0 = some (r1, r2)) :
    Calls Tryd.prog 7 #[.string a0] w fun e w' => ∃ v0_ : Value, e = .returned (.tuple #[v0_, .int .i64 r2]) ∧ Kd.R k38 38 w' w.heap.size (fun _ => True) v0_ r1 ∧ Below w.heap.size w w' := by
  have hu38 := Tryd.underlying38
  have HB := Aside0.mk (Below.refl w.heap.size w)
  have H : (relstoreref_Unkey.l0 k a0 ([] : List (S38))) = some (r1, r2) := h
  clear h
  have H' := Aside0.mk H
  clear H
  go_enter Tryd.func7, Tryd.ntmps7
  go_wp2
  go_loopg [0, 4] k (fun kq v0 v4 w' => ∃ (x0_1 : ByteArray) (x4_1 : List (S38)), v0 = .string x0_1 ∧ Aside0 (relstoreref_Unkey.l0 kq x0_1 x4_1 = some (r1, r2)) ∧ Aside0 (kq ≤ k) ∧ Aside0 (Kd.R k38 38 w' w.heap.size (fun _ => True) v4 x4_1) ∧ Aside0 (Below w.heap.size w w'))
  case atStart => exact ⟨(a0), (([] : List (S38))), (by first | rfl | (simp; done) | (simp [*]; done) | exact bq1 _ _ | exact bq2 _ _ | exact congrArg Value.bool (bq2 _ _) | exact congrArg Value.bool (bq1 _ _) | exact congrArg Value.bool (bq1' _ _) | exact bq1' _ _ | exact congrArg Value.bool (bq2' _ _) | exact bq2' _ _), H', ⟨Nat.le_refl _⟩, ⟨by first | exact Kd.R_nil _ _ _ _ _ | exact Kd.N_nil _ _ _ _ _ | exact Kd.V_nil _ _ _ _ _ | exact Kd.Q_nil _ _ _ _ _ | exact Kd.S_nil _ _ _ _ _⟩, ⟨by repeat (first | (with_reducible first | exact HB.out | apply below_alloc | apply pw_below_drewN | apply below_drew1) | exact HB.out)⟩⟩
  case round =>
    clear H'
    try clear q1
    obtain ⟨x0_1, x4_1, rfl, HA, HK1, HO_4, HB⟩ := hrel
    cases gk with
    | zero => exact absurd HA.out (by simp [relstoreref_Unkey.l0])
    | succ k1 =>
      have H := HA.out
      clear HA
      simp only [relstoreref_Unkey.l0] at H
      by_cases c2 : x0_1.toList = ([] : List UInt8)
      · rw [if_pos c2] at H
        have c2b0 : (x0_1.toList == ([] : List UInt8)) = true := beq_iff_eq.mpr c2
        have c2b1 : (x0_1.toList != ([] : List UInt8)) = false := bne_eq_false_iff_eq.mpr c2
        clear c2
        simp only [Option.some.injEq, Prod.mk.injEq] at H
        obtain ⟨rfl, rfl⟩ := H
        go_wp2
        go_ret2
        exact ⟨_, by first | rfl | (simp [errW_none, errW_some] <;> rfl) | (simp [*, errW_none, errW_some] <;> rfl), by (with_reducible repeat (first | apply Kd.R_alloc | apply Kd.R_drewN | apply Kd.R_drew)); exact HO_4.out, by repeat (first | (with_reducible first | exact HB.out | apply below_alloc | apply pw_below_drewN | apply below_drew1) | exact HB.out)⟩
      · rw [if_neg c2] at H
        have c2b0 : (x0_1.toList == ([] : List UInt8)) = false := beq_eq_false_iff_ne.mpr c2
        have c2b1 : (x0_1.toList != ([] : List UInt8)) = true := bne_iff_ne.mpr c2
        replace H := Option.bind_eq_some_iff.mp H
        obtain ⟨⟨t191, t192, t193⟩, A30, H⟩ := H
        replace H : (if 0 < (x0_1.size : Int) then (if (bt x0_1 0) = 2 then (relstoreref_Unkey.j1 k1 x0_1 x4_1 true t191 t192 t193) else (relstoreref_Unkey.j1 k1 x0_1 x4_1 ((bt x0_1 0) == 3) t191 t192 t193)) else (none)) = some (r1, r2) := H
        have A3 := Aside0.mk A30
        clear A30
        have HC4 := Aside0.mk H
        clear H
        go_upto_region 4 with (first | ((with_reducible refine gate_callee (f := 32) rfl ?_); refine goesL_ (some 11) rfl rfl Tryd.func32 (by kernel_rfl) rfl #[] rfl (by (try simp only [List.map_toArray, List.map_cons, List.map_nil]); first | done | rfl | (simp only [List.length_drop, List.length_take]; rfl) | (simp only [Int.ofNat_lt, Int.ofNat_le]; done) | (simp only [Int.ofNat_lt, Int.ofNat_le]; rfl) | (simp only [ByteArray.size_append, Int.natCast_add]; rfl)) ?_; (with_reducible refine (relstoreref_null.calls  t191 t192 t193 _ A3.out).mono ?_); rintro e w5 ⟨rfl, hb⟩; refine ⟨_, rfl, ?_⟩; have n0_ := Aside0.mk (Kd.R_below (by (with_reducible repeat (first | apply Kd.R_alloc | apply Kd.R_drewN | apply Kd.R_drew)); exact HO_4.out) hb); have n1_ := Aside0.mk (below_step (by repeat (first | (with_reducible first | exact HB.out | apply below_alloc | apply pw_below_drewN | apply below_drew1) | exact HB.out)) hb); clear HO_4; clear HB; have HO_4 := n0_; have HB := n1_; clear n0_ n1_; (try clear hb); (try clear hb2); (try clear hk); (try clear hi)) | ((with_reducible refine gate_dst (N := 5) rfl ?_); (try (refine gate_guard (by rfl) ?_; dsimp only)); refine box_event ?hg (N := 5) ?hd (cs := #[.int .i64 0, .int .i64 0, .string (⟨#[]⟩ : ByteArray)]) (t := 38) ?hr ?_; (case hd => rfl); (case hg => rfl); (case hr => first | (go_simp; done) | (go_simp; rfl)); intro gb194 hg w6 hbox hb; have n0_ := Aside0.mk (Kd.R_below (Kd.R_elderB (by (with_reducible repeat (first | apply Kd.R_alloc | apply Kd.R_drewN | apply Kd.R_drew)); exact HO_4.out) gb194 (Nat.le_of_eq hg.symm)) hb); have n1_ := Aside0.mk (below_step (by repeat (first | (with_reducible first | exact HB.out | apply below_alloc | apply pw_below_drewN | apply below_drew1) | exact HB.out)) hb); have n2_ := Aside0.mk (hbox); have n3_ := Aside0.mk ((by rw [hg]; exact (below_size (by repeat (first | (with_reducible first | exact HB.out | apply below_alloc | apply pw_below_drewN | apply below_drew1) | exact HB.out))) : w.heap.size ≤ gb194)); have n4_ := Aside0.mk ((by rw [hg]; exact (below_size (by repeat (first | (with_reducible first | exact HB.out | apply below_alloc | apply pw_below_drewN | apply below_drew1) | exact HB.out))) : w.heap.size ≤ gb194)); clear HO_4; clear HB; have HO_4 := n0_; have HB := n1_; have BK194 := n2_; have GW194 := n3_; have GE194 := n4_; clear n0_ n1_ n2_ n3_ n4_; clear hb hbox hg; have hcz7_0 : w6.cell? ⟨gb194, 0, none⟩ = some (.int .i64 0) := (blk_cell BK194.out 0).trans rfl; have hcz7_1 : w6.cell? ⟨gb194, 1, none⟩ = some (.int .i64 0) := (blk_cell BK194.out 1).trans rfl; have hcz7_2 : w6.cell? ⟨gb194, 2, none⟩ = some (.string (⟨#[]⟩ : ByteArray)) := (blk_cell BK194.out 2).trans rfl; have hfz7_0 := blk_frozen BK194.out 0; have hfz7_1 := blk_frozen BK194.out 1; have hfz7_2 := blk_frozen BK194.out 2))
        (try simp only [Act.put, List.setIfInBounds_toArray, List.set_cons_zero, List.set_cons_succ])
        go_cut [12] (fun v12 wc => ∃ (kq : Nat) (x12_3 : Bool), v12 = .bool x12_3 ∧ Aside0 (relstoreref_Unkey.j1 kq x0_1 x4_1 x12_3 t191 t192 t193 = some (r1, r2)) ∧ Aside0 (kq ≤ k1) ∧ Aside0 (Kd.R k38 38 wc w.heap.size (fun k_ => k_ ≠ gb194) u4 x4_1) ∧ Aside0 (wc.heap[gb194]? = some (.cells #[.int .i64 t191, .int .i64 t192, .string t193] 38 (0, 0))) ∧ Aside0 (Below w.heap.size w wc))
        case first =>
          have H := HC4.out
          clear HC4
          by_cases c8 : 0 < (x0_1.size : Int)
          · rw [if_pos c8] at H
            have c8b0 : decide (0 < (x0_1.size : Int)) = true := decide_eq_true c8
            have c8b1 : decide (0 < x0_1.size) = true := decide_eq_true (by omega)
            clear c8
            (first | rw [c8b0] | (simp only [i64_w, i32_w]; rw [c8b0]) | skip)
            by_cases c10 : (bt x0_1 0) = 2
            · rw [if_pos c10] at H
              have c10b0 : ((bt x0_1 0) == 2) = true := beq_iff_eq.mpr c10
              have c10b1 : ((bt x0_1 0) != 2) = false := bne_eq_false_iff_eq.mpr c10
              clear c10
              have H' := Aside0.mk H
              clear H
              have p9 : 0 ≤ (0 : Int) := (by omega)
              have q9 : 0 < x0_1.size := (by have : (0 : Int) < (x0_1.size : Int) := of_decide_eq_true (by first | (with_reducible assumption) | assumption); omega)
              have hx9 : ∀ h : 0 < x0_1.size, ((x0_1[0]'h).toNat : Int) = bt x0_1 0 := bt_at x0_1 0
              clear p9
              have qi9 : (0 < (x0_1.size : Int)) = True := eq_true (of_decide_eq_true (by first | (with_reducible assumption) | assumption))
              replace q9 := eq_true q9
              go_wp2
              go_meet
              case rel => exact ⟨_, (true), (by first | rfl | (simp; done) | (simp [*]; done) | exact bq1 _ _ | exact bq2 _ _ | exact congrArg Value.bool (bq2 _ _) | exact congrArg Value.bool (bq1 _ _) | exact congrArg Value.bool (bq1' _ _) | exact bq1' _ _ | exact congrArg Value.bool (bq2' _ _) | exact bq2' _ _), H', ⟨by have := HK1.out; first | omega | exact Nat.le_refl _⟩, ⟨by (with_reducible repeat (first | apply Kd.R_alloc | apply Kd.R_drewN | apply Kd.R_drew)); exact Kd.R_mono (Kd.R_far (p := ⟨gb194, 2, none⟩) (Kd.R_far (p := ⟨gb194, 1, none⟩) (Kd.R_far (p := ⟨gb194, 0, none⟩) (Kd.R_mono HO_4.out (fun k_ hk => (⟨hk, hk.2⟩ : _ ∧ k_ ≠ gb194))) (fun _ hk => hk.2) (.int .i64 t191)) (fun _ hk => hk.2) (.int .i64 t192)) (fun _ hk => hk.2) (.string t193)) (fun _ hk => hk.1.2)⟩, ⟨by (with_reducible repeat (first | refine blk_drewN ?_ _ | refine blk_drew ?_ | refine blk_alloc ?_ _)); refine blk_put (cs := #[.int .i64 t191, .int .i64 t192, .string (⟨#[]⟩ : ByteArray)]) ?_ 2 _ rfl; (with_reducible repeat (first | refine blk_drewN ?_ _ | refine blk_drew ?_ | refine blk_alloc ?_ _)); refine blk_put (cs := #[.int .i64 t191, .int .i64 0, .string (⟨#[]⟩ : ByteArray)]) ?_ 1 _ rfl; (with_reducible repeat (first | refine blk_drewN ?_ _ | refine blk_drew ?_ | refine blk_alloc ?_ _)); refine blk_put (cs := #[.int .i64 0, .int .i64 0, .string (⟨#[]⟩ : ByteArray)]) ?_ 0 _ rfl; (with_reducible repeat (first | refine blk_drewN ?_ _ | refine blk_drew ?_ | refine blk_alloc ?_ _)); exact BK194.out⟩, ⟨by repeat (first | (with_reducible first | exact HB.out | apply below_alloc | apply pw_below_drewN | apply below_drew1 | refine below_set ?_ GE194.out) | exact HB.out)⟩⟩
            · rw [if_neg c10] at H
              have c10b0 : ((bt x0_1 0) == 2) = false := beq_eq_false_iff_ne.mpr c10
              have c10b1 : ((bt x0_1 0) != 2) = true := bne_iff_ne.mpr c10
              have H' := Aside0.mk H
              clear H
              have p9 : 0 ≤ (0 : Int) := (by omega)
              have q9 : 0 < x0_1.size := (by have : (0 : Int) < (x0_1.size : Int) := of_decide_eq_true (by first | (with_reducible assumption) | assumption); omega)
              have hx9 : ∀ h : 0 < x0_1.size, ((x0_1[0]'h).toNat : Int) = bt x0_1 0 := bt_at x0_1 0
              clear p9
              have qi9 : (0 < (x0_1.size : Int)) = True := eq_true (of_decide_eq_true (by first | (with_reducible assumption) | assumption))
              replace q9 := eq_true q9
              have p11 : 0 ≤ (0 : Int) := (by omega)
              have q11 : 0 < x0_1.size := (by have : (0 : Int) < (x0_1.size : Int) := of_decide_eq_true (by first | (with_reducible assumption) | assumption); omega)
              have hx11 : ∀ h : 0 < x0_1.size, ((x0_1[0]'h).toNat : Int) = bt x0_1 0 := bt_at x0_1 0
              clear p11
              have qi11 : (0 < (x0_1.size : Int)) = True := eq_true (of_decide_eq_true (by first | (with_reducible assumption) | assumption))
              replace q11 := eq_true q11
              go_wp2
              go_meet
              case rel => exact ⟨_, (((bt x0_1 0) == 3)), (by first | rfl | (simp; done) | (simp [*]; done) | exact bq1 _ _ | exact bq2 _ _ | exact congrArg Value.bool (bq2 _ _) | exact congrArg Value.bool (bq1 _ _) | exact congrArg Value.bool (bq1' _ _) | exact bq1' _ _ | exact congrArg Value.bool (bq2' _ _) | exact bq2' _ _), H', ⟨by have := HK1.out; first | omega | exact Nat.le_refl _⟩, ⟨by (with_reducible repeat (first | apply Kd.R_alloc | apply Kd.R_drewN | apply Kd.R_drew)); exact Kd.R_mono (Kd.R_far (p := ⟨gb194, 2, none⟩) (Kd.R_far (p := ⟨gb194, 1, none⟩) (Kd.R_far (p := ⟨gb194, 0, none⟩) (Kd.R_mono HO_4.out (fun k_ hk => (⟨hk, hk.2⟩ : _ ∧ k_ ≠ gb194))) (fun _ hk => hk.2) (.int .i64 t191)) (fun _ hk => hk.2) (.int .i64 t192)) (fun _ hk => hk.2) (.string t193)) (fun _ hk => hk.1.2)⟩, ⟨by (with_reducible repeat (first | refine blk_drewN ?_ _ | refine blk_drew ?_ | refine blk_alloc ?_ _)); refine blk_put (cs := #[.int .i64 t191, .int .i64 t192, .string (⟨#[]⟩ : ByteArray)]) ?_ 2 _ rfl; (with_reducible repeat (first | refine blk_drewN ?_ _ | refine blk_drew ?_ | refine blk_alloc ?_ _)); refine blk_put (cs := #[.int .i64 t191, .int .i64 0, .string (⟨#[]⟩ : ByteArray)]) ?_ 1 _ rfl; (with_reducible repeat (first | refine blk_drewN ?_ _ | refine blk_drew ?_ | refine blk_alloc ?_ _)); refine blk_put (cs := #[.int .i64 0, .int .i64 0, .string (⟨#[]⟩ : ByteArray)]) ?_ 0 _ rfl; (with_reducible repeat (first | refine blk_drewN ?_ _ | refine blk_drew ?_ | refine blk_alloc ?_ _)); exact BK194.out⟩, ⟨by repeat (first | (with_reducible first | exact HB.out | apply below_alloc | apply pw_below_drewN | apply below_drew1 | refine below_set ?_ GE194.out) | exact HB.out)⟩⟩
          · rw [if_neg c8] at H
            exact absurd H (by simp)
        case rest =>
          clear HC4
          try clear c1
          try clear p1
          try clear q1
          try clear hx1
          try clear qi1
          try clear c2
          try clear c2b0
          try clear c2b1
          try clear p2
          try clear q2
          try clear c3
          try clear c7
          try clear c8
          try clear c8b0
          try clear c8b1
          try clear p9
          try clear q9
          try clear hx9
          try clear qi9
          try clear c10
          try clear c10b0
          try clear c10b1
          try clear p11
          try clear q11
          try clear hx11
          try clear qi11
          try clear hcz7_0
          try clear hcz7_1
          try clear hcz7_2
          try clear hfz7_0
          try clear hfz7_1
          try clear hfz7_2
          try clear p11
          try clear p9
          try clear q1
          try clear q11
          try clear q9
          obtain ⟨kq, x12_3, rfl, HA, HJ3, HO_4, BK194, HB⟩ := hcut
          cases kq with
          | zero => exact absurd HA.out (by simp [relstoreref_Unkey.j1])
          | succ kj3 =>
            have H := HA.out
            clear HA
            simp only [relstoreref_Unkey.j1] at H
            by_cases c12 : x12_3 = true
            · subst c12
              have H1 : (if 0 < (x0_1.size : Int) then ((relstoreref_truth.f ((bt x0_1 0) == 3)).bind fun bt195 => ((relstoreref_Key.f kj3 (([(⟨bt195.1, bt195.2.1, bt195.2.2⟩ : S38)] : List (S38)))).bind fun t201 => (if (t201.size : Int) > (x0_1.size : Int) then (some (([] : List (S38)), 4)) else (if 0 ≤ (t201.size : Int) then (if (t201.size : Int) ≤ (x0_1.size : Int) then (if (x0_1.extract 0 ((t201.size : Int) : Int).toNat).toList = t201.toList then (if x4_1.length < 4398046511104 then (relstoreref_Unkey.l0 kj3 (x0_1.extract ((t201.size : Int) : Int).toNat x0_1.size) (x4_1 ++ [(⟨bt195.1, bt195.2.1, bt195.2.2⟩ : S38)])) else (none)) else (some (([] : List (S38)), 4))) else (none)) else (none))))) else (none)) = some (r1, r2) := by rw [if_pos rfl] at H; exact H
              clear H
              have H := H1
              clear H1
              by_cases c13 : 0 < (x0_1.size : Int)
              · rw [if_pos c13] at H
                have c13b0 : decide (0 < (x0_1.size : Int)) = true := decide_eq_true c13
                have c13b1 : decide (0 < x0_1.size) = true := decide_eq_true (by omega)
                clear c13
                replace H := Option.bind_eq_some_iff.mp H
                obtain ⟨⟨t195, t196, t197⟩, A150, H⟩ := H
                replace H : ((relstoreref_Key.f kj3 (([(⟨t195, t196, t197⟩ : S38)] : List (S38)))).bind fun t201 => (if (t201.size : Int) > (x0_1.size : Int) then (some (([] : List (S38)), 4)) else (if 0 ≤ (t201.size : Int) then (if (t201.size : Int) ≤ (x0_1.size : Int) then (if (x0_1.extract 0 ((t201.size : Int) : Int).toNat).toList = t201.toList then (if x4_1.length < 4398046511104 then (relstoreref_Unkey.l0 kj3 (x0_1.extract ((t201.size : Int) : Int).toNat x0_1.size) (x4_1 ++ [(⟨t195, t196, t197⟩ : S38)])) else (none)) else (some (([] : List (S38)), 4))) else (none)) else (none)))) = some (r1, r2) := H
                have A15 := Aside0.mk A150
                clear A150
                obtain ⟨y198, hy198⟩ : ∃ y_ : List (S38), y_ = (([(⟨t195, t196, t197⟩ : S38)] : List (S38))) := ⟨_, rfl⟩
                replace H : ((relstoreref_Key.f kj3 y198).bind fun t201 => (if (t201.size : Int) > (x0_1.size : Int) then (some (([] : List (S38)), 4)) else (if 0 ≤ (t201.size : Int) then (if (t201.size : Int) ≤ (x0_1.size : Int) then (if (x0_1.extract 0 ((t201.size : Int) : Int).toNat).toList = t201.toList then (if x4_1.length < 4398046511104 then (relstoreref_Unkey.l0 kj3 (x0_1.extract ((t201.size : Int) : Int).toNat x0_1.size) (x4_1 ++ [(⟨t195, t196, t197⟩ : S38)])) else (none)) else (some (([] : List (S38)), 4))) else (none)) else (none)))) = some (r1, r2) := by first | (rw [hy198]; with_reducible exact H) | (have H2_ := (Option.bind_some _ _).symm.trans H; rw [hy198]; with_reducible exact H2_) | (have H2_ := (Option.bind_some _ _).symm.trans H; with_reducible exact H2_) | with_reducible exact H | (rw [hy198]; exact H) | exact H
                have Ny198 := Aside0.mk hy198
                clear hy198
                replace H := Option.bind_eq_some_iff.mp H
                obtain ⟨t201, A160, H⟩ := H
                replace H : (if (t201.size : Int) > (x0_1.size : Int) then (some (([] : List (S38)), 4)) else (if 0 ≤ (t201.size : Int) then (if (t201.size : Int) ≤ (x0_1.size : Int) then (if (x0_1.extract 0 ((t201.size : Int) : Int).toNat).toList = t201.toList then (if x4_1.length < 4398046511104 then (relstoreref_Unkey.l0 kj3 (x0_1.extract ((t201.size : Int) : Int).toNat x0_1.size) (x4_1 ++ [(⟨t195, t196, t197⟩ : S38)])) else (none)) else (some (([] : List (S38)), 4))) else (none)) else (none))) = some (r1, r2) := H
                have A16 := Aside0.mk A160
                clear A160
                by_cases c17 : (t201.size : Int) > (x0_1.size : Int)
                · rw [if_pos c17] at H
                  have c17b0 : decide ((x0_1.size : Int) < (t201.size : Int)) = true := decide_eq_true c17
                  have c17b1 : decide (x0_1.size < t201.size) = true := decide_eq_true (Int.ofNat_lt.mp c17)
                  clear c17
                  simp only [Option.some.injEq, Prod.mk.injEq] at H
                  obtain ⟨rfl, rfl⟩ := H
                  have p14 : 0 ≤ (0 : Int) := (by omega)
                  have q14 : 0 < x0_1.size := (by have : (0 : Int) < (x0_1.size : Int) := of_decide_eq_true (by first | (with_reducible assumption) | assumption); omega)
                  have hx14 : ∀ h : 0 < x0_1.size, ((x0_1[0]'h).toNat : Int) = bt x0_1 0 := bt_at x0_1 0
                  clear p14
                  have qi14 : (0 < (x0_1.size : Int)) = True := eq_true (of_decide_eq_true (by first | (with_reducible assumption) | assumption))
                  replace q14 := eq_true q14
                  go_wp2_with (first | ((with_reducible refine gate_callee (f := 33) rfl ?_); refine goesL_ (some 24) rfl rfl Tryd.func33 (by kernel_rfl) rfl #[.bool ((bt x0_1 0) == 3)] rfl (by (try simp only [List.map_toArray, List.map_cons, List.map_nil]); first | done | rfl | (simp only [List.length_drop, List.length_take]; rfl) | (simp only [Int.ofNat_lt, Int.ofNat_le]; done) | (simp only [Int.ofNat_lt, Int.ofNat_le]; rfl) | (simp only [ByteArray.size_append, Int.natCast_add]; rfl)) ?_; (with_reducible refine (relstoreref_truth.calls ((bt x0_1 0) == 3) t195 t196 t197 _ A15.out).mono ?_); rintro e w18 ⟨rfl, hb⟩; refine ⟨_, rfl, ?_⟩; have n0_ := Aside0.mk (Kd.R_below (by (with_reducible repeat (first | apply Kd.R_alloc | apply Kd.R_drewN | apply Kd.R_drew)); exact HO_4.out) hb); have n1_ := Aside0.mk (blk_below (g := gb194) (o := .cells #[.int .i64 t191, .int .i64 t192, .string t193] 38 (0, 0)) (by (with_reducible repeat (first | refine blk_drewN ?_ _ | refine blk_drew ?_ | refine blk_alloc ?_ _)); exact BK194.out) hb); have n2_ := Aside0.mk (below_step (by repeat (first | (with_reducible first | exact HB.out | apply below_alloc | apply pw_below_drewN | apply below_drew1 | refine below_set ?_ GE194.out) | exact HB.out)) hb); clear HO_4; clear BK194; clear HB; have HO_4 := n0_; have BK194 := n1_; have HB := n2_; clear n0_ n1_ n2_; (try clear hb); (try clear hb2); (try clear hk); (try clear hi); have hcz19_0 : w18.cell? ⟨gb194, 0, none⟩ = some (.int .i64 t191) := (blk_cell BK194.out 0).trans rfl; have hcz19_1 : w18.cell? ⟨gb194, 1, none⟩ = some (.int .i64 t192) := (blk_cell BK194.out 1).trans rfl; have hcz19_2 : w18.cell? ⟨gb194, 2, none⟩ = some (.string t193) := (blk_cell BK194.out 2).trans rfl; have hfz19_0 := blk_frozen BK194.out 0; have hfz19_1 := blk_frozen BK194.out 1; have hfz19_2 := blk_frozen BK194.out 2) | ((with_reducible refine gate_dst (N := 81) rfl ?_); (try (refine gate_guard (by rfl) ?_; dsimp only)); refine Kd.R_lit k38 _ 38 ?hg (N := 81) ?hd (xs := ([(⟨t195, t196, t197⟩ : S38)] : List (S38))) (inner := [.int .i64 t195, .int .i64 t196, .string t197]) (ok := fun _ => True) (okp := fun _ => True) ?hr ?hp (fun _ hk => hk) trivial (Below.refl _ _) (Nat.le_refl _) (by simp) ?_; (case hd => rfl); (case hg => rfl); (case hr => first | (go_simp; done) | (go_simp; rfl)); (case hp => exact (Reps.c3 (show Kd.M k38 _ _ _ (⟨t195, t196, t197⟩ : S38) [.int .i64 t195, .int .i64 t196, .string t197] from (k38_mkM _ _ _ (⟨t195, t196, t197⟩ : S38) )) (Reps.none _ _))); intro v199 w20 ho21 hb hg_ hnew_; clear hg_ hnew_; (first | rw [← Ny198.out] at ho21 | (simp only [Int.reduceToNat] at ho21; rw [← Ny198.out] at ho21)); have n0_ := Aside0.mk (Kd.R_elder' (by (with_reducible repeat (first | apply Kd.R_alloc | apply Kd.R_drewN | apply Kd.R_drew)); exact (Kd.R_mono (Kd.R_far (p := ⟨gb194, 2, none⟩) (Kd.R_far (p := ⟨gb194, 1, none⟩) (Kd.R_far (p := ⟨gb194, 0, none⟩) (Kd.R_mono HO_4.out (fun k_ hk => (⟨hk, hk⟩ : _ ∧ k_ ≠ gb194))) (fun _ hk => hk.2) (.int .i64 t195)) (fun _ hk => hk.2) (.int .i64 t196)) (fun _ hk => hk.2) (.string t197)) (fun _ h_ => h_.1))) (Kd.R_base ho21) hb); have n1_ := Aside0.mk (Kd.R_lower (Kd.R_newB (Kd.R_new' ho21 (Kd.R_lt (by (with_reducible repeat (first | apply Kd.R_alloc | apply Kd.R_drewN | apply Kd.R_drew)); exact (Kd.R_mono (Kd.R_far (p := ⟨gb194, 2, none⟩) (Kd.R_far (p := ⟨gb194, 1, none⟩) (Kd.R_far (p := ⟨gb194, 0, none⟩) (Kd.R_mono HO_4.out (fun k_ hk => (⟨hk, hk⟩ : _ ∧ k_ ≠ gb194))) (fun _ hk => hk.2) (.int .i64 t195)) (fun _ hk => hk.2) (.int .i64 t196)) (fun _ hk => hk.2) (.string t197)) (fun _ h_ => h_.1))))) (g := gb194) (o := .cells #[.int .i64 t195, .int .i64 t196, .string t197] 38 (0, 0)) (by (with_reducible repeat (first | refine blk_drewN ?_ _ | refine blk_drew ?_ | refine blk_alloc ?_ _)); refine blk_put (cs := #[.int .i64 t195, .int .i64 t196, .string t193]) ?_ 2 _ rfl; (with_reducible repeat (first | refine blk_drewN ?_ _ | refine blk_drew ?_ | refine blk_alloc ?_ _)); refine blk_put (cs := #[.int .i64 t195, .int .i64 t192, .string t193]) ?_ 1 _ rfl; (with_reducible repeat (first | refine blk_drewN ?_ _ | refine blk_drew ?_ | refine blk_alloc ?_ _)); refine blk_put (cs := #[.int .i64 t191, .int .i64 t192, .string t193]) ?_ 0 _ rfl; (with_reducible repeat (first | refine blk_drewN ?_ _ | refine blk_drew ?_ | refine blk_alloc ?_ _)); exact BK194.out)) (below_size (by repeat (first | (with_reducible first | exact HB.out | apply below_alloc | apply pw_below_drewN | apply below_drew1 | refine below_set ?_ GE194.out) | exact HB.out)))); have n2_ := Aside0.mk (blk_below (g := gb194) (o := .cells #[.int .i64 t195, .int .i64 t196, .string t197] 38 (0, 0)) (by (with_reducible repeat (first | refine blk_drewN ?_ _ | refine blk_drew ?_ | refine blk_alloc ?_ _)); refine blk_put (cs := #[.int .i64 t195, .int .i64 t196, .string t193]) ?_ 2 _ rfl; (with_reducible repeat (first | refine blk_drewN ?_ _ | refine blk_drew ?_ | refine blk_alloc ?_ _)); refine blk_put (cs := #[.int .i64 t195, .int .i64 t192, .string t193]) ?_ 1 _ rfl; (with_reducible repeat (first | refine blk_drewN ?_ _ | refine blk_drew ?_ | refine blk_alloc ?_ _)); refine blk_put (cs := #[.int .i64 t191, .int .i64 t192, .string t193]) ?_ 0 _ rfl; (with_reducible repeat (first | refine blk_drewN ?_ _ | refine blk_drew ?_ | refine blk_alloc ?_ _)); exact BK194.out) hb); have n3_ := Aside0.mk (below_step (by repeat (first | (with_reducible first | exact HB.out | apply below_alloc | apply pw_below_drewN | apply below_drew1 | refine below_set ?_ GE194.out) | exact HB.out)) hb); clear HO_4; clear BK194; clear HB; have HO_4 := n0_; have HO200 := n1_; have BK194 := n2_; have HB := n3_; clear n0_ n1_ n2_ n3_; clear hb ho21; obtain ⟨Ao22, co22, eo22⟩ := Kd.R_slice HO200.out; subst eo22) | ((with_reducible refine gate_callee (f := 10) rfl ?_); refine goesL_ (some 82) rfl rfl Tryd.func10 (by kernel_rfl) rfl #[.slice Ao22 y198.length co22] rfl (by (try simp only [List.map_toArray, List.map_cons, List.map_nil]); first | done | rfl | (simp only [List.length_drop, List.length_take]; rfl) | (simp only [Int.ofNat_lt, Int.ofNat_le]; done) | (simp only [Int.ofNat_lt, Int.ofNat_le]; rfl) | (simp only [ByteArray.size_append, Int.natCast_add]; rfl)) ?_; (with_reducible refine (relstoreref_Key.calls kj3 _ _ y198 t201 _ ?side1 ?side2 A16.out).mono ?_); (case side1 => repeat (first | exact (Kd.R_reads' HO200.out).2.2 | (with_reducible refine Kd.C_alloc ?_ _) | (with_reducible refine Kd.C_drewN ?_ _) | (with_reducible refine Kd.C_drew ?_))); (case side2 => exact (Kd.R_reads' HO200.out).2.1); rintro e w23 ⟨rfl, hb⟩; refine ⟨_, rfl, ?_⟩; have n0_ := Aside0.mk (Kd.R_below (by (with_reducible repeat (first | apply Kd.R_alloc | apply Kd.R_drewN | apply Kd.R_drew)); exact HO_4.out) hb); have n1_ := Aside0.mk (Kd.R_below (by (with_reducible repeat (first | apply Kd.R_alloc | apply Kd.R_drewN | apply Kd.R_drew)); exact HO200.out) hb); have n2_ := Aside0.mk (blk_below (g := gb194) (o := .cells #[.int .i64 t195, .int .i64 t196, .string t197] 38 (0, 0)) (by (with_reducible repeat (first | refine blk_drewN ?_ _ | refine blk_drew ?_ | refine blk_alloc ?_ _)); exact BK194.out) hb); have n3_ := Aside0.mk (below_step (by repeat (first | (with_reducible first | exact HB.out | apply below_alloc | apply pw_below_drewN | apply below_drew1 | refine below_set ?_ GE194.out) | exact HB.out)) hb); clear HO_4; clear HO200; clear BK194; clear HB; have HO_4 := n0_; have HO200 := n1_; have BK194 := n2_; have HB := n3_; clear n0_ n1_ n2_ n3_; (try clear hb); (try clear hb2); (try clear hk); (try clear hi)))
                  go_ret2
                  exact ⟨_, by first | rfl | (simp [errW_none, errW_some] <;> rfl) | (simp [*, errW_none, errW_some] <;> rfl), by first | exact Kd.R_nil _ _ _ _ _ | exact Kd.N_nil _ _ _ _ _ | exact Kd.V_nil _ _ _ _ _ | exact Kd.Q_nil _ _ _ _ _ | exact Kd.S_nil _ _ _ _ _, by repeat (first | (with_reducible first | exact HB.out | apply below_alloc | apply pw_below_drewN | apply below_drew1 | refine below_set ?_ GE194.out) | exact HB.out)⟩
                · rw [if_neg c17] at H
                  have c17b0 : decide ((x0_1.size : Int) < (t201.size : Int)) = false := decide_eq_false c17
                  have c17b1 : decide (x0_1.size < t201.size) = false := decide_eq_false (fun h => c17 (Int.ofNat_lt.mpr h))
                  clear c17
                  by_cases c24 : 0 ≤ (t201.size : Int)
                  · rw [if_pos c24] at H
                    have c24b0 := eq_true c24
                    have c24b1 : decide (0 ≤ (t201.size : Int)) = true := decide_eq_true c24
                    clear c24
                    by_cases c25 : (t201.size : Int) ≤ (x0_1.size : Int)
                    · rw [if_pos c25] at H
                      have c25b0 := eq_true c25
                      have c25b1 : decide ((t201.size : Int) ≤ (x0_1.size : Int)) = true := decide_eq_true c25
                      clear c25
                      by_cases c26 : (x0_1.extract 0 ((t201.size : Int) : Int).toNat).toList = t201.toList
                      · rw [if_pos c26] at H
                        have c26b0 : ((x0_1.extract 0 ((t201.size : Int) : Int).toNat).toList == t201.toList) = true := beq_iff_eq.mpr c26
                        try (have c26b9 := c26b0; simp only [Int.toNat_natCast] at c26b9)
                        have c26b1 : ((x0_1.extract 0 ((t201.size : Int) : Int).toNat).toList != t201.toList) = false := bne_eq_false_iff_eq.mpr c26
                        clear c26
                        by_cases c27 : x4_1.length < 4398046511104
                        · rw [if_pos c27] at H
                          have LMc27 := Aside0.mk c27
                          clear c27
                          obtain ⟨y202, hy202⟩ : ∃ y_ : List (S38), y_ = (x4_1 ++ [(⟨t195, t196, t197⟩ : S38)]) := ⟨_, rfl⟩
                          replace H : (relstoreref_Unkey.l0 kj3 (x0_1.extract ((t201.size : Int) : Int).toNat x0_1.size) y202) = some (r1, r2) := by first | (rw [hy202]; with_reducible exact H) | (have H2_ := (Option.bind_some _ _).symm.trans H; rw [hy202]; with_reducible exact H2_) | (have H2_ := (Option.bind_some _ _).symm.trans H; with_reducible exact H2_) | with_reducible exact H | (rw [hy202]; exact H) | exact H
                          have Ny202 := Aside0.mk hy202
                          clear hy202
                          have c28b0 := eq_true (of_decide_eq_true (by first | (with_reducible assumption) | assumption) : 0 ≤ (t201.size : Int))
                          have c29b0 := eq_true (of_decide_eq_true (by first | (with_reducible assumption) | assumption) : (t201.size : Int) ≤ (x0_1.size : Int))
                          have H' := Aside0.mk H
                          clear H
                          have p14 : 0 ≤ (0 : Int) := (by omega)
                          have q14 : 0 < x0_1.size := (by have : (0 : Int) < (x0_1.size : Int) := of_decide_eq_true (by first | (with_reducible assumption) | assumption); omega)
                          have hx14 : ∀ h : 0 < x0_1.size, ((x0_1[0]'h).toNat : Int) = bt x0_1 0 := bt_at x0_1 0
                          clear p14
                          have qi14 : (0 < (x0_1.size : Int)) = True := eq_true (of_decide_eq_true (by first | (with_reducible assumption) | assumption))
                          replace q14 := eq_true q14
                          go_wp2_with (first | ((with_reducible refine gate_callee (f := 33) rfl ?_); refine goesL_ (some 24) rfl rfl Tryd.func33 (by kernel_rfl) rfl #[.bool ((bt x0_1 0) == 3)] rfl (by (try simp only [List.map_toArray, List.map_cons, List.map_nil]); first | done | rfl | (simp only [List.length_drop, List.length_take]; rfl) | (simp only [Int.ofNat_lt, Int.ofNat_le]; done) | (simp only [Int.ofNat_lt, Int.ofNat_le]; rfl) | (simp only [ByteArray.size_append, Int.natCast_add]; rfl)) ?_; (with_reducible refine (relstoreref_truth.calls ((bt x0_1 0) == 3) t195 t196 t197 _ A15.out).mono ?_); rintro e w30 ⟨rfl, hb⟩; refine ⟨_, rfl, ?_⟩; have n0_ := Aside0.mk (Kd.R_below (by (with_reducible repeat (first | apply Kd.R_alloc | apply Kd.R_drewN | apply Kd.R_drew)); exact HO_4.out) hb); have n1_ := Aside0.mk (blk_below (g := gb194) (o := .cells #[.int .i64 t191, .int .i64 t192, .string t193] 38 (0, 0)) (by (with_reducible repeat (first | refine blk_drewN ?_ _ | refine blk_drew ?_ | refine blk_alloc ?_ _)); exact BK194.out) hb); have n2_ := Aside0.mk (below_step (by repeat (first | (with_reducible first | exact HB.out | apply below_alloc | apply pw_below_drewN | apply below_drew1 | refine below_set ?_ GE194.out) | exact HB.out)) hb); clear HO_4; clear BK194; clear HB; have HO_4 := n0_; have BK194 := n1_; have HB := n2_; clear n0_ n1_ n2_; (try clear hb); (try clear hb2); (try clear hk); (try clear hi); have hcz31_0 : w30.cell? ⟨gb194, 0, none⟩ = some (.int .i64 t191) := (blk_cell BK194.out 0).trans rfl; have hcz31_1 : w30.cell? ⟨gb194, 1, none⟩ = some (.int .i64 t192) := (blk_cell BK194.out 1).trans rfl; have hcz31_2 : w30.cell? ⟨gb194, 2, none⟩ = some (.string t193) := (blk_cell BK194.out 2).trans rfl; have hfz31_0 := blk_frozen BK194.out 0; have hfz31_1 := blk_frozen BK194.out 1; have hfz31_2 := blk_frozen BK194.out 2) | ((with_reducible refine gate_dst (N := 81) rfl ?_); (try (refine gate_guard (by rfl) ?_; dsimp only)); refine Kd.R_lit k38 _ 38 ?hg (N := 81) ?hd (xs := ([(⟨t195, t196, t197⟩ : S38)] : List (S38))) (inner := [.int .i64 t195, .int .i64 t196, .string t197]) (ok := fun _ => True) (okp := fun _ => True) ?hr ?hp (fun _ hk => hk) trivial (Below.refl _ _) (Nat.le_refl _) (by simp) ?_; (case hd => rfl); (case hg => rfl); (case hr => first | (go_simp; done) | (go_simp; rfl)); (case hp => exact (Reps.c3 (show Kd.M k38 _ _ _ (⟨t195, t196, t197⟩ : S38) [.int .i64 t195, .int .i64 t196, .string t197] from (k38_mkM _ _ _ (⟨t195, t196, t197⟩ : S38) )) (Reps.none _ _))); intro v199 w32 ho33 hb hg_ hnew_; clear hg_ hnew_; (first | rw [← Ny198.out] at ho33 | (simp only [Int.reduceToNat] at ho33; rw [← Ny198.out] at ho33)); have n0_ := Aside0.mk (Kd.R_elder' (by (with_reducible repeat (first | apply Kd.R_alloc | apply Kd.R_drewN | apply Kd.R_drew)); exact (Kd.R_mono (Kd.R_far (p := ⟨gb194, 2, none⟩) (Kd.R_far (p := ⟨gb194, 1, none⟩) (Kd.R_far (p := ⟨gb194, 0, none⟩) (Kd.R_mono HO_4.out (fun k_ hk => (⟨hk, hk⟩ : _ ∧ k_ ≠ gb194))) (fun _ hk => hk.2) (.int .i64 t195)) (fun _ hk => hk.2) (.int .i64 t196)) (fun _ hk => hk.2) (.string t197)) (fun _ h_ => h_.1))) (Kd.R_base ho33) hb); have n1_ := Aside0.mk (Kd.R_lower (Kd.R_newB (Kd.R_new' ho33 (Kd.R_lt (by (with_reducible repeat (first | apply Kd.R_alloc | apply Kd.R_drewN | apply Kd.R_drew)); exact (Kd.R_mono (Kd.R_far (p := ⟨gb194, 2, none⟩) (Kd.R_far (p := ⟨gb194, 1, none⟩) (Kd.R_far (p := ⟨gb194, 0, none⟩) (Kd.R_mono HO_4.out (fun k_ hk => (⟨hk, hk⟩ : _ ∧ k_ ≠ gb194))) (fun _ hk => hk.2) (.int .i64 t195)) (fun _ hk => hk.2) (.int .i64 t196)) (fun _ hk => hk.2) (.string t197)) (fun _ h_ => h_.1))))) (g := gb194) (o := .cells #[.int .i64 t195, .int .i64 t196, .string t197] 38 (0, 0)) (by (with_reducible repeat (first | refine blk_drewN ?_ _ | refine blk_drew ?_ | refine blk_alloc ?_ _)); refine blk_put (cs := #[.int .i64 t195, .int .i64 t196, .string t193]) ?_ 2 _ rfl; (with_reducible repeat (first | refine blk_drewN ?_ _ | refine blk_drew ?_ | refine blk_alloc ?_ _)); refine blk_put (cs := #[.int .i64 t195, .int .i64 t192, .string t193]) ?_ 1 _ rfl; (with_reducible repeat (first | refine blk_drewN ?_ _ | refine blk_drew ?_ | refine blk_alloc ?_ _)); refine blk_put (cs := #[.int .i64 t191, .int .i64 t192, .string t193]) ?_ 0 _ rfl; (with_reducible repeat (first | refine blk_drewN ?_ _ | refine blk_drew ?_ | refine blk_alloc ?_ _)); exact BK194.out)) (below_size (by repeat (first | (with_reducible first | exact HB.out | apply below_alloc | apply pw_below_drewN | apply below_drew1 | refine below_set ?_ GE194.out) | exact HB.out)))); have n2_ := Aside0.mk (blk_below (g := gb194) (o := .cells #[.int .i64 t195, .int .i64 t196, .string t197] 38 (0, 0)) (by (with_reducible repeat (first | refine blk_drewN ?_ _ | refine blk_drew ?_ | refine blk_alloc ?_ _)); refine blk_put (cs := #[.int .i64 t195, .int .i64 t196, .string t193]) ?_ 2 _ rfl; (with_reducible repeat (first | refine blk_drewN ?_ _ | refine blk_drew ?_ | refine blk_alloc ?_ _)); refine blk_put (cs := #[.int .i64 t195, .int .i64 t192, .string t193]) ?_ 1 _ rfl; (with_reducible repeat (first | refine blk_drewN ?_ _ | refine blk_drew ?_ | refine blk_alloc ?_ _)); refine blk_put (cs := #[.int .i64 t191, .int .i64 t192, .string t193]) ?_ 0 _ rfl; (with_reducible repeat (first | refine blk_drewN ?_ _ | refine blk_drew ?_ | refine blk_alloc ?_ _)); exact BK194.out) hb); have n3_ := Aside0.mk (below_step (by repeat (first | (with_reducible first | exact HB.out | apply below_alloc | apply pw_below_drewN | apply below_drew1 | refine below_set ?_ GE194.out) | exact HB.out)) hb); clear HO_4; clear BK194; clear HB; have HO_4 := n0_; have HO200 := n1_; have BK194 := n2_; have HB := n3_; clear n0_ n1_ n2_ n3_; clear hb ho33; obtain ⟨Ao34, co34, eo34⟩ := Kd.R_slice HO200.out; subst eo34) | ((with_reducible refine gate_callee (f := 10) rfl ?_); refine goesL_ (some 82) rfl rfl Tryd.func10 (by kernel_rfl) rfl #[.slice Ao34 y198.length co34] rfl (by (try simp only [List.map_toArray, List.map_cons, List.map_nil]); first | done | rfl | (simp only [List.length_drop, List.length_take]; rfl) | (simp only [Int.ofNat_lt, Int.ofNat_le]; done) | (simp only [Int.ofNat_lt, Int.ofNat_le]; rfl) | (simp only [ByteArray.size_append, Int.natCast_add]; rfl)) ?_; (with_reducible refine (relstoreref_Key.calls kj3 _ _ y198 t201 _ ?side1 ?side2 A16.out).mono ?_); (case side1 => repeat (first | exact (Kd.R_reads' HO200.out).2.2 | (with_reducible refine Kd.C_alloc ?_ _) | (with_reducible refine Kd.C_drewN ?_ _) | (with_reducible refine Kd.C_drew ?_))); (case side2 => exact (Kd.R_reads' HO200.out).2.1); rintro e w35 ⟨rfl, hb⟩; refine ⟨_, rfl, ?_⟩; have n0_ := Aside0.mk (Kd.R_below (by (with_reducible repeat (first | apply Kd.R_alloc | apply Kd.R_drewN | apply Kd.R_drew)); exact HO_4.out) hb); have n1_ := Aside0.mk (Kd.R_below (by (with_reducible repeat (first | apply Kd.R_alloc | apply Kd.R_drewN | apply Kd.R_drew)); exact HO200.out) hb); have n2_ := Aside0.mk (blk_below (g := gb194) (o := .cells #[.int .i64 t195, .int .i64 t196, .string t197] 38 (0, 0)) (by (with_reducible repeat (first | refine blk_drewN ?_ _ | refine blk_drew ?_ | refine blk_alloc ?_ _)); exact BK194.out) hb); have n3_ := Aside0.mk (below_step (by repeat (first | (with_reducible first | exact HB.out | apply below_alloc | apply pw_below_drewN | apply below_drew1 | refine below_set ?_ GE194.out) | exact HB.out)) hb); clear HO_4; clear HO200; clear BK194; clear HB; have HO_4 := n0_; have HO200 := n1_; have BK194 := n2_; have HB := n3_; clear n0_ n1_ n2_ n3_; (try clear hb); (try clear hb2); (try clear hk); (try clear hi); have hcz36_0 : w35.cell? ⟨gb194, 0, none⟩ = some (.int .i64 t195) := (blk_cell BK194.out 0).trans rfl; have hcz36_1 : w35.cell? ⟨gb194, 1, none⟩ = some (.int .i64 t196) := (blk_cell BK194.out 1).trans rfl; have hcz36_2 : w35.cell? ⟨gb194, 2, none⟩ = some (.string t197) := (blk_cell BK194.out 2).trans rfl; have hfz36_0 := blk_frozen BK194.out 0; have hfz36_1 := blk_frozen BK194.out 1; have hfz36_2 := blk_frozen BK194.out 2) | ((with_reducible refine gate_builtin (b := .append) (xs := #[.tmp 96, .tmp 98]) rfl ?_); (try (refine gate_guard (by rfl) ?_; dsimp only)); at_builtin; refine Kd.R_append k38 (w0 := w) w.heap.size rfl (.tmp 96) (.tmp 98) 22 38 (.agg #[(.int .i64 0), (.int .i64 0), (.string ⟨#[]⟩)]) 32 rfl Tryd.underlying22 info38 rfl (by decide) (by omega) u4 x4_1 (⟨t195, t196, t197⟩ : S38) [.int .i64 t195, .int .i64 t196, .string t197] (fun k_ => some k_ ≠ (.slice Ao34 y198.length co34 : Value).ownBlock ∧ k_ ≠ gb194) (fun _ => False) rfl rfl ?aP (fun _ hk => hk.elim) ?aF ?aO ?aB ?aS ?aL ?_; (case aP => exact k38_mkM _ _ _ (⟨t195, t196, t197⟩ : S38)); (case aB => exact (by repeat (first | (with_reducible first | exact HB.out | apply below_alloc | apply pw_below_drewN | apply below_drew1 | refine below_set ?_ GE194.out) | exact HB.out))); (case aF => exact (fun k_ hk => ⟨Kd.fresh' (Kd.R_lt (by (with_reducible repeat (first | apply Kd.R_alloc | apply Kd.R_drewN | apply Kd.R_drew)); exact HO200.out)) k_ hk, Kd.freshB (g := gb194) (o := .cells #[.int .i64 t195, .int .i64 t196, .string t197] 38 (0, 0)) (by (with_reducible repeat (first | refine blk_drewN ?_ _ | refine blk_drew ?_ | refine blk_alloc ?_ _)); exact BK194.out) k_ hk⟩)); (case aO => exact (by (with_reducible repeat (first | apply Kd.R_alloc | apply Kd.R_drewN | apply Kd.R_drew)); exact Kd.R_mono HO_4.out (fun _ hk => ⟨hk.2, hk.1⟩))); (case aS => exact (below_size (by repeat (first | (with_reducible first | exact HB.out | apply below_alloc | apply pw_below_drewN | apply below_drew1 | refine below_set ?_ GE194.out) | exact HB.out)))); (case aL => have := LMc27.out; omega); intro v203 w37 ho hb hg hat; rw [← Ny202.out] at ho; have n0_ := Aside0.mk (blk_grown (g := gb194) (o := .cells #[.int .i64 t195, .int .i64 t196, .string t197] 38 (0, 0)) (by (with_reducible repeat (first | refine blk_drewN ?_ _ | refine blk_drew ?_ | refine blk_alloc ?_ _)); exact BK194.out) hg (Kd.R_away HO_4.out (fun _ hk => hk.1))); have n1_ := Aside0.mk (Kd.R_after (ok := (fun k_ => k_ ≠ gb194)) (by (with_reducible repeat (first | apply Kd.R_alloc | apply Kd.R_drewN | apply Kd.R_drew)); exact Kd.R_mono HO200.out (fun _ hk => ⟨hk.2, hk.1.2⟩)) hg hat); have n2_ := Aside0.mk (hb); have n3_ := Aside0.mk (ho); clear BK194; clear HO200; clear HB; clear HO_4; have BK194 := n0_; have HO200 := n1_; have HB := n2_; have HO204 := n3_; clear n0_ n1_ n2_ n3_; clear ho hb hg hat))
                          go_roundg kj3
                          case measure => have := HK1.out; have := HJ3.out; omega
                          case rel => exact ⟨(x0_1.extract ((t201.size : Int) : Int).toNat x0_1.size), (y202), (by first | rfl | (simp; done) | (simp [*]; done) | exact bq1 _ _ | exact bq2 _ _ | exact congrArg Value.bool (bq2 _ _) | exact congrArg Value.bool (bq1 _ _) | exact congrArg Value.bool (bq1' _ _) | exact bq1' _ _ | exact congrArg Value.bool (bq2' _ _) | exact bq2' _ _), H', ⟨by have := HK1.out; have := HJ3.out; omega⟩, ⟨by (with_reducible repeat (first | apply Kd.R_alloc | apply Kd.R_drewN | apply Kd.R_drew)); exact Kd.R_mono HO204.out (fun _ hk => trivial)⟩, ⟨by repeat (first | (with_reducible first | exact HB.out | apply below_alloc | apply pw_below_drewN | apply below_drew1 | refine below_set ?_ GE194.out) | exact HB.out)⟩⟩
                        · rw [if_neg c27] at H
                          exact absurd H (by simp)
                      · rw [if_neg c26] at H
                        have c26b0 : ((x0_1.extract 0 ((t201.size : Int) : Int).toNat).toList == t201.toList) = false := beq_eq_false_iff_ne.mpr c26
                        try (have c26b9 := c26b0; simp only [Int.toNat_natCast] at c26b9)
                        have c26b1 : ((x0_1.extract 0 ((t201.size : Int) : Int).toNat).toList != t201.toList) = true := bne_iff_ne.mpr c26
                        simp only [Option.some.injEq, Prod.mk.injEq] at H
                        obtain ⟨rfl, rfl⟩ := H
                        have p14 : 0 ≤ (0 : Int) := (by omega)
                        have q14 : 0 < x0_1.size := (by have : (0 : Int) < (x0_1.size : Int) := of_decide_eq_true (by first | (with_reducible assumption) | assumption); omega)
                        have hx14 : ∀ h : 0 < x0_1.size, ((x0_1[0]'h).toNat : Int) = bt x0_1 0 := bt_at x0_1 0
                        clear p14
                        have qi14 : (0 < (x0_1.size : Int)) = True := eq_true (of_decide_eq_true (by first | (with_reducible assumption) | assumption))
                        replace q14 := eq_true q14
                        go_wp2_with (first | ((with_reducible refine gate_callee (f := 33) rfl ?_); refine goesL_ (some 24) rfl rfl Tryd.func33 (by kernel_rfl) rfl #[.bool ((bt x0_1 0) == 3)] rfl (by (try simp only [List.map_toArray, List.map_cons, List.map_nil]); first | done | rfl | (simp only [List.length_drop, List.length_take]; rfl) | (simp only [Int.ofNat_lt, Int.ofNat_le]; done) | (simp only [Int.ofNat_lt, Int.ofNat_le]; rfl) | (simp only [ByteArray.size_append, Int.natCast_add]; rfl)) ?_; (with_reducible refine (relstoreref_truth.calls ((bt x0_1 0) == 3) t195 t196 t197 _ A15.out).mono ?_); rintro e w38 ⟨rfl, hb⟩; refine ⟨_, rfl, ?_⟩; have n0_ := Aside0.mk (Kd.R_below (by (with_reducible repeat (first | apply Kd.R_alloc | apply Kd.R_drewN | apply Kd.R_drew)); exact HO_4.out) hb); have n1_ := Aside0.mk (blk_below (g := gb194) (o := .cells #[.int .i64 t191, .int .i64 t192, .string t193] 38 (0, 0)) (by (with_reducible repeat (first | refine blk_drewN ?_ _ | refine blk_drew ?_ | refine blk_alloc ?_ _)); exact BK194.out) hb); have n2_ := Aside0.mk (below_step (by repeat (first | (with_reducible first | exact HB.out | apply below_alloc | apply pw_below_drewN | apply below_drew1 | refine below_set ?_ GE194.out) | exact HB.out)) hb); clear HO_4; clear BK194; clear HB; have HO_4 := n0_; have BK194 := n1_; have HB := n2_; clear n0_ n1_ n2_; (try clear hb); (try clear hb2); (try clear hk); (try clear hi); have hcz39_0 : w38.cell? ⟨gb194, 0, none⟩ = some (.int .i64 t191) := (blk_cell BK194.out 0).trans rfl; have hcz39_1 : w38.cell? ⟨gb194, 1, none⟩ = some (.int .i64 t192) := (blk_cell BK194.out 1).trans rfl; have hcz39_2 : w38.cell? ⟨gb194, 2, none⟩ = some (.string t193) := (blk_cell BK194.out 2).trans rfl; have hfz39_0 := blk_frozen BK194.out 0; have hfz39_1 := blk_frozen BK194.out 1; have hfz39_2 := blk_frozen BK194.out 2) | ((with_reducible refine gate_dst (N := 81) rfl ?_); (try (refine gate_guard (by rfl) ?_; dsimp only)); refine Kd.R_lit k38 _ 38 ?hg (N := 81) ?hd (xs := ([(⟨t195, t196, t197⟩ : S38)] : List (S38))) (inner := [.int .i64 t195, .int .i64 t196, .string t197]) (ok := fun _ => True) (okp := fun _ => True) ?hr ?hp (fun _ hk => hk) trivial (Below.refl _ _) (Nat.le_refl _) (by simp) ?_; (case hd => rfl); (case hg => rfl); (case hr => first | (go_simp; done) | (go_simp; rfl)); (case hp => exact (Reps.c3 (show Kd.M k38 _ _ _ (⟨t195, t196, t197⟩ : S38) [.int .i64 t195, .int .i64 t196, .string t197] from (k38_mkM _ _ _ (⟨t195, t196, t197⟩ : S38) )) (Reps.none _ _))); intro v199 w40 ho41 hb hg_ hnew_; clear hg_ hnew_; (first | rw [← Ny198.out] at ho41 | (simp only [Int.reduceToNat] at ho41; rw [← Ny198.out] at ho41)); have n0_ := Aside0.mk (Kd.R_elder' (by (with_reducible repeat (first | apply Kd.R_alloc | apply Kd.R_drewN | apply Kd.R_drew)); exact (Kd.R_mono (Kd.R_far (p := ⟨gb194, 2, none⟩) (Kd.R_far (p := ⟨gb194, 1, none⟩) (Kd.R_far (p := ⟨gb194, 0, none⟩) (Kd.R_mono HO_4.out (fun k_ hk => (⟨hk, hk⟩ : _ ∧ k_ ≠ gb194))) (fun _ hk => hk.2) (.int .i64 t195)) (fun _ hk => hk.2) (.int .i64 t196)) (fun _ hk => hk.2) (.string t197)) (fun _ h_ => h_.1))) (Kd.R_base ho41) hb); have n1_ := Aside0.mk (Kd.R_lower (Kd.R_newB (Kd.R_new' ho41 (Kd.R_lt (by (with_reducible repeat (first | apply Kd.R_alloc | apply Kd.R_drewN | apply Kd.R_drew)); exact (Kd.R_mono (Kd.R_far (p := ⟨gb194, 2, none⟩) (Kd.R_far (p := ⟨gb194, 1, none⟩) (Kd.R_far (p := ⟨gb194, 0, none⟩) (Kd.R_mono HO_4.out (fun k_ hk => (⟨hk, hk⟩ : _ ∧ k_ ≠ gb194))) (fun _ hk => hk.2) (.int .i64 t195)) (fun _ hk => hk.2) (.int .i64 t196)) (fun _ hk => hk.2) (.string t197)) (fun _ h_ => h_.1))))) (g := gb194) (o := .cells #[.int .i64 t195, .int .i64 t196, .string t197] 38 (0, 0)) (by (with_reducible repeat (first | refine blk_drewN ?_ _ | refine blk_drew ?_ | refine blk_alloc ?_ _)); refine blk_put (cs := #[.int .i64 t195, .int .i64 t196, .string t193]) ?_ 2 _ rfl; (with_reducible repeat (first | refine blk_drewN ?_ _ | refine blk_drew ?_ | refine blk_alloc ?_ _)); refine blk_put (cs := #[.int .i64 t195, .int .i64 t192, .string t193]) ?_ 1 _ rfl; (with_reducible repeat (first | refine blk_drewN ?_ _ | refine blk_drew ?_ | refine blk_alloc ?_ _)); refine blk_put (cs := #[.int .i64 t191, .int .i64 t192, .string t193]) ?_ 0 _ rfl; (with_reducible repeat (first | refine blk_drewN ?_ _ | refine blk_drew ?_ | refine blk_alloc ?_ _)); exact BK194.out)) (below_size (by repeat (first | (with_reducible first | exact HB.out | apply below_alloc | apply pw_below_drewN | apply below_drew1 | refine below_set ?_ GE194.out) | exact HB.out)))); have n2_ := Aside0.mk (blk_below (g := gb194) (o := .cells #[.int .i64 t195, .int .i64 t196, .string t197] 38 (0, 0)) (by (with_reducible repeat (first | refine blk_drewN ?_ _ | refine blk_drew ?_ | refine blk_alloc ?_ _)); refine blk_put (cs := #[.int .i64 t195, .int .i64 t196, .string t193]) ?_ 2 _ rfl; (with_reducible repeat (first | refine blk_drewN ?_ _ | refine blk_drew ?_ | refine blk_alloc ?_ _)); refine blk_put (cs := #[.int .i64 t195, .int .i64 t192, .string t193]) ?_ 1 _ rfl; (with_reducible repeat (first | refine blk_drewN ?_ _ | refine blk_drew ?_ | refine blk_alloc ?_ _)); refine blk_put (cs := #[.int .i64 t191, .int .i64 t192, .string t193]) ?_ 0 _ rfl; (with_reducible repeat (first | refine blk_drewN ?_ _ | refine blk_drew ?_ | refine blk_alloc ?_ _)); exact BK194.out) hb); have n3_ := Aside0.mk (below_step (by repeat (first | (with_reducible first | exact HB.out | apply below_alloc | apply pw_below_drewN | apply below_drew1 | refine below_set ?_ GE194.out) | exact HB.out)) hb); clear HO_4; clear BK194; clear HB; have HO_4 := n0_; have HO200 := n1_; have BK194 := n2_; have HB := n3_; clear n0_ n1_ n2_ n3_; clear hb ho41; obtain ⟨Ao42, co42, eo42⟩ := Kd.R_slice HO200.out; subst eo42) | ((with_reducible refine gate_callee (f := 10) rfl ?_); refine goesL_ (some 82) rfl rfl Tryd.func10 (by kernel_rfl) rfl #[.slice Ao42 y198.length co42] rfl (by (try simp only [List.map_toArray, List.map_cons, List.map_nil]); first | done | rfl | (simp only [List.length_drop, List.length_take]; rfl) | (simp only [Int.ofNat_lt, Int.ofNat_le]; done) | (simp only [Int.ofNat_lt, Int.ofNat_le]; rfl) | (simp only [ByteArray.size_append, Int.natCast_add]; rfl)) ?_; (with_reducible refine (relstoreref_Key.calls kj3 _ _ y198 t201 _ ?side1 ?side2 A16.out).mono ?_); (case side1 => repeat (first | exact (Kd.R_reads' HO200.out).2.2 | (with_reducible refine Kd.C_alloc ?_ _) | (with_reducible refine Kd.C_drewN ?_ _) | (with_reducible refine Kd.C_drew ?_))); (case side2 => exact (Kd.R_reads' HO200.out).2.1); rintro e w43 ⟨rfl, hb⟩; refine ⟨_, rfl, ?_⟩; have n0_ := Aside0.mk (Kd.R_below (by (with_reducible repeat (first | apply Kd.R_alloc | apply Kd.R_drewN | apply Kd.R_drew)); exact HO_4.out) hb); have n1_ := Aside0.mk (Kd.R_below (by (with_reducible repeat (first | apply Kd.R_alloc | apply Kd.R_drewN | apply Kd.R_drew)); exact HO200.out) hb); have n2_ := Aside0.mk (blk_below (g := gb194) (o := .cells #[.int .i64 t195, .int .i64 t196, .string t197] 38 (0, 0)) (by (with_reducible repeat (first | refine blk_drewN ?_ _ | refine blk_drew ?_ | refine blk_alloc ?_ _)); exact BK194.out) hb); have n3_ := Aside0.mk (below_step (by repeat (first | (with_reducible first | exact HB.out | apply below_alloc | apply pw_below_drewN | apply below_drew1 | refine below_set ?_ GE194.out) | exact HB.out)) hb); clear HO_4; clear HO200; clear BK194; clear HB; have HO_4 := n0_; have HO200 := n1_; have BK194 := n2_; have HB := n3_; clear n0_ n1_ n2_ n3_; (try clear hb); (try clear hb2); (try clear hk); (try clear hi)))
                        go_ret2
                        exact ⟨_, by first | rfl | (simp [errW_none, errW_some] <;> rfl) | (simp [*, errW_none, errW_some] <;> rfl), by first | exact Kd.R_nil _ _ _ _ _ | exact Kd.N_nil _ _ _ _ _ | exact Kd.V_nil _ _ _ _ _ | exact Kd.Q_nil _ _ _ _ _ | exact Kd.S_nil _ _ _ _ _, by repeat (first | (with_reducible first | exact HB.out | apply below_alloc | apply pw_below_drewN | apply below_drew1 | refine below_set ?_ GE194.out) | exact HB.out)⟩
                    · rw [if_neg c25] at H
                      exact absurd H (by simp)
                  · rw [if_neg c24] at H
                    exact absurd H (by simp)
              · rw [if_neg c13] at H
                exact absurd H (by simp)
            · replace c12 := Bool.eq_false_iff.mpr c12
              subst c12
              have H1 : (if 0 < (x0_1.size : Int) then (if (bt x0_1 0) = 4 then (relstoreref_Unkey.j2 kj3 x0_1 x4_1 (decide ((x0_1.size : Int) ≥ 9)) t191 t192 t193) else (relstoreref_Unkey.j2 kj3 x0_1 x4_1 false t191 t192 t193)) else (none)) = some (r1, r2) := by rw [if_neg (show ¬ (false = true) by decide)] at H; exact H
              clear H
              have H := H1
              clear H1
              have HC44 := Aside0.mk H
              clear H
              go_upto_region 6 with (fail)
              go_cut [25] (fun v25 wc => ∃ (kq : Nat) (x25_43 : Bool), v25 = .bool x25_43 ∧ Aside0 (relstoreref_Unkey.j2 kq x0_1 x4_1 x25_43 t191 t192 t193 = some (r1, r2)) ∧ Aside0 (kq ≤ kj3) ∧ Aside0 (Kd.R k38 38 wc w.heap.size (fun k_ => k_ ≠ gb194) u4 x4_1) ∧ Aside0 (wc.heap[gb194]? = some (.cells #[.int .i64 t191, .int .i64 t192, .string t193] 38 (0, 0))) ∧ Aside0 (Below w.heap.size w wc))
              case first =>
                have H := HC44.out
                clear HC44
                by_cases c45 : 0 < (x0_1.size : Int)
                · rw [if_pos c45] at H
                  have c45b0 : decide (0 < (x0_1.size : Int)) = true := decide_eq_true c45
                  have c45b1 : decide (0 < x0_1.size) = true := decide_eq_true (by omega)
                  clear c45
                  (first | rw [c45b0] | (simp only [i64_w, i32_w]; rw [c45b0]) | skip)
                  by_cases c47 : (bt x0_1 0) = 4
                  · rw [if_pos c47] at H
                    have c47b0 : ((bt x0_1 0) == 4) = true := beq_iff_eq.mpr c47
                    have c47b1 : ((bt x0_1 0) != 4) = false := bne_eq_false_iff_eq.mpr c47
                    clear c47
                    have H' := Aside0.mk H
                    clear H
                    have p46 : 0 ≤ (0 : Int) := (by omega)
                    have q46 : 0 < x0_1.size := (by have : (0 : Int) < (x0_1.size : Int) := of_decide_eq_true (by first | (with_reducible assumption) | assumption); omega)
                    have hx46 : ∀ h : 0 < x0_1.size, ((x0_1[0]'h).toNat : Int) = bt x0_1 0 := bt_at x0_1 0
                    clear p46
                    have qi46 : (0 < (x0_1.size : Int)) = True := eq_true (of_decide_eq_true (by first | (with_reducible assumption) | assumption))
                    replace q46 := eq_true q46
                    go_wp2
                    go_meet
                    case rel => exact ⟨_, (decide ((x0_1.size : Int) ≥ 9)), (by first | rfl | (simp; done) | (simp [*]; done) | exact bq1 _ _ | exact bq2 _ _ | exact congrArg Value.bool (bq2 _ _) | exact congrArg Value.bool (bq1 _ _) | exact congrArg Value.bool (bq1' _ _) | exact bq1' _ _ | exact congrArg Value.bool (bq2' _ _) | exact bq2' _ _), H', ⟨by have := HK1.out; have := HJ3.out; first | omega | exact Nat.le_refl _⟩, ⟨by (with_reducible repeat (first | apply Kd.R_alloc | apply Kd.R_drewN | apply Kd.R_drew)); exact HO_4.out⟩, ⟨by (with_reducible repeat (first | refine blk_drewN ?_ _ | refine blk_drew ?_ | refine blk_alloc ?_ _)); exact BK194.out⟩, ⟨by repeat (first | (with_reducible first | exact HB.out | apply below_alloc | apply pw_below_drewN | apply below_drew1 | refine below_set ?_ GE194.out) | exact HB.out)⟩⟩
                  · rw [if_neg c47] at H
                    have c47b0 : ((bt x0_1 0) == 4) = false := beq_eq_false_iff_ne.mpr c47
                    have c47b1 : ((bt x0_1 0) != 4) = true := bne_iff_ne.mpr c47
                    have H' := Aside0.mk H
                    clear H
                    have p46 : 0 ≤ (0 : Int) := (by omega)
                    have q46 : 0 < x0_1.size := (by have : (0 : Int) < (x0_1.size : Int) := of_decide_eq_true (by first | (with_reducible assumption) | assumption); omega)
                    have hx46 : ∀ h : 0 < x0_1.size, ((x0_1[0]'h).toNat : Int) = bt x0_1 0 := bt_at x0_1 0
                    clear p46
                    have qi46 : (0 < (x0_1.size : Int)) = True := eq_true (of_decide_eq_true (by first | (with_reducible assumption) | assumption))
                    replace q46 := eq_true q46
                    go_wp2
                    go_meet
                    case rel => exact ⟨_, (false), (by first | rfl | (simp; done) | (simp [*]; done) | exact bq1 _ _ | exact bq2 _ _ | exact congrArg Value.bool (bq2 _ _) | exact congrArg Value.bool (bq1 _ _) | exact congrArg Value.bool (bq1' _ _) | exact bq1' _ _ | exact congrArg Value.bool (bq2' _ _) | exact bq2' _ _), H', ⟨by have := HK1.out; have := HJ3.out; first | omega | exact Nat.le_refl _⟩, ⟨by (with_reducible repeat (first | apply Kd.R_alloc | apply Kd.R_drewN | apply Kd.R_drew)); exact HO_4.out⟩, ⟨by (with_reducible repeat (first | refine blk_drewN ?_ _ | refine blk_drew ?_ | refine blk_alloc ?_ _)); exact BK194.out⟩, ⟨by repeat (first | (with_reducible first | exact HB.out | apply below_alloc | apply pw_below_drewN | apply below_drew1 | refine below_set ?_ GE194.out) | exact HB.out)⟩⟩
                · rw [if_neg c45] at H
                  exact absurd H (by simp)
              case rest =>
                clear HC44
                try clear c1
                try clear p1
                try clear q1
                try clear hx1
                try clear qi1
                try clear c2
                try clear c2b0
                try clear c2b1
                try clear p2
                try clear q2
                try clear c3
                try clear c4
                try clear p4
                try clear q4
                try clear hx4
                try clear qi4
                try clear c7
                try clear c8
                try clear c8b0
                try clear c8b1
                try clear p9
                try clear q9
                try clear hx9
                try clear qi9
                try clear c10
                try clear c10b0
                try clear c10b1
                try clear p11
                try clear q11
                try clear hx11
                try clear qi11
                try clear c12
                try clear c13
                try clear c13b0
                try clear c13b1
                try clear p14
                try clear q14
                try clear hx14
                try clear qi14
                try clear c17
                try clear c17b0
                try clear c17b1
                try clear c24
                try clear c24b0
                try clear c24b1
                try clear c25
                try clear c25b0
                try clear c25b1
                try clear c26
                try clear c26b0
                try clear c26b1
                try clear c27
                try clear c28
                try clear c28b0
                try clear c29
                try clear c29b0
                try clear c32
                try clear c33
                try clear c45
                try clear c45b0
                try clear c45b1
                try clear p46
                try clear q46
                try clear hx46
                try clear qi46
                try clear c47
                try clear c47b0
                try clear c47b1
                try clear hcz19_0
                try clear hcz19_1
                try clear hcz19_2
                try clear hcz31_0
                try clear hcz31_1
                try clear hcz31_2
                try clear hcz36_0
                try clear hcz36_1
                try clear hcz36_2
                try clear hcz39_0
                try clear hcz39_1
                try clear hcz39_2
                try clear hcz7_0
                try clear hcz7_1
                try clear hcz7_2
                try clear hfz19_0
                try clear hfz19_1
                try clear hfz19_2
                try clear hfz31_0
                try clear hfz31_1
                try clear hfz31_2
                try clear hfz36_0
                try clear hfz36_1
                try clear hfz36_2
                try clear hfz39_0
                try clear hfz39_1
                try clear hfz39_2
                try clear hfz7_0
                try clear hfz7_1
                try clear hfz7_2
                try clear p1
                try clear p11
                try clear p14
                try clear p2
                try clear p46
                try clear p9
                try clear q1
                try clear q11
                try clear q14
                try clear q2
                try clear q46
                try clear q9
                obtain ⟨kq, x25_43, rfl, HA, HJ43, HO_4, BK194, HB⟩ := hcut
                cases kq with
                | zero => exact absurd HA.out (by simp [relstoreref_Unkey.j2])
                | succ kj43 =>
                  have H := HA.out
                  clear HA
                  simp only [relstoreref_Unkey.j2] at H
                  by_cases c48 : x25_43 = true
                  · subst c48
                    have H1 : (if 1 ≤ 9 then (if 9 ≤ (x0_1.size : Int) then ((relstoreref_unbytes.f kj43 (x0_1.extract 1 9)).bind fun t205 => ((relstoreref_num.f (wrap64 (IntKind.u64.wrap (t205 - 9223372036854775808)))).bind fun bt206 => ((relstoreref_Key.f kj43 (([(⟨bt206.1, bt206.2.1, bt206.2.2⟩ : S38)] : List (S38)))).bind fun t212 => (if (t212.size : Int) > (x0_1.size : Int) then (some (([] : List (S38)), 4)) else (if 0 ≤ (t212.size : Int) then (if (t212.size : Int) ≤ (x0_1.size : Int) then (if (x0_1.extract 0 ((t212.size : Int) : Int).toNat).toList = t212.toList then (if x4_1.length < 4398046511104 then (relstoreref_Unkey.l0 kj43 (x0_1.extract ((t212.size : Int) : Int).toNat x0_1.size) (x4_1 ++ [(⟨bt206.1, bt206.2.1, bt206.2.2⟩ : S38)])) else (none)) else (some (([] : List (S38)), 4))) else (none)) else (none)))))) else (none)) else (none)) = some (r1, r2) := by rw [if_pos rfl] at H; exact H
                    clear H
                    have H := H1
                    clear H1
                    by_cases c49 : 1 ≤ 9
                    · rw [if_pos c49] at H
                      have c49b0 := eq_true c49
                      have c49b1 : decide (1 ≤ 9) = true := decide_eq_true c49
                      clear c49
                      by_cases c50 : 9 ≤ (x0_1.size : Int)
                      · rw [if_pos c50] at H
                        have c50b0 := eq_true c50
                        have c50b1 : decide (9 ≤ (x0_1.size : Int)) = true := decide_eq_true c50
                        clear c50
                        replace H := Option.bind_eq_some_iff.mp H
                        obtain ⟨t205, A510, H⟩ := H
                        replace H : ((relstoreref_num.f (wrap64 (IntKind.u64.wrap (t205 - 9223372036854775808)))).bind fun bt206 => ((relstoreref_Key.f kj43 (([(⟨bt206.1, bt206.2.1, bt206.2.2⟩ : S38)] : List (S38)))).bind fun t212 => (if (t212.size : Int) > (x0_1.size : Int) then (some (([] : List (S38)), 4)) else (if 0 ≤ (t212.size : Int) then (if (t212.size : Int) ≤ (x0_1.size : Int) then (if (x0_1.extract 0 ((t212.size : Int) : Int).toNat).toList = t212.toList then (if x4_1.length < 4398046511104 then (relstoreref_Unkey.l0 kj43 (x0_1.extract ((t212.size : Int) : Int).toNat x0_1.size) (x4_1 ++ [(⟨bt206.1, bt206.2.1, bt206.2.2⟩ : S38)])) else (none)) else (some (([] : List (S38)), 4))) else (none)) else (none))))) = some (r1, r2) := H
                        have A51 := Aside0.mk A510
                        clear A510
                        replace H := Option.bind_eq_some_iff.mp H
                        obtain ⟨⟨t206, t207, t208⟩, A520, H⟩ := H
                        replace H : ((relstoreref_Key.f kj43 (([(⟨t206, t207, t208⟩ : S38)] : List (S38)))).bind fun t212 => (if (t212.size : Int) > (x0_1.size : Int) then (some (([] : List (S38)), 4)) else (if 0 ≤ (t212.size : Int) then (if (t212.size : Int) ≤ (x0_1.size : Int) then (if (x0_1.extract 0 ((t212.size : Int) : Int).toNat).toList = t212.toList then (if x4_1.length < 4398046511104 then (relstoreref_Unkey.l0 kj43 (x0_1.extract ((t212.size : Int) : Int).toNat x0_1.size) (x4_1 ++ [(⟨t206, t207, t208⟩ : S38)])) else (none)) else (some (([] : List (S38)), 4))) else (none)) else (none)))) = some (r1, r2) := H
                        have A52 := Aside0.mk A520
                        clear A520
                        obtain ⟨y209, hy209⟩ : ∃ y_ : List (S38), y_ = (([(⟨t206, t207, t208⟩ : S38)] : List (S38))) := ⟨_, rfl⟩
                        replace H : ((relstoreref_Key.f kj43 y209).bind fun t212 => (if (t212.size : Int) > (x0_1.size : Int) then (some (([] : List (S38)), 4)) else (if 0 ≤ (t212.size : Int) then (if (t212.size : Int) ≤ (x0_1.size : Int) then (if (x0_1.extract 0 ((t212.size : Int) : Int).toNat).toList = t212.toList then (if x4_1.length < 4398046511104 then (relstoreref_Unkey.l0 kj43 (x0_1.extract ((t212.size : Int) : Int).toNat x0_1.size) (x4_1 ++ [(⟨t206, t207, t208⟩ : S38)])) else (none)) else (some (([] : List (S38)), 4))) else (none)) else (none)))) = some (r1, r2) := by first | (rw [hy209]; with_reducible exact H) | (have H2_ := (Option.bind_some _ _).symm.trans H; rw [hy209]; with_reducible exact H2_) | (have H2_ := (Option.bind_some _ _).symm.trans H; with_reducible exact H2_) | with_reducible exact H | (rw [hy209]; exact H) | exact H
                        have Ny209 := Aside0.mk hy209
                        clear hy209
                        replace H := Option.bind_eq_some_iff.mp H
                        obtain ⟨t212, A530, H⟩ := H
                        replace H : (if (t212.size : Int) > (x0_1.size : Int) then (some (([] : List (S38)), 4)) else (if 0 ≤ (t212.size : Int) then (if (t212.size : Int) ≤ (x0_1.size : Int) then (if (x0_1.extract 0 ((t212.size : Int) : Int).toNat).toList = t212.toList then (if x4_1.length < 4398046511104 then (relstoreref_Unkey.l0 kj43 (x0_1.extract ((t212.size : Int) : Int).toNat x0_1.size) (x4_1 ++ [(⟨t206, t207, t208⟩ : S38)])) else (none)) else (some (([] : List (S38)), 4))) else (none)) else (none))) = some (r1, r2) := H
                        have A53 := Aside0.mk A530
                        clear A530
                        by_cases c54 : (t212.size : Int) > (x0_1.size : Int)
                        · rw [if_pos c54] at H
                          have c54b0 : decide ((x0_1.size : Int) < (t212.size : Int)) = true := decide_eq_true c54
                          have c54b1 : decide (x0_1.size < t212.size) = true := decide_eq_true (Int.ofNat_lt.mp c54)
                          clear c54
                          simp only [Option.some.injEq, Prod.mk.injEq] at H
                          obtain ⟨rfl, rfl⟩ := H
                          go_wp2_with (first | ((with_reducible refine gate_callee (f := 35) rfl ?_); refine goesL_ (some 36) rfl rfl Tryd.func35 (by kernel_rfl) rfl #[.string (x0_1.extract 1 9)] rfl (by (try simp only [List.map_toArray, List.map_cons, List.map_nil]); first | done | rfl | (simp only [List.length_drop, List.length_take]; rfl) | (simp only [Int.ofNat_lt, Int.ofNat_le]; done) | (simp only [Int.ofNat_lt, Int.ofNat_le]; rfl) | (simp only [ByteArray.size_append, Int.natCast_add]; rfl)) ?_; (with_reducible refine (relstoreref_unbytes.calls kj43 (x0_1.extract 1 9) t205 _ A51.out).mono ?_); rintro e w' ⟨rfl, ⟨nd, rfl⟩⟩; refine ⟨_, rfl, ?_⟩; (try (rw [drewN_self wc]; generalize hq_ : World.drewN wc _ = wc; have n0_ : Aside0 (Kd.R k38 38 wc w.heap.size (fun k_ => k_ ≠ gb194) u4 x4_1) := ⟨by rw [← hq_]; exact (by (with_reducible repeat (first | apply Kd.R_alloc | apply Kd.R_drewN | apply Kd.R_drew)); exact HO_4.out)⟩; have n1_ : Aside0 (wc.heap[gb194]? = some (.cells #[.int .i64 t191, .int .i64 t192, .string t193] 38 (0, 0))) := ⟨by rw [← hq_]; exact (by (with_reducible repeat (first | refine blk_drewN ?_ _ | refine blk_drew ?_ | refine blk_alloc ?_ _)); exact BK194.out)⟩; have n2_ : Aside0 (Below w.heap.size w wc) := ⟨by rw [← hq_]; exact (by repeat (first | (with_reducible first | exact HB.out | apply below_alloc | apply pw_below_drewN | apply below_drew1 | refine below_set ?_ GE194.out) | exact HB.out))⟩; clear HO_4 BK194 HB hq_; have HO_4 := n0_; have BK194 := n1_; have HB := n2_; clear n0_ n1_ n2_))) | ((with_reducible refine gate_callee (f := 34) rfl ?_); refine goesL_ (some 39) rfl rfl Tryd.func34 (by kernel_rfl) rfl #[.int .i64 (wrap64 (IntKind.u64.wrap (t205 - 9223372036854775808)))] rfl (by (try simp only [List.map_toArray, List.map_cons, List.map_nil]); first | done | rfl | (simp only [List.length_drop, List.length_take]; rfl) | (simp only [Int.ofNat_lt, Int.ofNat_le]; done) | (simp only [Int.ofNat_lt, Int.ofNat_le]; rfl) | (simp only [ByteArray.size_append, Int.natCast_add]; rfl)) ?_; (with_reducible refine (relstoreref_num.calls (wrap64 (IntKind.u64.wrap (t205 - 9223372036854775808))) t206 t207 t208 _ A52.out).mono ?_); rintro e w55 ⟨rfl, hb⟩; refine ⟨_, rfl, ?_⟩; have n0_ := Aside0.mk (Kd.R_below (by (with_reducible repeat (first | apply Kd.R_alloc | apply Kd.R_drewN | apply Kd.R_drew)); exact HO_4.out) hb); have n1_ := Aside0.mk (blk_below (g := gb194) (o := .cells #[.int .i64 t191, .int .i64 t192, .string t193] 38 (0, 0)) (by (with_reducible repeat (first | refine blk_drewN ?_ _ | refine blk_drew ?_ | refine blk_alloc ?_ _)); exact BK194.out) hb); have n2_ := Aside0.mk (below_step (by repeat (first | (with_reducible first | exact HB.out | apply below_alloc | apply pw_below_drewN | apply below_drew1 | refine below_set ?_ GE194.out) | exact HB.out)) hb); clear HO_4; clear BK194; clear HB; have HO_4 := n0_; have BK194 := n1_; have HB := n2_; clear n0_ n1_ n2_; (try clear hb); (try clear hb2); (try clear hk); (try clear hi); have hcz56_0 : w55.cell? ⟨gb194, 0, none⟩ = some (.int .i64 t191) := (blk_cell BK194.out 0).trans rfl; have hcz56_1 : w55.cell? ⟨gb194, 1, none⟩ = some (.int .i64 t192) := (blk_cell BK194.out 1).trans rfl; have hcz56_2 : w55.cell? ⟨gb194, 2, none⟩ = some (.string t193) := (blk_cell BK194.out 2).trans rfl; have hfz56_0 := blk_frozen BK194.out 0; have hfz56_1 := blk_frozen BK194.out 1; have hfz56_2 := blk_frozen BK194.out 2) | ((with_reducible refine gate_dst (N := 81) rfl ?_); (try (refine gate_guard (by rfl) ?_; dsimp only)); refine Kd.R_lit k38 _ 38 ?hg (N := 81) ?hd (xs := ([(⟨t206, t207, t208⟩ : S38)] : List (S38))) (inner := [.int .i64 t206, .int .i64 t207, .string t208]) (ok := fun _ => True) (okp := fun _ => True) ?hr ?hp (fun _ hk => hk) trivial (Below.refl _ _) (Nat.le_refl _) (by simp) ?_; (case hd => rfl); (case hg => rfl); (case hr => first | (go_simp; done) | (go_simp; rfl)); (case hp => exact (Reps.c3 (show Kd.M k38 _ _ _ (⟨t206, t207, t208⟩ : S38) [.int .i64 t206, .int .i64 t207, .string t208] from (k38_mkM _ _ _ (⟨t206, t207, t208⟩ : S38) )) (Reps.none _ _))); intro v210 w57 ho58 hb hg_ hnew_; clear hg_ hnew_; (first | rw [← Ny209.out] at ho58 | (simp only [Int.reduceToNat] at ho58; rw [← Ny209.out] at ho58)); have n0_ := Aside0.mk (Kd.R_elder' (by (with_reducible repeat (first | apply Kd.R_alloc | apply Kd.R_drewN | apply Kd.R_drew)); exact (Kd.R_mono (Kd.R_far (p := ⟨gb194, 2, none⟩) (Kd.R_far (p := ⟨gb194, 1, none⟩) (Kd.R_far (p := ⟨gb194, 0, none⟩) (Kd.R_mono HO_4.out (fun k_ hk => (⟨hk, hk⟩ : _ ∧ k_ ≠ gb194))) (fun _ hk => hk.2) (.int .i64 t206)) (fun _ hk => hk.2) (.int .i64 t207)) (fun _ hk => hk.2) (.string t208)) (fun _ h_ => h_.1))) (Kd.R_base ho58) hb); have n1_ := Aside0.mk (Kd.R_lower (Kd.R_newB (Kd.R_new' ho58 (Kd.R_lt (by (with_reducible repeat (first | apply Kd.R_alloc | apply Kd.R_drewN | apply Kd.R_drew)); exact (Kd.R_mono (Kd.R_far (p := ⟨gb194, 2, none⟩) (Kd.R_far (p := ⟨gb194, 1, none⟩) (Kd.R_far (p := ⟨gb194, 0, none⟩) (Kd.R_mono HO_4.out (fun k_ hk => (⟨hk, hk⟩ : _ ∧ k_ ≠ gb194))) (fun _ hk => hk.2) (.int .i64 t206)) (fun _ hk => hk.2) (.int .i64 t207)) (fun _ hk => hk.2) (.string t208)) (fun _ h_ => h_.1))))) (g := gb194) (o := .cells #[.int .i64 t206, .int .i64 t207, .string t208] 38 (0, 0)) (by (with_reducible repeat (first | refine blk_drewN ?_ _ | refine blk_drew ?_ | refine blk_alloc ?_ _)); refine blk_put (cs := #[.int .i64 t206, .int .i64 t207, .string t193]) ?_ 2 _ rfl; (with_reducible repeat (first | refine blk_drewN ?_ _ | refine blk_drew ?_ | refine blk_alloc ?_ _)); refine blk_put (cs := #[.int .i64 t206, .int .i64 t192, .string t193]) ?_ 1 _ rfl; (with_reducible repeat (first | refine blk_drewN ?_ _ | refine blk_drew ?_ | refine blk_alloc ?_ _)); refine blk_put (cs := #[.int .i64 t191, .int .i64 t192, .string t193]) ?_ 0 _ rfl; (with_reducible repeat (first | refine blk_drewN ?_ _ | refine blk_drew ?_ | refine blk_alloc ?_ _)); exact BK194.out)) (below_size (by repeat (first | (with_reducible first | exact HB.out | apply below_alloc | apply pw_below_drewN | apply below_drew1 | refine below_set ?_ GE194.out) | exact HB.out)))); have n2_ := Aside0.mk (blk_below (g := gb194) (o := .cells #[.int .i64 t206, .int .i64 t207, .string t208] 38 (0, 0)) (by (with_reducible repeat (first | refine blk_drewN ?_ _ | refine blk_drew ?_ | refine blk_alloc ?_ _)); refine blk_put (cs := #[.int .i64 t206, .int .i64 t207, .string t193]) ?_ 2 _ rfl; (with_reducible repeat (first | refine blk_drewN ?_ _ | refine blk_drew ?_ | refine blk_alloc ?_ _)); refine blk_put (cs := #[.int .i64 t206, .int .i64 t192, .string t193]) ?_ 1 _ rfl; (with_reducible repeat (first | refine blk_drewN ?_ _ | refine blk_drew ?_ | refine blk_alloc ?_ _)); refine blk_put (cs := #[.int .i64 t191, .int .i64 t192, .string t193]) ?_ 0 _ rfl; (with_reducible repeat (first | refine blk_drewN ?_ _ | refine blk_drew ?_ | refine blk_alloc ?_ _)); exact BK194.out) hb); have n3_ := Aside0.mk (below_step (by repeat (first | (with_reducible first | exact HB.out | apply below_alloc | apply pw_below_drewN | apply below_drew1 | refine below_set ?_ GE194.out) | exact HB.out)) hb); clear HO_4; clear BK194; clear HB; have HO_4 := n0_; have HO211 := n1_; have BK194 := n2_; have HB := n3_; clear n0_ n1_ n2_ n3_; clear hb ho58; obtain ⟨Ao59, co59, eo59⟩ := Kd.R_slice HO211.out; subst eo59) | ((with_reducible refine gate_callee (f := 10) rfl ?_); refine goesL_ (some 82) rfl rfl Tryd.func10 (by kernel_rfl) rfl #[.slice Ao59 y209.length co59] rfl (by (try simp only [List.map_toArray, List.map_cons, List.map_nil]); first | done | rfl | (simp only [List.length_drop, List.length_take]; rfl) | (simp only [Int.ofNat_lt, Int.ofNat_le]; done) | (simp only [Int.ofNat_lt, Int.ofNat_le]; rfl) | (simp only [ByteArray.size_append, Int.natCast_add]; rfl)) ?_; (with_reducible refine (relstoreref_Key.calls kj43 _ _ y209 t212 _ ?side1 ?side2 A53.out).mono ?_); (case side1 => repeat (first | exact (Kd.R_reads' HO211.out).2.2 | (with_reducible refine Kd.C_alloc ?_ _) | (with_reducible refine Kd.C_drewN ?_ _) | (with_reducible refine Kd.C_drew ?_))); (case side2 => exact (Kd.R_reads' HO211.out).2.1); rintro e w60 ⟨rfl, hb⟩; refine ⟨_, rfl, ?_⟩; have n0_ := Aside0.mk (Kd.R_below (by (with_reducible repeat (first | apply Kd.R_alloc | apply Kd.R_drewN | apply Kd.R_drew)); exact HO_4.out) hb); have n1_ := Aside0.mk (Kd.R_below (by (with_reducible repeat (first | apply Kd.R_alloc | apply Kd.R_drewN | apply Kd.R_drew)); exact HO211.out) hb); have n2_ := Aside0.mk (blk_below (g := gb194) (o := .cells #[.int .i64 t206, .int .i64 t207, .string t208] 38 (0, 0)) (by (with_reducible repeat (first | refine blk_drewN ?_ _ | refine blk_drew ?_ | refine blk_alloc ?_ _)); exact BK194.out) hb); have n3_ := Aside0.mk (below_step (by repeat (first | (with_reducible first | exact HB.out | apply below_alloc | apply pw_below_drewN | apply below_drew1 | refine below_set ?_ GE194.out) | exact HB.out)) hb); clear HO_4; clear HO211; clear BK194; clear HB; have HO_4 := n0_; have HO211 := n1_; have BK194 := n2_; have HB := n3_; clear n0_ n1_ n2_ n3_; (try clear hb); (try clear hb2); (try clear hk); (try clear hi)))
                          go_ret2
                          exact ⟨_, by first | rfl | (simp [errW_none, errW_some] <;> rfl) | (simp [*, errW_none, errW_some] <;> rfl), by first | exact Kd.R_nil _ _ _ _ _ | exact Kd.N_nil _ _ _ _ _ | exact Kd.V_nil _ _ _ _ _ | exact Kd.Q_nil _ _ _ _ _ | exact Kd.S_nil _ _ _ _ _, by repeat (first | (with_reducible first | exact HB.out | apply below_alloc | apply pw_below_drewN | apply below_drew1 | refine below_set ?_ GE194.out) | exact HB.out)⟩
                        · rw [if_neg c54] at H
                          have c54b0 : decide ((x0_1.size : Int) < (t212.size : Int)) = false := decide_eq_false c54
                          have c54b1 : decide (x0_1.size < t212.size) = false := decide_eq_false (fun h => c54 (Int.ofNat_lt.mpr h))
                          clear c54
                          by_cases c61 : 0 ≤ (t212.size : Int)
                          · rw [if_pos c61] at H
                            have c61b0 := eq_true c61
                            have c61b1 : decide (0 ≤ (t212.size : Int)) = true := decide_eq_true c61
                            clear c61
                            by_cases c62 : (t212.size : Int) ≤ (x0_1.size : Int)
                            · rw [if_pos c62] at H
                              have c62b0 := eq_true c62
                              have c62b1 : decide ((t212.size : Int) ≤ (x0_1.size : Int)) = true := decide_eq_true c62
                              clear c62
                              by_cases c63 : (x0_1.extract 0 ((t212.size : Int) : Int).toNat).toList = t212.toList
                              · rw [if_pos c63] at H
                                have c63b0 : ((x0_1.extract 0 ((t212.size : Int) : Int).toNat).toList == t212.toList) = true := beq_iff_eq.mpr c63
                                try (have c63b9 := c63b0; simp only [Int.toNat_natCast] at c63b9)
                                have c63b1 : ((x0_1.extract 0 ((t212.size : Int) : Int).toNat).toList != t212.toList) = false := bne_eq_false_iff_eq.mpr c63
                                clear c63
                                by_cases c64 : x4_1.length < 4398046511104
                                · rw [if_pos c64] at H
                                  have LMc64 := Aside0.mk c64
                                  clear c64
                                  obtain ⟨y213, hy213⟩ : ∃ y_ : List (S38), y_ = (x4_1 ++ [(⟨t206, t207, t208⟩ : S38)]) := ⟨_, rfl⟩
                                  replace H : (relstoreref_Unkey.l0 kj43 (x0_1.extract ((t212.size : Int) : Int).toNat x0_1.size) y213) = some (r1, r2) := by first | (rw [hy213]; with_reducible exact H) | (have H2_ := (Option.bind_some _ _).symm.trans H; rw [hy213]; with_reducible exact H2_) | (have H2_ := (Option.bind_some _ _).symm.trans H; with_reducible exact H2_) | with_reducible exact H | (rw [hy213]; exact H) | exact H
                                  have Ny213 := Aside0.mk hy213
                                  clear hy213
                                  have c65b0 := eq_true (of_decide_eq_true (by first | (with_reducible assumption) | assumption) : 0 ≤ (t212.size : Int))
                                  have c66b0 := eq_true (of_decide_eq_true (by first | (with_reducible assumption) | assumption) : (t212.size : Int) ≤ (x0_1.size : Int))
                                  have H' := Aside0.mk H
                                  clear H
                                  go_wp2_with (first | ((with_reducible refine gate_callee (f := 35) rfl ?_); refine goesL_ (some 36) rfl rfl Tryd.func35 (by kernel_rfl) rfl #[.string (x0_1.extract 1 9)] rfl (by (try simp only [List.map_toArray, List.map_cons, List.map_nil]); first | done | rfl | (simp only [List.length_drop, List.length_take]; rfl) | (simp only [Int.ofNat_lt, Int.ofNat_le]; done) | (simp only [Int.ofNat_lt, Int.ofNat_le]; rfl) | (simp only [ByteArray.size_append, Int.natCast_add]; rfl)) ?_; (with_reducible refine (relstoreref_unbytes.calls kj43 (x0_1.extract 1 9) t205 _ A51.out).mono ?_); rintro e w' ⟨rfl, ⟨nd, rfl⟩⟩; refine ⟨_, rfl, ?_⟩; (try (rw [drewN_self wc]; generalize hq_ : World.drewN wc _ = wc; have n0_ : Aside0 (Kd.R k38 38 wc w.heap.size (fun k_ => k_ ≠ gb194) u4 x4_1) := ⟨by rw [← hq_]; exact (by (with_reducible repeat (first | apply Kd.R_alloc | apply Kd.R_drewN | apply Kd.R_drew)); exact HO_4.out)⟩; have n1_ : Aside0 (wc.heap[gb194]? = some (.cells #[.int .i64 t191, .int .i64 t192, .string t193] 38 (0, 0))) := ⟨by rw [← hq_]; exact (by (with_reducible repeat (first | refine blk_drewN ?_ _ | refine blk_drew ?_ | refine blk_alloc ?_ _)); exact BK194.out)⟩; have n2_ : Aside0 (Below w.heap.size w wc) := ⟨by rw [← hq_]; exact (by repeat (first | (with_reducible first | exact HB.out | apply below_alloc | apply pw_below_drewN | apply below_drew1 | refine below_set ?_ GE194.out) | exact HB.out))⟩; clear HO_4 BK194 HB hq_; have HO_4 := n0_; have BK194 := n1_; have HB := n2_; clear n0_ n1_ n2_))) | ((with_reducible refine gate_callee (f := 34) rfl ?_); refine goesL_ (some 39) rfl rfl Tryd.func34 (by kernel_rfl) rfl #[.int .i64 (wrap64 (IntKind.u64.wrap (t205 - 9223372036854775808)))] rfl (by (try simp only [List.map_toArray, List.map_cons, List.map_nil]); first | done | rfl | (simp only [List.length_drop, List.length_take]; rfl) | (simp only [Int.ofNat_lt, Int.ofNat_le]; done) | (simp only [Int.ofNat_lt, Int.ofNat_le]; rfl) | (simp only [ByteArray.size_append, Int.natCast_add]; rfl)) ?_; (with_reducible refine (relstoreref_num.calls (wrap64 (IntKind.u64.wrap (t205 - 9223372036854775808))) t206 t207 t208 _ A52.out).mono ?_); rintro e w67 ⟨rfl, hb⟩; refine ⟨_, rfl, ?_⟩; have n0_ := Aside0.mk (Kd.R_below (by (with_reducible repeat (first | apply Kd.R_alloc | apply Kd.R_drewN | apply Kd.R_drew)); exact HO_4.out) hb); have n1_ := Aside0.mk (blk_below (g := gb194) (o := .cells #[.int .i64 t191, .int .i64 t192, .string t193] 38 (0, 0)) (by (with_reducible repeat (first | refine blk_drewN ?_ _ | refine blk_drew ?_ | refine blk_alloc ?_ _)); exact BK194.out) hb); have n2_ := Aside0.mk (below_step (by repeat (first | (with_reducible first | exact HB.out | apply below_alloc | apply pw_below_drewN | apply below_drew1 | refine below_set ?_ GE194.out) | exact HB.out)) hb); clear HO_4; clear BK194; clear HB; have HO_4 := n0_; have BK194 := n1_; have HB := n2_; clear n0_ n1_ n2_; (try clear hb); (try clear hb2); (try clear hk); (try clear hi); have hcz68_0 : w67.cell? ⟨gb194, 0, none⟩ = some (.int .i64 t191) := (blk_cell BK194.out 0).trans rfl; have hcz68_1 : w67.cell? ⟨gb194, 1, none⟩ = some (.int .i64 t192) := (blk_cell BK194.out 1).trans rfl; have hcz68_2 : w67.cell? ⟨gb194, 2, none⟩ = some (.string t193) := (blk_cell BK194.out 2).trans rfl; have hfz68_0 := blk_frozen BK194.out 0; have hfz68_1 := blk_frozen BK194.out 1; have hfz68_2 := blk_frozen BK194.out 2) | ((with_reducible refine gate_dst (N := 81) rfl ?_); (try (refine gate_guard (by rfl) ?_; dsimp only)); refine Kd.R_lit k38 _ 38 ?hg (N := 81) ?hd (xs := ([(⟨t206, t207, t208⟩ : S38)] : List (S38))) (inner := [.int .i64 t206, .int .i64 t207, .string t208]) (ok := fun _ => True) (okp := fun _ => True) ?hr ?hp (fun _ hk => hk) trivial (Below.refl _ _) (Nat.le_refl _) (by simp) ?_; (case hd => rfl); (case hg => rfl); (case hr => first | (go_simp; done) | (go_simp; rfl)); (case hp => exact (Reps.c3 (show Kd.M k38 _ _ _ (⟨t206, t207, t208⟩ : S38) [.int .i64 t206, .int .i64 t207, .string t208] from (k38_mkM _ _ _ (⟨t206, t207, t208⟩ : S38) )) (Reps.none _ _))); intro v210 w69 ho70 hb hg_ hnew_; clear hg_ hnew_; (first | rw [← Ny209.out] at ho70 | (simp only [Int.reduceToNat] at ho70; rw [← Ny209.out] at ho70)); have n0_ := Aside0.mk (Kd.R_elder' (by (with_reducible repeat (first | apply Kd.R_alloc | apply Kd.R_drewN | apply Kd.R_drew)); exact (Kd.R_mono (Kd.R_far (p := ⟨gb194, 2, none⟩) (Kd.R_far (p := ⟨gb194, 1, none⟩) (Kd.R_far (p := ⟨gb194, 0, none⟩) (Kd.R_mono HO_4.out (fun k_ hk => (⟨hk, hk⟩ : _ ∧ k_ ≠ gb194))) (fun _ hk => hk.2) (.int .i64 t206)) (fun _ hk => hk.2) (.int .i64 t207)) (fun _ hk => hk.2) (.string t208)) (fun _ h_ => h_.1))) (Kd.R_base ho70) hb); have n1_ := Aside0.mk (Kd.R_lower (Kd.R_newB (Kd.R_new' ho70 (Kd.R_lt (by (with_reducible repeat (first | apply Kd.R_alloc | apply Kd.R_drewN | apply Kd.R_drew)); exact (Kd.R_mono (Kd.R_far (p := ⟨gb194, 2, none⟩) (Kd.R_far (p := ⟨gb194, 1, none⟩) (Kd.R_far (p := ⟨gb194, 0, none⟩) (Kd.R_mono HO_4.out (fun k_ hk => (⟨hk, hk⟩ : _ ∧ k_ ≠ gb194))) (fun _ hk => hk.2) (.int .i64 t206)) (fun _ hk => hk.2) (.int .i64 t207)) (fun _ hk => hk.2) (.string t208)) (fun _ h_ => h_.1))))) (g := gb194) (o := .cells #[.int .i64 t206, .int .i64 t207, .string t208] 38 (0, 0)) (by (with_reducible repeat (first | refine blk_drewN ?_ _ | refine blk_drew ?_ | refine blk_alloc ?_ _)); refine blk_put (cs := #[.int .i64 t206, .int .i64 t207, .string t193]) ?_ 2 _ rfl; (with_reducible repeat (first | refine blk_drewN ?_ _ | refine blk_drew ?_ | refine blk_alloc ?_ _)); refine blk_put (cs := #[.int .i64 t206, .int .i64 t192, .string t193]) ?_ 1 _ rfl; (with_reducible repeat (first | refine blk_drewN ?_ _ | refine blk_drew ?_ | refine blk_alloc ?_ _)); refine blk_put (cs := #[.int .i64 t191, .int .i64 t192, .string t193]) ?_ 0 _ rfl; (with_reducible repeat (first | refine blk_drewN ?_ _ | refine blk_drew ?_ | refine blk_alloc ?_ _)); exact BK194.out)) (below_size (by repeat (first | (with_reducible first | exact HB.out | apply below_alloc | apply pw_below_drewN | apply below_drew1 | refine below_set ?_ GE194.out) | exact HB.out)))); have n2_ := Aside0.mk (blk_below (g := gb194) (o := .cells #[.int .i64 t206, .int .i64 t207, .string t208] 38 (0, 0)) (by (with_reducible repeat (first | refine blk_drewN ?_ _ | refine blk_drew ?_ | refine blk_alloc ?_ _)); refine blk_put (cs := #[.int .i64 t206, .int .i64 t207, .string t193]) ?_ 2 _ rfl; (with_reducible repeat (first | refine blk_drewN ?_ _ | refine blk_drew ?_ | refine blk_alloc ?_ _)); refine blk_put (cs := #[.int .i64 t206, .int .i64 t192, .string t193]) ?_ 1 _ rfl; (with_reducible repeat (first | refine blk_drewN ?_ _ | refine blk_drew ?_ | refine blk_alloc ?_ _)); refine blk_put (cs := #[.int .i64 t191, .int .i64 t192, .string t193]) ?_ 0 _ rfl; (with_reducible repeat (first | refine blk_drewN ?_ _ | refine blk_drew ?_ | refine blk_alloc ?_ _)); exact BK194.out) hb); have n3_ := Aside0.mk (below_step (by repeat (first | (with_reducible first | exact HB.out | apply below_alloc | apply pw_below_drewN | apply below_drew1 | refine below_set ?_ GE194.out) | exact HB.out)) hb); clear HO_4; clear BK194; clear HB; have HO_4 := n0_; have HO211 := n1_; have BK194 := n2_; have HB := n3_; clear n0_ n1_ n2_ n3_; clear hb ho70; obtain ⟨Ao71, co71, eo71⟩ := Kd.R_slice HO211.out; subst eo71) | ((with_reducible refine gate_callee (f := 10) rfl ?_); refine goesL_ (some 82) rfl rfl Tryd.func10 (by kernel_rfl) rfl #[.slice Ao71 y209.length co71] rfl (by (try simp only [List.map_toArray, List.map_cons, List.map_nil]); first | done | rfl | (simp only [List.length_drop, List.length_take]; rfl) | (simp only [Int.ofNat_lt, Int.ofNat_le]; done) | (simp only [Int.ofNat_lt, Int.ofNat_le]; rfl) | (simp only [ByteArray.size_append, Int.natCast_add]; rfl)) ?_; (with_reducible refine (relstoreref_Key.calls kj43 _ _ y209 t212 _ ?side1 ?side2 A53.out).mono ?_); (case side1 => repeat (first | exact (Kd.R_reads' HO211.out).2.2 | (with_reducible refine Kd.C_alloc ?_ _) | (with_reducible refine Kd.C_drewN ?_ _) | (with_reducible refine Kd.C_drew ?_))); (case side2 => exact (Kd.R_reads' HO211.out).2.1); rintro e w72 ⟨rfl, hb⟩; refine ⟨_, rfl, ?_⟩; have n0_ := Aside0.mk (Kd.R_below (by (with_reducible repeat (first | apply Kd.R_alloc | apply Kd.R_drewN | apply Kd.R_drew)); exact HO_4.out) hb); have n1_ := Aside0.mk (Kd.R_below (by (with_reducible repeat (first | apply Kd.R_alloc | apply Kd.R_drewN | apply Kd.R_drew)); exact HO211.out) hb); have n2_ := Aside0.mk (blk_below (g := gb194) (o := .cells #[.int .i64 t206, .int .i64 t207, .string t208] 38 (0, 0)) (by (with_reducible repeat (first | refine blk_drewN ?_ _ | refine blk_drew ?_ | refine blk_alloc ?_ _)); exact BK194.out) hb); have n3_ := Aside0.mk (below_step (by repeat (first | (with_reducible first | exact HB.out | apply below_alloc | apply pw_below_drewN | apply below_drew1 | refine below_set ?_ GE194.out) | exact HB.out)) hb); clear HO_4; clear HO211; clear BK194; clear HB; have HO_4 := n0_; have HO211 := n1_; have BK194 := n2_; have HB := n3_; clear n0_ n1_ n2_ n3_; (try clear hb); (try clear hb2); (try clear hk); (try clear hi); have hcz73_0 : w72.cell? ⟨gb194, 0, none⟩ = some (.int .i64 t206) := (blk_cell BK194.out 0).trans rfl; have hcz73_1 : w72.cell? ⟨gb194, 1, none⟩ = some (.int .i64 t207) := (blk_cell BK194.out 1).trans rfl; have hcz73_2 : w72.cell? ⟨gb194, 2, none⟩ = some (.string t208) := (blk_cell BK194.out 2).trans rfl; have hfz73_0 := blk_frozen BK194.out 0; have hfz73_1 := blk_frozen BK194.out 1; have hfz73_2 := blk_frozen BK194.out 2) | ((with_reducible refine gate_builtin (b := .append) (xs := #[.tmp 96, .tmp 98]) rfl ?_); (try (refine gate_guard (by rfl) ?_; dsimp only)); at_builtin; refine Kd.R_append k38 (w0 := w) w.heap.size rfl (.tmp 96) (.tmp 98) 22 38 (.agg #[(.int .i64 0), (.int .i64 0), (.string ⟨#[]⟩)]) 32 rfl Tryd.underlying22 info38 rfl (by decide) (by omega) u4 x4_1 (⟨t206, t207, t208⟩ : S38) [.int .i64 t206, .int .i64 t207, .string t208] (fun k_ => some k_ ≠ (.slice Ao71 y209.length co71 : Value).ownBlock ∧ k_ ≠ gb194) (fun _ => False) rfl rfl ?aP (fun _ hk => hk.elim) ?aF ?aO ?aB ?aS ?aL ?_; (case aP => exact k38_mkM _ _ _ (⟨t206, t207, t208⟩ : S38)); (case aB => exact (by repeat (first | (with_reducible first | exact HB.out | apply below_alloc | apply pw_below_drewN | apply below_drew1 | refine below_set ?_ GE194.out) | exact HB.out))); (case aF => exact (fun k_ hk => ⟨Kd.fresh' (Kd.R_lt (by (with_reducible repeat (first | apply Kd.R_alloc | apply Kd.R_drewN | apply Kd.R_drew)); exact HO211.out)) k_ hk, Kd.freshB (g := gb194) (o := .cells #[.int .i64 t206, .int .i64 t207, .string t208] 38 (0, 0)) (by (with_reducible repeat (first | refine blk_drewN ?_ _ | refine blk_drew ?_ | refine blk_alloc ?_ _)); exact BK194.out) k_ hk⟩)); (case aO => exact (by (with_reducible repeat (first | apply Kd.R_alloc | apply Kd.R_drewN | apply Kd.R_drew)); exact Kd.R_mono HO_4.out (fun _ hk => ⟨hk.2, hk.1⟩))); (case aS => exact (below_size (by repeat (first | (with_reducible first | exact HB.out | apply below_alloc | apply pw_below_drewN | apply below_drew1 | refine below_set ?_ GE194.out) | exact HB.out)))); (case aL => have := LMc64.out; omega); intro v214 w74 ho hb hg hat; rw [← Ny213.out] at ho; have n0_ := Aside0.mk (blk_grown (g := gb194) (o := .cells #[.int .i64 t206, .int .i64 t207, .string t208] 38 (0, 0)) (by (with_reducible repeat (first | refine blk_drewN ?_ _ | refine blk_drew ?_ | refine blk_alloc ?_ _)); exact BK194.out) hg (Kd.R_away HO_4.out (fun _ hk => hk.1))); have n1_ := Aside0.mk (Kd.R_after (ok := (fun k_ => k_ ≠ gb194)) (by (with_reducible repeat (first | apply Kd.R_alloc | apply Kd.R_drewN | apply Kd.R_drew)); exact Kd.R_mono HO211.out (fun _ hk => ⟨hk.2, hk.1.2⟩)) hg hat); have n2_ := Aside0.mk (hb); have n3_ := Aside0.mk (ho); clear BK194; clear HO211; clear HB; clear HO_4; have BK194 := n0_; have HO211 := n1_; have HB := n2_; have HO215 := n3_; clear n0_ n1_ n2_ n3_; clear ho hb hg hat))
                                  go_roundg kj43
                                  case measure => have := HK1.out; have := HJ3.out; have := HJ43.out; omega
                                  case rel => exact ⟨(x0_1.extract ((t212.size : Int) : Int).toNat x0_1.size), (y213), (by first | rfl | (simp; done) | (simp [*]; done) | exact bq1 _ _ | exact bq2 _ _ | exact congrArg Value.bool (bq2 _ _) | exact congrArg Value.bool (bq1 _ _) | exact congrArg Value.bool (bq1' _ _) | exact bq1' _ _ | exact congrArg Value.bool (bq2' _ _) | exact bq2' _ _), H', ⟨by have := HK1.out; have := HJ3.out; have := HJ43.out; omega⟩, ⟨by (with_reducible repeat (first | apply Kd.R_alloc | apply Kd.R_drewN | apply Kd.R_drew)); exact Kd.R_mono HO215.out (fun _ hk => trivial)⟩, ⟨by repeat (first | (with_reducible first | exact HB.out | apply below_alloc | apply pw_below_drewN | apply below_drew1 | refine below_set ?_ GE194.out) | exact HB.out)⟩⟩
                                · rw [if_neg c64] at H
                                  exact absurd H (by simp)
                              · rw [if_neg c63] at H
                                have c63b0 : ((x0_1.extract 0 ((t212.size : Int) : Int).toNat).toList == t212.toList) = false := beq_eq_false_iff_ne.mpr c63
                                try (have c63b9 := c63b0; simp only [Int.toNat_natCast] at c63b9)
                                have c63b1 : ((x0_1.extract 0 ((t212.size : Int) : Int).toNat).toList != t212.toList) = true := bne_iff_ne.mpr c63
                                simp only [Option.some.injEq, Prod.mk.injEq] at H
                                obtain ⟨rfl, rfl⟩ := H
                                go_wp2_with (first | ((with_reducible refine gate_callee (f := 35) rfl ?_); refine goesL_ (some 36) rfl rfl Tryd.func35 (by kernel_rfl) rfl #[.string (x0_1.extract 1 9)] rfl (by (try simp only [List.map_toArray, List.map_cons, List.map_nil]); first | done | rfl | (simp only [List.length_drop, List.length_take]; rfl) | (simp only [Int.ofNat_lt, Int.ofNat_le]; done) | (simp only [Int.ofNat_lt, Int.ofNat_le]; rfl) | (simp only [ByteArray.size_append, Int.natCast_add]; rfl)) ?_; (with_reducible refine (relstoreref_unbytes.calls kj43 (x0_1.extract 1 9) t205 _ A51.out).mono ?_); rintro e w' ⟨rfl, ⟨nd, rfl⟩⟩; refine ⟨_, rfl, ?_⟩; (try (rw [drewN_self wc]; generalize hq_ : World.drewN wc _ = wc; have n0_ : Aside0 (Kd.R k38 38 wc w.heap.size (fun k_ => k_ ≠ gb194) u4 x4_1) := ⟨by rw [← hq_]; exact (by (with_reducible repeat (first | apply Kd.R_alloc | apply Kd.R_drewN | apply Kd.R_drew)); exact HO_4.out)⟩; have n1_ : Aside0 (wc.heap[gb194]? = some (.cells #[.int .i64 t191, .int .i64 t192, .string t193] 38 (0, 0))) := ⟨by rw [← hq_]; exact (by (with_reducible repeat (first | refine blk_drewN ?_ _ | refine blk_drew ?_ | refine blk_alloc ?_ _)); exact BK194.out)⟩; have n2_ : Aside0 (Below w.heap.size w wc) := ⟨by rw [← hq_]; exact (by repeat (first | (with_reducible first | exact HB.out | apply below_alloc | apply pw_below_drewN | apply below_drew1 | refine below_set ?_ GE194.out) | exact HB.out))⟩; clear HO_4 BK194 HB hq_; have HO_4 := n0_; have BK194 := n1_; have HB := n2_; clear n0_ n1_ n2_))) | ((with_reducible refine gate_callee (f := 34) rfl ?_); refine goesL_ (some 39) rfl rfl Tryd.func34 (by kernel_rfl) rfl #[.int .i64 (wrap64 (IntKind.u64.wrap (t205 - 9223372036854775808)))] rfl (by (try simp only [List.map_toArray, List.map_cons, List.map_nil]); first | done | rfl | (simp only [List.length_drop, List.length_take]; rfl) | (simp only [Int.ofNat_lt, Int.ofNat_le]; done) | (simp only [Int.ofNat_lt, Int.ofNat_le]; rfl) | (simp only [ByteArray.size_append, Int.natCast_add]; rfl)) ?_; (with_reducible refine (relstoreref_num.calls (wrap64 (IntKind.u64.wrap (t205 - 9223372036854775808))) t206 t207 t208 _ A52.out).mono ?_); rintro e w75 ⟨rfl, hb⟩; refine ⟨_, rfl, ?_⟩; have n0_ := Aside0.mk (Kd.R_below (by (with_reducible repeat (first | apply Kd.R_alloc | apply Kd.R_drewN | apply Kd.R_drew)); exact HO_4.out) hb); have n1_ := Aside0.mk (blk_below (g := gb194) (o := .cells #[.int .i64 t191, .int .i64 t192, .string t193] 38 (0, 0)) (by (with_reducible repeat (first | refine blk_drewN ?_ _ | refine blk_drew ?_ | refine blk_alloc ?_ _)); exact BK194.out) hb); have n2_ := Aside0.mk (below_step (by repeat (first | (with_reducible first | exact HB.out | apply below_alloc | apply pw_below_drewN | apply below_drew1 | refine below_set ?_ GE194.out) | exact HB.out)) hb); clear HO_4; clear BK194; clear HB; have HO_4 := n0_; have BK194 := n1_; have HB := n2_; clear n0_ n1_ n2_; (try clear hb); (try clear hb2); (try clear hk); (try clear hi); have hcz76_0 : w75.cell? ⟨gb194, 0, none⟩ = some (.int .i64 t191) := (blk_cell BK194.out 0).trans rfl; have hcz76_1 : w75.cell? ⟨gb194, 1, none⟩ = some (.int .i64 t192) := (blk_cell BK194.out 1).trans rfl; have hcz76_2 : w75.cell? ⟨gb194, 2, none⟩ = some (.string t193) := (blk_cell BK194.out 2).trans rfl; have hfz76_0 := blk_frozen BK194.out 0; have hfz76_1 := blk_frozen BK194.out 1; have hfz76_2 := blk_frozen BK194.out 2) | ((with_reducible refine gate_dst (N := 81) rfl ?_); (try (refine gate_guard (by rfl) ?_; dsimp only)); refine Kd.R_lit k38 _ 38 ?hg (N := 81) ?hd (xs := ([(⟨t206, t207, t208⟩ : S38)] : List (S38))) (inner := [.int .i64 t206, .int .i64 t207, .string t208]) (ok := fun _ => True) (okp := fun _ => True) ?hr ?hp (fun _ hk => hk) trivial (Below.refl _ _) (Nat.le_refl _) (by simp) ?_; (case hd => rfl); (case hg => rfl); (case hr => first | (go_simp; done) | (go_simp; rfl)); (case hp => exact (Reps.c3 (show Kd.M k38 _ _ _ (⟨t206, t207, t208⟩ : S38) [.int .i64 t206, .int .i64 t207, .string t208] from (k38_mkM _ _ _ (⟨t206, t207, t208⟩ : S38) )) (Reps.none _ _))); intro v210 w77 ho78 hb hg_ hnew_; clear hg_ hnew_; (first | rw [← Ny209.out] at ho78 | (simp only [Int.reduceToNat] at ho78; rw [← Ny209.out] at ho78)); have n0_ := Aside0.mk (Kd.R_elder' (by (with_reducible repeat (first | apply Kd.R_alloc | apply Kd.R_drewN | apply Kd.R_drew)); exact (Kd.R_mono (Kd.R_far (p := ⟨gb194, 2, none⟩) (Kd.R_far (p := ⟨gb194, 1, none⟩) (Kd.R_far (p := ⟨gb194, 0, none⟩) (Kd.R_mono HO_4.out (fun k_ hk => (⟨hk, hk⟩ : _ ∧ k_ ≠ gb194))) (fun _ hk => hk.2) (.int .i64 t206)) (fun _ hk => hk.2) (.int .i64 t207)) (fun _ hk => hk.2) (.string t208)) (fun _ h_ => h_.1))) (Kd.R_base ho78) hb); have n1_ := Aside0.mk (Kd.R_lower (Kd.R_newB (Kd.R_new' ho78 (Kd.R_lt (by (with_reducible repeat (first | apply Kd.R_alloc | apply Kd.R_drewN | apply Kd.R_drew)); exact (Kd.R_mono (Kd.R_far (p := ⟨gb194, 2, none⟩) (Kd.R_far (p := ⟨gb194, 1, none⟩) (Kd.R_far (p := ⟨gb194, 0, none⟩) (Kd.R_mono HO_4.out (fun k_ hk => (⟨hk, hk⟩ : _ ∧ k_ ≠ gb194))) (fun _ hk => hk.2) (.int .i64 t206)) (fun _ hk => hk.2) (.int .i64 t207)) (fun _ hk => hk.2) (.string t208)) (fun _ h_ => h_.1))))) (g := gb194) (o := .cells #[.int .i64 t206, .int .i64 t207, .string t208] 38 (0, 0)) (by (with_reducible repeat (first | refine blk_drewN ?_ _ | refine blk_drew ?_ | refine blk_alloc ?_ _)); refine blk_put (cs := #[.int .i64 t206, .int .i64 t207, .string t193]) ?_ 2 _ rfl; (with_reducible repeat (first | refine blk_drewN ?_ _ | refine blk_drew ?_ | refine blk_alloc ?_ _)); refine blk_put (cs := #[.int .i64 t206, .int .i64 t192, .string t193]) ?_ 1 _ rfl; (with_reducible repeat (first | refine blk_drewN ?_ _ | refine blk_drew ?_ | refine blk_alloc ?_ _)); refine blk_put (cs := #[.int .i64 t191, .int .i64 t192, .string t193]) ?_ 0 _ rfl; (with_reducible repeat (first | refine blk_drewN ?_ _ | refine blk_drew ?_ | refine blk_alloc ?_ _)); exact BK194.out)) (below_size (by repeat (first | (with_reducible first | exact HB.out | apply below_alloc | apply pw_below_drewN | apply below_drew1 | refine below_set ?_ GE194.out) | exact HB.out)))); have n2_ := Aside0.mk (blk_below (g := gb194) (o := .cells #[.int .i64 t206, .int .i64 t207, .string t208] 38 (0, 0)) (by (with_reducible repeat (first | refine blk_drewN ?_ _ | refine blk_drew ?_ | refine blk_alloc ?_ _)); refine blk_put (cs := #[.int .i64 t206, .int .i64 t207, .string t193]) ?_ 2 _ rfl; (with_reducible repeat (first | refine blk_drewN ?_ _ | refine blk_drew ?_ | refine blk_alloc ?_ _)); refine blk_put (cs := #[.int .i64 t206, .int .i64 t192, .string t193]) ?_ 1 _ rfl; (with_reducible repeat (first | refine blk_drewN ?_ _ | refine blk_drew ?_ | refine blk_alloc ?_ _)); refine blk_put (cs := #[.int .i64 t191, .int .i64 t192, .string t193]) ?_ 0 _ rfl; (with_reducible repeat (first | refine blk_drewN ?_ _ | refine blk_drew ?_ | refine blk_alloc ?_ _)); exact BK194.out) hb); have n3_ := Aside0.mk (below_step (by repeat (first | (with_reducible first | exact HB.out | apply below_alloc | apply pw_below_drewN | apply below_drew1 | refine below_set ?_ GE194.out) | exact HB.out)) hb); clear HO_4; clear BK194; clear HB; have HO_4 := n0_; have HO211 := n1_; have BK194 := n2_; have HB := n3_; clear n0_ n1_ n2_ n3_; clear hb ho78; obtain ⟨Ao79, co79, eo79⟩ := Kd.R_slice HO211.out; subst eo79) | ((with_reducible refine gate_callee (f := 10) rfl ?_); refine goesL_ (some 82) rfl rfl Tryd.func10 (by kernel_rfl) rfl #[.slice Ao79 y209.length co79] rfl (by (try simp only [List.map_toArray, List.map_cons, List.map_nil]); first | done | rfl | (simp only [List.length_drop, List.length_take]; rfl) | (simp only [Int.ofNat_lt, Int.ofNat_le]; done) | (simp only [Int.ofNat_lt, Int.ofNat_le]; rfl) | (simp only [ByteArray.size_append, Int.natCast_add]; rfl)) ?_; (with_reducible refine (relstoreref_Key.calls kj43 _ _ y209 t212 _ ?side1 ?side2 A53.out).mono ?_); (case side1 => repeat (first | exact (Kd.R_reads' HO211.out).2.2 | (with_reducible refine Kd.C_alloc ?_ _) | (with_reducible refine Kd.C_drewN ?_ _) | (with_reducible refine Kd.C_drew ?_))); (case side2 => exact (Kd.R_reads' HO211.out).2.1); rintro e w80 ⟨rfl, hb⟩; refine ⟨_, rfl, ?_⟩; have n0_ := Aside0.mk (Kd.R_below (by (with_reducible repeat (first | apply Kd.R_alloc | apply Kd.R_drewN | apply Kd.R_drew)); exact HO_4.out) hb); have n1_ := Aside0.mk (Kd.R_below (by (with_reducible repeat (first | apply Kd.R_alloc | apply Kd.R_drewN | apply Kd.R_drew)); exact HO211.out) hb); have n2_ := Aside0.mk (blk_below (g := gb194) (o := .cells #[.int .i64 t206, .int .i64 t207, .string t208] 38 (0, 0)) (by (with_reducible repeat (first | refine blk_drewN ?_ _ | refine blk_drew ?_ | refine blk_alloc ?_ _)); exact BK194.out) hb); have n3_ := Aside0.mk (below_step (by repeat (first | (with_reducible first | exact HB.out | apply below_alloc | apply pw_below_drewN | apply below_drew1 | refine below_set ?_ GE194.out) | exact HB.out)) hb); clear HO_4; clear HO211; clear BK194; clear HB; have HO_4 := n0_; have HO211 := n1_; have BK194 := n2_; have HB := n3_; clear n0_ n1_ n2_ n3_; (try clear hb); (try clear hb2); (try clear hk); (try clear hi)))
                                go_ret2
                                exact ⟨_, by first | rfl | (simp [errW_none, errW_some] <;> rfl) | (simp [*, errW_none, errW_some] <;> rfl), by first | exact Kd.R_nil _ _ _ _ _ | exact Kd.N_nil _ _ _ _ _ | exact Kd.V_nil _ _ _ _ _ | exact Kd.Q_nil _ _ _ _ _ | exact Kd.S_nil _ _ _ _ _, by repeat (first | (with_reducible first | exact HB.out | apply below_alloc | apply pw_below_drewN | apply below_drew1 | refine below_set ?_ GE194.out) | exact HB.out)⟩
                            · rw [if_neg c62] at H
                              exact absurd H (by simp)
                          · rw [if_neg c61] at H
                            exact absurd H (by simp)
                      · rw [if_neg c50] at H
                        exact absurd H (by simp)
                    · rw [if_neg c49] at H
                      exact absurd H (by simp)
                  · replace c48 := Bool.eq_false_iff.mpr c48
                    subst c48
                    have H1 : (if 0 < (x0_1.size : Int) then (if (bt x0_1 0) = 5 then (relstoreref_Unkey.l1 kj43 x0_1 x4_1 (⟨#[]⟩ : ByteArray) 1) else ((relstoreref_Key.f kj43 (([(⟨t191, t192, t193⟩ : S38)] : List (S38)))).bind fun t229 => (if (t229.size : Int) > (x0_1.size : Int) then (some (([] : List (S38)), 4)) else (if 0 ≤ (t229.size : Int) then (if (t229.size : Int) ≤ (x0_1.size : Int) then (if (x0_1.extract 0 ((t229.size : Int) : Int).toNat).toList = t229.toList then (if x4_1.length < 4398046511104 then (relstoreref_Unkey.l0 kj43 (x0_1.extract ((t229.size : Int) : Int).toNat x0_1.size) (x4_1 ++ [(⟨t191, t192, t193⟩ : S38)])) else (none)) else (some (([] : List (S38)), 4))) else (none)) else (none))))) else (none)) = some (r1, r2) := by rw [if_neg (show ¬ (false = true) by decide)] at H; exact H
                    clear H
                    have H := H1
                    clear H1
                    by_cases c81 : 0 < (x0_1.size : Int)
                    · rw [if_pos c81] at H
                      have c81b0 : decide (0 < (x0_1.size : Int)) = true := decide_eq_true c81
                      have c81b1 : decide (0 < x0_1.size) = true := decide_eq_true (by omega)
                      clear c81
                      by_cases c83 : (bt x0_1 0) = 5
                      · rw [if_pos c83] at H
                        have c83b0 : ((bt x0_1 0) == 5) = true := beq_iff_eq.mpr c83
                        have c83b1 : ((bt x0_1 0) != 5) = false := bne_eq_false_iff_eq.mpr c83
                        clear c83
                        have H' := Aside0.mk H
                        clear H
                        have p82 : 0 ≤ (0 : Int) := (by omega)
                        have q82 : 0 < x0_1.size := (by have : (0 : Int) < (x0_1.size : Int) := of_decide_eq_true (by first | (with_reducible assumption) | assumption); omega)
                        have hx82 : ∀ h : 0 < x0_1.size, ((x0_1[0]'h).toNat : Int) = bt x0_1 0 := bt_at x0_1 0
                        clear p82
                        have qi82 : (0 < (x0_1.size : Int)) = True := eq_true (of_decide_eq_true (by first | (with_reducible assumption) | assumption))
                        replace q82 := eq_true q82
                        go_wp2
                        go_loopg [6, 7] kj43 (fun kq v6 v7 w' => ∃ (x6_4 : ByteArray) (x7_4 : Int), v6 = .string x6_4 ∧ v7 = .int .i64 x7_4 ∧ Aside0 (relstoreref_Unkey.l1 kq x0_1 x4_1 x6_4 x7_4 = some (r1, r2)) ∧ Aside0 (kq ≤ kj43) ∧ Aside0 (Kd.R k38 38 w' w.heap.size (fun k_ => k_ ≠ gb194) u4 x4_1) ∧ Aside0 (w'.heap[gb194]? = some (.cells #[.int .i64 t191, .int .i64 t192, .string t193] 38 (0, 0))) ∧ Aside0 (Below w.heap.size w w'))
                        case atStart => exact ⟨((⟨#[]⟩ : ByteArray)), (1), (by first | rfl | (simp; done) | (simp [*]; done) | exact bq1 _ _ | exact bq2 _ _ | exact congrArg Value.bool (bq2 _ _) | exact congrArg Value.bool (bq1 _ _) | exact congrArg Value.bool (bq1' _ _) | exact bq1' _ _ | exact congrArg Value.bool (bq2' _ _) | exact bq2' _ _), (by first | rfl | (simp; done) | (simp [*]; done) | exact bq1 _ _ | exact bq2 _ _ | exact congrArg Value.bool (bq2 _ _) | exact congrArg Value.bool (bq1 _ _) | exact congrArg Value.bool (bq1' _ _) | exact bq1' _ _ | exact congrArg Value.bool (bq2' _ _) | exact bq2' _ _), H', ⟨Nat.le_refl _⟩, ⟨by (with_reducible repeat (first | apply Kd.R_alloc | apply Kd.R_drewN | apply Kd.R_drew)); exact HO_4.out⟩, ⟨by (with_reducible repeat (first | refine blk_drewN ?_ _ | refine blk_drew ?_ | refine blk_alloc ?_ _)); exact BK194.out⟩, ⟨by repeat (first | (with_reducible first | exact HB.out | apply below_alloc | apply pw_below_drewN | apply below_drew1 | refine below_set ?_ GE194.out) | exact HB.out)⟩⟩
                        case round =>
                          clear H'
                          try clear c1
                          try clear p1
                          try clear q1
                          try clear hx1
                          try clear qi1
                          try clear c2
                          try clear c2b0
                          try clear c2b1
                          try clear p2
                          try clear q2
                          try clear c3
                          try clear c4
                          try clear p4
                          try clear q4
                          try clear hx4
                          try clear qi4
                          try clear c5
                          try clear c6
                          try clear p6
                          try clear c7
                          try clear c8
                          try clear c8b0
                          try clear c8b1
                          try clear p8
                          try clear q8
                          try clear hx8
                          try clear qi8
                          try clear p9
                          try clear q9
                          try clear hx9
                          try clear qi9
                          try clear c10
                          try clear c10b0
                          try clear c10b1
                          try clear p11
                          try clear q11
                          try clear hx11
                          try clear qi11
                          try clear c12
                          try clear c13
                          try clear c13b0
                          try clear c13b1
                          try clear p14
                          try clear q14
                          try clear hx14
                          try clear qi14
                          try clear c17
                          try clear c17b0
                          try clear c17b1
                          try clear c24
                          try clear c24b0
                          try clear c24b1
                          try clear c25
                          try clear c25b0
                          try clear c25b1
                          try clear c26
                          try clear c26b0
                          try clear c26b1
                          try clear c27
                          try clear c28
                          try clear c28b0
                          try clear c29
                          try clear c29b0
                          try clear c32
                          try clear c33
                          try clear c34
                          try clear c35
                          try clear c45
                          try clear c45b0
                          try clear c45b1
                          try clear p46
                          try clear q46
                          try clear hx46
                          try clear qi46
                          try clear c47
                          try clear c47b0
                          try clear c47b1
                          try clear c48
                          try clear c49
                          try clear c49b0
                          try clear c49b1
                          try clear c50
                          try clear c50b0
                          try clear c50b1
                          try clear c54
                          try clear c54b0
                          try clear c54b1
                          try clear c61
                          try clear c61b0
                          try clear c61b1
                          try clear c62
                          try clear c62b0
                          try clear c62b1
                          try clear c63
                          try clear c63b0
                          try clear c63b1
                          try clear c64
                          try clear p64
                          try clear c65
                          try clear c65b0
                          try clear c66
                          try clear c66b0
                          try clear c81
                          try clear c81b0
                          try clear c81b1
                          try clear p82
                          try clear q82
                          try clear hx82
                          try clear qi82
                          try clear c83
                          try clear c83b0
                          try clear c83b1
                          try clear hcz19_0
                          try clear hcz19_1
                          try clear hcz19_2
                          try clear hcz31_0
                          try clear hcz31_1
                          try clear hcz31_2
                          try clear hcz36_0
                          try clear hcz36_1
                          try clear hcz36_2
                          try clear hcz39_0
                          try clear hcz39_1
                          try clear hcz39_2
                          try clear hcz56_0
                          try clear hcz56_1
                          try clear hcz56_2
                          try clear hcz68_0
                          try clear hcz68_1
                          try clear hcz68_2
                          try clear hcz73_0
                          try clear hcz73_1
                          try clear hcz73_2
                          try clear hcz76_0
                          try clear hcz76_1
                          try clear hcz76_2
                          try clear hcz7_0
                          try clear hcz7_1
                          try clear hcz7_2
                          try clear hfz19_0
                          try clear hfz19_1
                          try clear hfz19_2
                          try clear hfz31_0
                          try clear hfz31_1
                          try clear hfz31_2
                          try clear hfz36_0
                          try clear hfz36_1
                          try clear hfz36_2
                          try clear hfz39_0
                          try clear hfz39_1
                          try clear hfz39_2
                          try clear hfz56_0
                          try clear hfz56_1
                          try clear hfz56_2
                          try clear hfz68_0
                          try clear hfz68_1
                          try clear hfz68_2
                          try clear hfz73_0
                          try clear hfz73_1
                          try clear hfz73_2
                          try clear hfz76_0
                          try clear hfz76_1
                          try clear hfz76_2
                          try clear hfz7_0
                          try clear hfz7_1
                          try clear hfz7_2
                          try clear p1
                          try clear p11
                          try clear p14
                          try clear p2
                          try clear p4
                          try clear p46
                          try clear p82
                          try clear p9
                          try clear q1
                          try clear q11
                          try clear q14
                          try clear q2
                          try clear q4
                          try clear q46
                          try clear q82
                          try clear q9
                          obtain ⟨x6_4, x7_4, rfl, rfl, HA, HK4, HO_4, BK194, HB⟩ := hrel
                          cases gk with
                          | zero => exact absurd HA.out (by simp [relstoreref_Unkey.l1])
                          | succ k4 =>
                            have H := HA.out
                            clear HA
                            simp only [relstoreref_Unkey.l1] at H
                            have HC84 := Aside0.mk H
                            clear H
                            go_upto_region 11 with (fail)
                            go_cut [62] (fun v62 wc => ∃ (kq : Nat) (x62_83 : Bool), v62 = .bool x62_83 ∧ Aside0 (relstoreref_Unkey.j4 kq x0_1 x4_1 x6_4 x7_4 x62_83 = some (r1, r2)) ∧ Aside0 (kq ≤ k4) ∧ Aside0 (Kd.R k38 38 wc w.heap.size (fun k_ => k_ ≠ gb194) u4 x4_1) ∧ Aside0 (wc.heap[gb194]? = some (.cells #[.int .i64 t191, .int .i64 t192, .string t193] 38 (0, 0))) ∧ Aside0 (Below w.heap.size w wc))
                            case first =>
                              have H := HC84.out
                              clear HC84
                              by_cases c85 : (wrap64 (x7_4 + 1)) < (x0_1.size : Int)
                              · rw [if_pos c85] at H
                                have c85b0 : decide ((wrap64 (x7_4 + 1)) < (x0_1.size : Int)) = true := decide_eq_true c85
                                clear c85
                                (first | rw [c85b0] | (simp only [i64_w, i32_w]; rw [c85b0]) | skip)
                                by_cases c86 : 0 ≤ x7_4
                                · rw [if_pos c86] at H
                                  have c86b0 : decide (0 ≤ x7_4) = true := decide_eq_true c86
                                  clear c86
                                  by_cases c87 : x7_4 < (x0_1.size : Int)
                                  · rw [if_pos c87] at H
                                    have c87b0 : decide (x7_4 < (x0_1.size : Int)) = true := decide_eq_true c87
                                    clear c87
                                    by_cases c89 : (bt x0_1 x7_4) = 0
                                    · rw [if_pos c89] at H
                                      have c89b0 : ((bt x0_1 x7_4) == 0) = true := beq_iff_eq.mpr c89
                                      have c89b1 : ((bt x0_1 x7_4) != 0) = false := bne_eq_false_iff_eq.mpr c89
                                      clear c89
                                      obtain ⟨ji90, hji90⟩ : ∃ j_ : Int, (wrap64 (x7_4 + 1)) = j_ := ⟨_, rfl⟩
                                      replace H : (if 0 ≤ (ji90) then (relstoreref_Unkey.j4 k4 x0_1 x4_1 x6_4 x7_4 (!((bt x0_1 (ji90)) == 1))) else (none)) = some (r1, r2) := by first | (rw [hji90] at H; exact H) | (simp only [hji90] at H ⊢; exact H)
                                      (try rw [hji90] at c85b0)
                                      have hji90w : (IntKind.i64.wrap (x7_4 + 1)) = ji90 := (i64_w _).trans hji90
                                      (try simp only [hji90] at c89b1)
                                      (try simp only [hji90] at c89b0)
                                      (try simp only [hji90] at c87b0)
                                      (try simp only [hji90] at c86b0)
                                      (try simp only [hji90] at c83b1)
                                      (try simp only [hji90] at c83b0)
                                      (try simp only [hji90] at c81b1)
                                      (try simp only [hji90] at c81b0)
                                      (try simp only [hji90] at c2b1)
                                      (try simp only [hji90] at c2b0)
                                      by_cases c91 : 0 ≤ (ji90)
                                      · rw [if_pos c91] at H
                                        have c91b0 : decide (0 ≤ (ji90)) = true := decide_eq_true c91
                                        clear c91
                                        have H' := Aside0.mk H
                                        clear H
                                        have p88 : 0 ≤ (x7_4 : Int) := of_decide_eq_true (by first | (with_reducible assumption) | assumption)
                                        have q88 : x7_4 < (x0_1.size : Int) := of_decide_eq_true (by first | (with_reducible assumption) | assumption)
                                        have hx88 := bt_at x0_1 x7_4
                                        replace p88 := eq_true p88
                                        replace q88 := eq_true q88
                                        have p92 : 0 ≤ ((ji90) : Int) := of_decide_eq_true (by first | (with_reducible assumption) | assumption)
                                        have q92 : (ji90) < (x0_1.size : Int) := of_decide_eq_true (by first | (with_reducible assumption) | assumption)
                                        have hx92 := bt_at x0_1 (ji90)
                                        replace p92 := eq_true p92
                                        replace q92 := eq_true q92
                                        go_wp2
                                        go_meet
                                        case rel => exact ⟨_, (!((bt x0_1 (ji90)) == 1)), (by first | rfl | (simp; done) | (simp only [← hji90] <;> (first | rfl | simp)) | (simp [*]; done) | exact bq1 _ _ | exact bq2 _ _ | exact congrArg Value.bool (bq2 _ _) | exact congrArg Value.bool (bq1 _ _) | exact congrArg Value.bool (bq1' _ _) | exact bq1' _ _ | exact congrArg Value.bool (bq2' _ _) | exact bq2' _ _), H', ⟨by have := HK1.out; have := HJ3.out; have := HJ43.out; have := HK4.out; first | omega | exact Nat.le_refl _⟩, ⟨by (with_reducible repeat (first | apply Kd.R_alloc | apply Kd.R_drewN | apply Kd.R_drew)); exact HO_4.out⟩, ⟨by (with_reducible repeat (first | refine blk_drewN ?_ _ | refine blk_drew ?_ | refine blk_alloc ?_ _)); exact BK194.out⟩, ⟨by repeat (first | (with_reducible first | exact HB.out | apply below_alloc | apply pw_below_drewN | apply below_drew1 | refine below_set ?_ GE194.out) | exact HB.out)⟩⟩
                                      · rw [if_neg c91] at H
                                        exact absurd H (by simp)
                                    · rw [if_neg c89] at H
                                      have c89b0 : ((bt x0_1 x7_4) == 0) = false := beq_eq_false_iff_ne.mpr c89
                                      have c89b1 : ((bt x0_1 x7_4) != 0) = true := bne_iff_ne.mpr c89
                                      have H' := Aside0.mk H
                                      clear H
                                      have p88 : 0 ≤ (x7_4 : Int) := of_decide_eq_true (by first | (with_reducible assumption) | assumption)
                                      have q88 : x7_4 < (x0_1.size : Int) := of_decide_eq_true (by first | (with_reducible assumption) | assumption)
                                      have hx88 := bt_at x0_1 x7_4
                                      replace p88 := eq_true p88
                                      replace q88 := eq_true q88
                                      go_wp2
                                      go_meet
                                      case rel => exact ⟨_, (!false), (by first | rfl | (simp; done) | (simp [*]; done) | exact bq1 _ _ | exact bq2 _ _ | exact congrArg Value.bool (bq2 _ _) | exact congrArg Value.bool (bq1 _ _) | exact congrArg Value.bool (bq1' _ _) | exact bq1' _ _ | exact congrArg Value.bool (bq2' _ _) | exact bq2' _ _), H', ⟨by have := HK1.out; have := HJ3.out; have := HJ43.out; have := HK4.out; first | omega | exact Nat.le_refl _⟩, ⟨by (with_reducible repeat (first | apply Kd.R_alloc | apply Kd.R_drewN | apply Kd.R_drew)); exact HO_4.out⟩, ⟨by (with_reducible repeat (first | refine blk_drewN ?_ _ | refine blk_drew ?_ | refine blk_alloc ?_ _)); exact BK194.out⟩, ⟨by repeat (first | (with_reducible first | exact HB.out | apply below_alloc | apply pw_below_drewN | apply below_drew1 | refine below_set ?_ GE194.out) | exact HB.out)⟩⟩
                                  · rw [if_neg c87] at H
                                    exact absurd H (by simp)
                                · rw [if_neg c86] at H
                                  exact absurd H (by simp)
                              · rw [if_neg c85] at H
                                have c85b0 : decide ((wrap64 (x7_4 + 1)) < (x0_1.size : Int)) = false := decide_eq_false c85
                                clear c85
                                (first | rw [c85b0] | (simp only [i64_w, i32_w]; rw [c85b0]) | skip)
                                have H' := Aside0.mk H
                                clear H
                                go_wp2
                                go_meet
                                case rel => exact ⟨_, (false), (by first | rfl | (simp; done) | (simp [*]; done) | exact bq1 _ _ | exact bq2 _ _ | exact congrArg Value.bool (bq2 _ _) | exact congrArg Value.bool (bq1 _ _) | exact congrArg Value.bool (bq1' _ _) | exact bq1' _ _ | exact congrArg Value.bool (bq2' _ _) | exact bq2' _ _), H', ⟨by have := HK1.out; have := HJ3.out; have := HJ43.out; have := HK4.out; first | omega | exact Nat.le_refl _⟩, ⟨by (with_reducible repeat (first | apply Kd.R_alloc | apply Kd.R_drewN | apply Kd.R_drew)); exact HO_4.out⟩, ⟨by (with_reducible repeat (first | refine blk_drewN ?_ _ | refine blk_drew ?_ | refine blk_alloc ?_ _)); exact BK194.out⟩, ⟨by repeat (first | (with_reducible first | exact HB.out | apply below_alloc | apply pw_below_drewN | apply below_drew1 | refine below_set ?_ GE194.out) | exact HB.out)⟩⟩
                            case rest =>
                              clear HC84
                              try clear c1
                              try clear p1
                              try clear q1
                              try clear hx1
                              try clear qi1
                              try clear c2
                              try clear c2b0
                              try clear c2b1
                              try clear p2
                              try clear q2
                              try clear c3
                              try clear c4
                              try clear p4
                              try clear q4
                              try clear hx4
                              try clear qi4
                              try clear c5
                              try clear c6
                              try clear p6
                              try clear c7
                              try clear c8
                              try clear c8b0
                              try clear c8b1
                              try clear p8
                              try clear q8
                              try clear hx8
                              try clear qi8
                              try clear c9
                              try clear p9
                              try clear q9
                              try clear hx9
                              try clear qi9
                              try clear c10
                              try clear c10b0
                              try clear c10b1
                              try clear p11
                              try clear q11
                              try clear hx11
                              try clear qi11
                              try clear c12
                              try clear c13
                              try clear c13b0
                              try clear c13b1
                              try clear p14
                              try clear q14
                              try clear hx14
                              try clear qi14
                              try clear c17
                              try clear c17b0
                              try clear c17b1
                              try clear c24
                              try clear c24b0
                              try clear c24b1
                              try clear c25
                              try clear c25b0
                              try clear c25b1
                              try clear c26
                              try clear c26b0
                              try clear c26b1
                              try clear c27
                              try clear c28
                              try clear c28b0
                              try clear c29
                              try clear c29b0
                              try clear c32
                              try clear c33
                              try clear c34
                              try clear c35
                              try clear c45
                              try clear c45b0
                              try clear c45b1
                              try clear p46
                              try clear q46
                              try clear hx46
                              try clear qi46
                              try clear c47
                              try clear c47b0
                              try clear c47b1
                              try clear c48
                              try clear c49
                              try clear c49b0
                              try clear c49b1
                              try clear c50
                              try clear c50b0
                              try clear c50b1
                              try clear c54
                              try clear c54b0
                              try clear c54b1
                              try clear c61
                              try clear c61b0
                              try clear c61b1
                              try clear c62
                              try clear c62b0
                              try clear c62b1
                              try clear c63
                              try clear c63b0
                              try clear c63b1
                              try clear c64
                              try clear p64
                              try clear c65
                              try clear c65b0
                              try clear c66
                              try clear c66b0
                              try clear c81
                              try clear c81b0
                              try clear c81b1
                              try clear p82
                              try clear q82
                              try clear hx82
                              try clear qi82
                              try clear c83
                              try clear c83b0
                              try clear c83b1
                              try clear c85
                              try clear c85b0
                              try clear c86
                              try clear c86b0
                              try clear c87
                              try clear c87b0
                              try clear p88
                              try clear q88
                              try clear hx88
                              try clear c89
                              try clear c89b0
                              try clear c89b1
                              try clear c91
                              try clear c91b0
                              try clear p92
                              try clear q92
                              try clear hx92
                              try clear hcz19_0
                              try clear hcz19_1
                              try clear hcz19_2
                              try clear hcz31_0
                              try clear hcz31_1
                              try clear hcz31_2
                              try clear hcz36_0
                              try clear hcz36_1
                              try clear hcz36_2
                              try clear hcz39_0
                              try clear hcz39_1
                              try clear hcz39_2
                              try clear hcz56_0
                              try clear hcz56_1
                              try clear hcz56_2
                              try clear hcz68_0
                              try clear hcz68_1
                              try clear hcz68_2
                              try clear hcz73_0
                              try clear hcz73_1
                              try clear hcz73_2
                              try clear hcz76_0
                              try clear hcz76_1
                              try clear hcz76_2
                              try clear hcz7_0
                              try clear hcz7_1
                              try clear hcz7_2
                              try clear hfz19_0
                              try clear hfz19_1
                              try clear hfz19_2
                              try clear hfz31_0
                              try clear hfz31_1
                              try clear hfz31_2
                              try clear hfz36_0
                              try clear hfz36_1
                              try clear hfz36_2
                              try clear hfz39_0
                              try clear hfz39_1
                              try clear hfz39_2
                              try clear hfz56_0
                              try clear hfz56_1
                              try clear hfz56_2
                              try clear hfz68_0
                              try clear hfz68_1
                              try clear hfz68_2
                              try clear hfz73_0
                              try clear hfz73_1
                              try clear hfz73_2
                              try clear hfz76_0
                              try clear hfz76_1
                              try clear hfz76_2
                              try clear hfz7_0
                              try clear hfz7_1
                              try clear hfz7_2
                              try clear p1
                              try clear p11
                              try clear p14
                              try clear p2
                              try clear p4
                              try clear p46
                              try clear p6
                              try clear p64
                              try clear p8
                              try clear p82
                              try clear p88
                              try clear p9
                              try clear p92
                              try clear q1
                              try clear q11
                              try clear q14
                              try clear q2
                              try clear q4
                              try clear q46
                              try clear q8
                              try clear q82
                              try clear q88
                              try clear q9
                              try clear q92
                              obtain ⟨kq, x62_83, rfl, HA, HJ83, HO_4, BK194, HB⟩ := hcut
                              cases kq with
                              | zero => exact absurd HA.out (by simp [relstoreref_Unkey.j4])
                              | succ kj83 =>
                                have H := HA.out
                                clear HA
                                simp only [relstoreref_Unkey.j4] at H
                                by_cases c93 : x62_83 = true
                                · subst c93
                                  have H1 : (if 0 ≤ x7_4 then (if x7_4 ≤ (wrap64 (x7_4 + 1)) then (if (wrap64 (x7_4 + 1)) ≤ (x0_1.size : Int) then (if x6_4.size + (x0_1.extract (x7_4 : Int).toNat ((wrap64 (x7_4 + 1)) : Int).toNat).size ≤ 9223372036854775807 then (if x7_4 < (x0_1.size : Int) then (if (bt x0_1 x7_4) = 0 then (relstoreref_Unkey.l1 kj83 x0_1 x4_1 (x6_4 ++ (x0_1.extract (x7_4 : Int).toNat ((wrap64 (x7_4 + 1)) : Int).toNat)) (wrap64 ((wrap64 (x7_4 + 1)) + 1))) else (relstoreref_Unkey.l1 kj83 x0_1 x4_1 (x6_4 ++ (x0_1.extract (x7_4 : Int).toNat ((wrap64 (x7_4 + 1)) : Int).toNat)) (wrap64 (x7_4 + 1)))) else (none)) else (none)) else (none)) else (none)) else (none)) = some (r1, r2) := by rw [if_pos rfl] at H; exact H
                                  clear H
                                  have H := H1
                                  clear H1
                                  by_cases c94 : 0 ≤ x7_4
                                  · rw [if_pos c94] at H
                                    have c94b0 := eq_true c94
                                    have c94b1 : decide (0 ≤ x7_4) = true := decide_eq_true c94
                                    clear c94
                                    by_cases c95 : x7_4 ≤ (wrap64 (x7_4 + 1))
                                    · rw [if_pos c95] at H
                                      have c95b0 := eq_true c95
                                      have c95b1 : decide (x7_4 ≤ (wrap64 (x7_4 + 1))) = true := decide_eq_true c95
                                      by_cases c96 : (wrap64 (x7_4 + 1)) ≤ (x0_1.size : Int)
                                      · rw [if_pos c96] at H
                                        have c96b0 := eq_true c96
                                        have c96b1 : decide ((wrap64 (x7_4 + 1)) ≤ (x0_1.size : Int)) = true := decide_eq_true c96
                                        by_cases c97 : x6_4.size + (x0_1.extract (x7_4 : Int).toNat ((wrap64 (x7_4 + 1)) : Int).toNat).size ≤ 9223372036854775807
                                        · rw [if_pos c97] at H
                                          have c97b0 := eq_true c97
                                          have c97b1 : decide (x6_4.size + (x0_1.extract (x7_4 : Int).toNat ((wrap64 (x7_4 + 1)) : Int).toNat).size ≤ 9223372036854775807) = true := decide_eq_true c97
                                          try have c97b2 : (9223372036854775807 < x6_4.size + (x0_1.extract (x7_4 : Int).toNat ((wrap64 (x7_4 + 1)) : Int).toNat).size) = False := eq_false (Nat.not_lt.2 c97)
                                          try (have c97b3 := c97b2; simp only [ByteArray.size_append] at c97b3)
                                          try (have c97b4 := c97b3; simp only [ByteArray.size_extract] at c97b4; rw [Nat.min_eq_left (by omega)] at c97b4)
                                          by_cases c98 : x7_4 < (x0_1.size : Int)
                                          · rw [if_pos c98] at H
                                            have c98b0 : decide (x7_4 < (x0_1.size : Int)) = true := decide_eq_true c98
                                            clear c98
                                            by_cases c100 : (bt x0_1 x7_4) = 0
                                            · rw [if_pos c100] at H
                                              have c100b0 : ((bt x0_1 x7_4) == 0) = true := beq_iff_eq.mpr c100
                                              have c100b1 : ((bt x0_1 x7_4) != 0) = false := bne_eq_false_iff_eq.mpr c100
                                              clear c100
                                              have H' := Aside0.mk H
                                              clear H
                                              have p99 : 0 ≤ (x7_4 : Int) := of_decide_eq_true (by first | (with_reducible assumption) | assumption)
                                              have q99 : x7_4 < (x0_1.size : Int) := of_decide_eq_true (by first | (with_reducible assumption) | assumption)
                                              have hx99 := bt_at x0_1 x7_4
                                              replace p99 := eq_true p99
                                              replace q99 := eq_true q99
                                              go_wp2
                                              go_roundg kj83
                                              case measure => have := HK1.out; have := HJ3.out; have := HJ43.out; have := HK4.out; have := HJ83.out; omega
                                              case rel => exact ⟨(x6_4 ++ (x0_1.extract (x7_4 : Int).toNat ((wrap64 (x7_4 + 1)) : Int).toNat)), (wrap64 ((wrap64 (x7_4 + 1)) + 1)), (by first | rfl | (simp; done) | (simp [*]; done) | exact bq1 _ _ | exact bq2 _ _ | exact congrArg Value.bool (bq2 _ _) | exact congrArg Value.bool (bq1 _ _) | exact congrArg Value.bool (bq1' _ _) | exact bq1' _ _ | exact congrArg Value.bool (bq2' _ _) | exact bq2' _ _), (by first | rfl | (simp; done) | (simp [*]; done) | exact bq1 _ _ | exact bq2 _ _ | exact congrArg Value.bool (bq2 _ _) | exact congrArg Value.bool (bq1 _ _) | exact congrArg Value.bool (bq1' _ _) | exact bq1' _ _ | exact congrArg Value.bool (bq2' _ _) | exact bq2' _ _), H', ⟨by have := HK1.out; have := HJ3.out; have := HJ43.out; have := HK4.out; have := HJ83.out; omega⟩, ⟨by (with_reducible repeat (first | apply Kd.R_alloc | apply Kd.R_drewN | apply Kd.R_drew)); exact HO_4.out⟩, ⟨by (with_reducible repeat (first | refine blk_drewN ?_ _ | refine blk_drew ?_ | refine blk_alloc ?_ _)); exact BK194.out⟩, ⟨by repeat (first | (with_reducible first | exact HB.out | apply below_alloc | apply pw_below_drewN | apply below_drew1 | refine below_set ?_ GE194.out) | exact HB.out)⟩⟩
                                            · rw [if_neg c100] at H
                                              have c100b0 : ((bt x0_1 x7_4) == 0) = false := beq_eq_false_iff_ne.mpr c100
                                              have c100b1 : ((bt x0_1 x7_4) != 0) = true := bne_iff_ne.mpr c100
                                              have H' := Aside0.mk H
                                              clear H
                                              have p99 : 0 ≤ (x7_4 : Int) := of_decide_eq_true (by first | (with_reducible assumption) | assumption)
                                              have q99 : x7_4 < (x0_1.size : Int) := of_decide_eq_true (by first | (with_reducible assumption) | assumption)
                                              have hx99 := bt_at x0_1 x7_4
                                              replace p99 := eq_true p99
                                              replace q99 := eq_true q99
                                              go_wp2
                                              go_roundg kj83
                                              case measure => have := HK1.out; have := HJ3.out; have := HJ43.out; have := HK4.out; have := HJ83.out; omega
                                              case rel => exact ⟨(x6_4 ++ (x0_1.extract (x7_4 : Int).toNat ((wrap64 (x7_4 + 1)) : Int).toNat)), (wrap64 (x7_4 + 1)), (by first | rfl | (simp; done) | (simp [*]; done) | exact bq1 _ _ | exact bq2 _ _ | exact congrArg Value.bool (bq2 _ _) | exact congrArg Value.bool (bq1 _ _) | exact congrArg Value.bool (bq1' _ _) | exact bq1' _ _ | exact congrArg Value.bool (bq2' _ _) | exact bq2' _ _), (by first | rfl | (simp; done) | (simp [*]; done) | exact bq1 _ _ | exact bq2 _ _ | exact congrArg Value.bool (bq2 _ _) | exact congrArg Value.bool (bq1 _ _) | exact congrArg Value.bool (bq1' _ _) | exact bq1' _ _ | exact congrArg Value.bool (bq2' _ _) | exact bq2' _ _), H', ⟨by have := HK1.out; have := HJ3.out; have := HJ43.out; have := HK4.out; have := HJ83.out; omega⟩, ⟨by (with_reducible repeat (first | apply Kd.R_alloc | apply Kd.R_drewN | apply Kd.R_drew)); exact HO_4.out⟩, ⟨by (with_reducible repeat (first | refine blk_drewN ?_ _ | refine blk_drew ?_ | refine blk_alloc ?_ _)); exact BK194.out⟩, ⟨by repeat (first | (with_reducible first | exact HB.out | apply below_alloc | apply pw_below_drewN | apply below_drew1 | refine below_set ?_ GE194.out) | exact HB.out)⟩⟩
                                          · rw [if_neg c98] at H
                                            exact absurd H (by simp)
                                        · rw [if_neg c97] at H
                                          exact absurd H (by simp)
                                      · rw [if_neg c96] at H
                                        exact absurd H (by simp)
                                    · rw [if_neg c95] at H
                                      exact absurd H (by simp)
                                  · rw [if_neg c94] at H
                                    exact absurd H (by simp)
                                · replace c93 := Bool.eq_false_iff.mpr c93
                                  subst c93
                                  have H1 : ((relstoreref_str.f x6_4).bind fun bt216 => ((relstoreref_Key.f kj83 (([(⟨bt216.1, bt216.2.1, bt216.2.2⟩ : S38)] : List (S38)))).bind fun t222 => (if (t222.size : Int) > (x0_1.size : Int) then (some (([] : List (S38)), 4)) else (if 0 ≤ (t222.size : Int) then (if (t222.size : Int) ≤ (x0_1.size : Int) then (if (x0_1.extract 0 ((t222.size : Int) : Int).toNat).toList = t222.toList then (if x4_1.length < 4398046511104 then (relstoreref_Unkey.l0 kj83 (x0_1.extract ((t222.size : Int) : Int).toNat x0_1.size) (x4_1 ++ [(⟨bt216.1, bt216.2.1, bt216.2.2⟩ : S38)])) else (none)) else (some (([] : List (S38)), 4))) else (none)) else (none))))) = some (r1, r2) := by rw [if_neg (show ¬ (false = true) by decide)] at H; exact H
                                  clear H
                                  have H := H1
                                  clear H1
                                  replace H := Option.bind_eq_some_iff.mp H
                                  obtain ⟨⟨t216, t217, t218⟩, A1010, H⟩ := H
                                  replace H : ((relstoreref_Key.f kj83 (([(⟨t216, t217, t218⟩ : S38)] : List (S38)))).bind fun t222 => (if (t222.size : Int) > (x0_1.size : Int) then (some (([] : List (S38)), 4)) else (if 0 ≤ (t222.size : Int) then (if (t222.size : Int) ≤ (x0_1.size : Int) then (if (x0_1.extract 0 ((t222.size : Int) : Int).toNat).toList = t222.toList then (if x4_1.length < 4398046511104 then (relstoreref_Unkey.l0 kj83 (x0_1.extract ((t222.size : Int) : Int).toNat x0_1.size) (x4_1 ++ [(⟨t216, t217, t218⟩ : S38)])) else (none)) else (some (([] : List (S38)), 4))) else (none)) else (none)))) = some (r1, r2) := H
                                  have A101 := Aside0.mk A1010
                                  clear A1010
                                  obtain ⟨y219, hy219⟩ : ∃ y_ : List (S38), y_ = (([(⟨t216, t217, t218⟩ : S38)] : List (S38))) := ⟨_, rfl⟩
                                  replace H : ((relstoreref_Key.f kj83 y219).bind fun t222 => (if (t222.size : Int) > (x0_1.size : Int) then (some (([] : List (S38)), 4)) else (if 0 ≤ (t222.size : Int) then (if (t222.size : Int) ≤ (x0_1.size : Int) then (if (x0_1.extract 0 ((t222.size : Int) : Int).toNat).toList = t222.toList then (if x4_1.length < 4398046511104 then (relstoreref_Unkey.l0 kj83 (x0_1.extract ((t222.size : Int) : Int).toNat x0_1.size) (x4_1 ++ [(⟨t216, t217, t218⟩ : S38)])) else (none)) else (some (([] : List (S38)), 4))) else (none)) else (none)))) = some (r1, r2) := by first | (rw [hy219]; with_reducible exact H) | (have H2_ := (Option.bind_some _ _).symm.trans H; rw [hy219]; with_reducible exact H2_) | (have H2_ := (Option.bind_some _ _).symm.trans H; with_reducible exact H2_) | with_reducible exact H | (rw [hy219]; exact H) | exact H
                                  have Ny219 := Aside0.mk hy219
                                  clear hy219
                                  replace H := Option.bind_eq_some_iff.mp H
                                  obtain ⟨t222, A1020, H⟩ := H
                                  replace H : (if (t222.size : Int) > (x0_1.size : Int) then (some (([] : List (S38)), 4)) else (if 0 ≤ (t222.size : Int) then (if (t222.size : Int) ≤ (x0_1.size : Int) then (if (x0_1.extract 0 ((t222.size : Int) : Int).toNat).toList = t222.toList then (if x4_1.length < 4398046511104 then (relstoreref_Unkey.l0 kj83 (x0_1.extract ((t222.size : Int) : Int).toNat x0_1.size) (x4_1 ++ [(⟨t216, t217, t218⟩ : S38)])) else (none)) else (some (([] : List (S38)), 4))) else (none)) else (none))) = some (r1, r2) := H
                                  have A102 := Aside0.mk A1020
                                  clear A1020
                                  by_cases c103 : (t222.size : Int) > (x0_1.size : Int)
                                  · rw [if_pos c103] at H
                                    have c103b0 : decide ((x0_1.size : Int) < (t222.size : Int)) = true := decide_eq_true c103
                                    have c103b1 : decide (x0_1.size < t222.size) = true := decide_eq_true (Int.ofNat_lt.mp c103)
                                    clear c103
                                    simp only [Option.some.injEq, Prod.mk.injEq] at H
                                    obtain ⟨rfl, rfl⟩ := H
                                    go_wp2_with (first | ((with_reducible refine gate_callee (f := 36) rfl ?_); refine goesL_ (some 79) rfl rfl Tryd.func36 (by kernel_rfl) rfl #[.string x6_4] rfl (by (try simp only [List.map_toArray, List.map_cons, List.map_nil]); first | done | rfl | (simp only [List.length_drop, List.length_take]; rfl) | (simp only [Int.ofNat_lt, Int.ofNat_le]; done) | (simp only [Int.ofNat_lt, Int.ofNat_le]; rfl) | (simp only [ByteArray.size_append, Int.natCast_add]; rfl)) ?_; (with_reducible refine (relstoreref_str.calls x6_4 t216 t217 t218 _ A101.out).mono ?_); rintro e w104 ⟨rfl, hb⟩; refine ⟨_, rfl, ?_⟩; have n0_ := Aside0.mk (Kd.R_below (by (with_reducible repeat (first | apply Kd.R_alloc | apply Kd.R_drewN | apply Kd.R_drew)); exact HO_4.out) hb); have n1_ := Aside0.mk (blk_below (g := gb194) (o := .cells #[.int .i64 t191, .int .i64 t192, .string t193] 38 (0, 0)) (by (with_reducible repeat (first | refine blk_drewN ?_ _ | refine blk_drew ?_ | refine blk_alloc ?_ _)); exact BK194.out) hb); have n2_ := Aside0.mk (below_step (by repeat (first | (with_reducible first | exact HB.out | apply below_alloc | apply pw_below_drewN | apply below_drew1 | refine below_set ?_ GE194.out) | exact HB.out)) hb); clear HO_4; clear BK194; clear HB; have HO_4 := n0_; have BK194 := n1_; have HB := n2_; clear n0_ n1_ n2_; (try clear hb); (try clear hb2); (try clear hk); (try clear hi); have hcz105_0 : w104.cell? ⟨gb194, 0, none⟩ = some (.int .i64 t191) := (blk_cell BK194.out 0).trans rfl; have hcz105_1 : w104.cell? ⟨gb194, 1, none⟩ = some (.int .i64 t192) := (blk_cell BK194.out 1).trans rfl; have hcz105_2 : w104.cell? ⟨gb194, 2, none⟩ = some (.string t193) := (blk_cell BK194.out 2).trans rfl; have hfz105_0 := blk_frozen BK194.out 0; have hfz105_1 := blk_frozen BK194.out 1; have hfz105_2 := blk_frozen BK194.out 2) | ((with_reducible refine gate_dst (N := 81) rfl ?_); (try (refine gate_guard (by rfl) ?_; dsimp only)); refine Kd.R_lit k38 _ 38 ?hg (N := 81) ?hd (xs := ([(⟨t216, t217, t218⟩ : S38)] : List (S38))) (inner := [.int .i64 t216, .int .i64 t217, .string t218]) (ok := fun _ => True) (okp := fun _ => True) ?hr ?hp (fun _ hk => hk) trivial (Below.refl _ _) (Nat.le_refl _) (by simp) ?_; (case hd => rfl); (case hg => rfl); (case hr => first | (go_simp; done) | (go_simp; rfl)); (case hp => exact (Reps.c3 (show Kd.M k38 _ _ _ (⟨t216, t217, t218⟩ : S38) [.int .i64 t216, .int .i64 t217, .string t218] from (k38_mkM _ _ _ (⟨t216, t217, t218⟩ : S38) )) (Reps.none _ _))); intro v220 w106 ho107 hb hg_ hnew_; clear hg_ hnew_; (first | rw [← Ny219.out] at ho107 | (simp only [Int.reduceToNat] at ho107; rw [← Ny219.out] at ho107)); have n0_ := Aside0.mk (Kd.R_elder' (by (with_reducible repeat (first | apply Kd.R_alloc | apply Kd.R_drewN | apply Kd.R_drew)); exact (Kd.R_mono (Kd.R_far (p := ⟨gb194, 2, none⟩) (Kd.R_far (p := ⟨gb194, 1, none⟩) (Kd.R_far (p := ⟨gb194, 0, none⟩) (Kd.R_mono HO_4.out (fun k_ hk => (⟨hk, hk⟩ : _ ∧ k_ ≠ gb194))) (fun _ hk => hk.2) (.int .i64 t216)) (fun _ hk => hk.2) (.int .i64 t217)) (fun _ hk => hk.2) (.string t218)) (fun _ h_ => h_.1))) (Kd.R_base ho107) hb); have n1_ := Aside0.mk (Kd.R_lower (Kd.R_newB (Kd.R_new' ho107 (Kd.R_lt (by (with_reducible repeat (first | apply Kd.R_alloc | apply Kd.R_drewN | apply Kd.R_drew)); exact (Kd.R_mono (Kd.R_far (p := ⟨gb194, 2, none⟩) (Kd.R_far (p := ⟨gb194, 1, none⟩) (Kd.R_far (p := ⟨gb194, 0, none⟩) (Kd.R_mono HO_4.out (fun k_ hk => (⟨hk, hk⟩ : _ ∧ k_ ≠ gb194))) (fun _ hk => hk.2) (.int .i64 t216)) (fun _ hk => hk.2) (.int .i64 t217)) (fun _ hk => hk.2) (.string t218)) (fun _ h_ => h_.1))))) (g := gb194) (o := .cells #[.int .i64 t216, .int .i64 t217, .string t218] 38 (0, 0)) (by (with_reducible repeat (first | refine blk_drewN ?_ _ | refine blk_drew ?_ | refine blk_alloc ?_ _)); refine blk_put (cs := #[.int .i64 t216, .int .i64 t217, .string t193]) ?_ 2 _ rfl; (with_reducible repeat (first | refine blk_drewN ?_ _ | refine blk_drew ?_ | refine blk_alloc ?_ _)); refine blk_put (cs := #[.int .i64 t216, .int .i64 t192, .string t193]) ?_ 1 _ rfl; (with_reducible repeat (first | refine blk_drewN ?_ _ | refine blk_drew ?_ | refine blk_alloc ?_ _)); refine blk_put (cs := #[.int .i64 t191, .int .i64 t192, .string t193]) ?_ 0 _ rfl; (with_reducible repeat (first | refine blk_drewN ?_ _ | refine blk_drew ?_ | refine blk_alloc ?_ _)); exact BK194.out)) (below_size (by repeat (first | (with_reducible first | exact HB.out | apply below_alloc | apply pw_below_drewN | apply below_drew1 | refine below_set ?_ GE194.out) | exact HB.out)))); have n2_ := Aside0.mk (blk_below (g := gb194) (o := .cells #[.int .i64 t216, .int .i64 t217, .string t218] 38 (0, 0)) (by (with_reducible repeat (first | refine blk_drewN ?_ _ | refine blk_drew ?_ | refine blk_alloc ?_ _)); refine blk_put (cs := #[.int .i64 t216, .int .i64 t217, .string t193]) ?_ 2 _ rfl; (with_reducible repeat (first | refine blk_drewN ?_ _ | refine blk_drew ?_ | refine blk_alloc ?_ _)); refine blk_put (cs := #[.int .i64 t216, .int .i64 t192, .string t193]) ?_ 1 _ rfl; (with_reducible repeat (first | refine blk_drewN ?_ _ | refine blk_drew ?_ | refine blk_alloc ?_ _)); refine blk_put (cs := #[.int .i64 t191, .int .i64 t192, .string t193]) ?_ 0 _ rfl; (with_reducible repeat (first | refine blk_drewN ?_ _ | refine blk_drew ?_ | refine blk_alloc ?_ _)); exact BK194.out) hb); have n3_ := Aside0.mk (below_step (by repeat (first | (with_reducible first | exact HB.out | apply below_alloc | apply pw_below_drewN | apply below_drew1 | refine below_set ?_ GE194.out) | exact HB.out)) hb); clear HO_4; clear BK194; clear HB; have HO_4 := n0_; have HO221 := n1_; have BK194 := n2_; have HB := n3_; clear n0_ n1_ n2_ n3_; clear hb ho107; obtain ⟨Ao108, co108, eo108⟩ := Kd.R_slice HO221.out; subst eo108) | ((with_reducible refine gate_callee (f := 10) rfl ?_); refine goesL_ (some 82) rfl rfl Tryd.func10 (by kernel_rfl) rfl #[.slice Ao108 y219.length co108] rfl (by (try simp only [List.map_toArray, List.map_cons, List.map_nil]); first | done | rfl | (simp only [List.length_drop, List.length_take]; rfl) | (simp only [Int.ofNat_lt, Int.ofNat_le]; done) | (simp only [Int.ofNat_lt, Int.ofNat_le]; rfl) | (simp only [ByteArray.size_append, Int.natCast_add]; rfl)) ?_; (with_reducible refine (relstoreref_Key.calls kj83 _ _ y219 t222 _ ?side1 ?side2 A102.out).mono ?_); (case side1 => repeat (first | exact (Kd.R_reads' HO221.out).2.2 | (with_reducible refine Kd.C_alloc ?_ _) | (with_reducible refine Kd.C_drewN ?_ _) | (with_reducible refine Kd.C_drew ?_))); (case side2 => exact (Kd.R_reads' HO221.out).2.1); rintro e w109 ⟨rfl, hb⟩; refine ⟨_, rfl, ?_⟩; have n0_ := Aside0.mk (Kd.R_below (by (with_reducible repeat (first | apply Kd.R_alloc | apply Kd.R_drewN | apply Kd.R_drew)); exact HO_4.out) hb); have n1_ := Aside0.mk (Kd.R_below (by (with_reducible repeat (first | apply Kd.R_alloc | apply Kd.R_drewN | apply Kd.R_drew)); exact HO221.out) hb); have n2_ := Aside0.mk (blk_below (g := gb194) (o := .cells #[.int .i64 t216, .int .i64 t217, .string t218] 38 (0, 0)) (by (with_reducible repeat (first | refine blk_drewN ?_ _ | refine blk_drew ?_ | refine blk_alloc ?_ _)); exact BK194.out) hb); have n3_ := Aside0.mk (below_step (by repeat (first | (with_reducible first | exact HB.out | apply below_alloc | apply pw_below_drewN | apply below_drew1 | refine below_set ?_ GE194.out) | exact HB.out)) hb); clear HO_4; clear HO221; clear BK194; clear HB; have HO_4 := n0_; have HO221 := n1_; have BK194 := n2_; have HB := n3_; clear n0_ n1_ n2_ n3_; (try clear hb); (try clear hb2); (try clear hk); (try clear hi)))
                                    go_ret2
                                    exact ⟨_, by first | rfl | (simp [errW_none, errW_some] <;> rfl) | (simp [*, errW_none, errW_some] <;> rfl), by first | exact Kd.R_nil _ _ _ _ _ | exact Kd.N_nil _ _ _ _ _ | exact Kd.V_nil _ _ _ _ _ | exact Kd.Q_nil _ _ _ _ _ | exact Kd.S_nil _ _ _ _ _, by repeat (first | (with_reducible first | exact HB.out | apply below_alloc | apply pw_below_drewN | apply below_drew1 | refine below_set ?_ GE194.out) | exact HB.out)⟩
                                  · rw [if_neg c103] at H
                                    have c103b0 : decide ((x0_1.size : Int) < (t222.size : Int)) = false := decide_eq_false c103
                                    have c103b1 : decide (x0_1.size < t222.size) = false := decide_eq_false (fun h => c103 (Int.ofNat_lt.mpr h))
                                    clear c103
                                    by_cases c110 : 0 ≤ (t222.size : Int)
                                    · rw [if_pos c110] at H
                                      have c110b0 := eq_true c110
                                      have c110b1 : decide (0 ≤ (t222.size : Int)) = true := decide_eq_true c110
                                      clear c110
                                      by_cases c111 : (t222.size : Int) ≤ (x0_1.size : Int)
                                      · rw [if_pos c111] at H
                                        have c111b0 := eq_true c111
                                        have c111b1 : decide ((t222.size : Int) ≤ (x0_1.size : Int)) = true := decide_eq_true c111
                                        clear c111
                                        by_cases c112 : (x0_1.extract 0 ((t222.size : Int) : Int).toNat).toList = t222.toList
                                        · rw [if_pos c112] at H
                                          have c112b0 : ((x0_1.extract 0 ((t222.size : Int) : Int).toNat).toList == t222.toList) = true := beq_iff_eq.mpr c112
                                          try (have c112b9 := c112b0; simp only [Int.toNat_natCast] at c112b9)
                                          have c112b1 : ((x0_1.extract 0 ((t222.size : Int) : Int).toNat).toList != t222.toList) = false := bne_eq_false_iff_eq.mpr c112
                                          clear c112
                                          by_cases c113 : x4_1.length < 4398046511104
                                          · rw [if_pos c113] at H
                                            have LMc113 := Aside0.mk c113
                                            clear c113
                                            obtain ⟨y223, hy223⟩ : ∃ y_ : List (S38), y_ = (x4_1 ++ [(⟨t216, t217, t218⟩ : S38)]) := ⟨_, rfl⟩
                                            replace H : (relstoreref_Unkey.l0 kj83 (x0_1.extract ((t222.size : Int) : Int).toNat x0_1.size) y223) = some (r1, r2) := by first | (rw [hy223]; with_reducible exact H) | (have H2_ := (Option.bind_some _ _).symm.trans H; rw [hy223]; with_reducible exact H2_) | (have H2_ := (Option.bind_some _ _).symm.trans H; with_reducible exact H2_) | with_reducible exact H | (rw [hy223]; exact H) | exact H
                                            have Ny223 := Aside0.mk hy223
                                            clear hy223
                                            have c114b0 := eq_true (of_decide_eq_true (by first | (with_reducible assumption) | assumption) : 0 ≤ (t222.size : Int))
                                            have c115b0 := eq_true (of_decide_eq_true (by first | (with_reducible assumption) | assumption) : (t222.size : Int) ≤ (x0_1.size : Int))
                                            have H' := Aside0.mk H
                                            clear H
                                            go_wp2_with (first | ((with_reducible refine gate_callee (f := 36) rfl ?_); refine goesL_ (some 79) rfl rfl Tryd.func36 (by kernel_rfl) rfl #[.string x6_4] rfl (by (try simp only [List.map_toArray, List.map_cons, List.map_nil]); first | done | rfl | (simp only [List.length_drop, List.length_take]; rfl) | (simp only [Int.ofNat_lt, Int.ofNat_le]; done) | (simp only [Int.ofNat_lt, Int.ofNat_le]; rfl) | (simp only [ByteArray.size_append, Int.natCast_add]; rfl)) ?_; (with_reducible refine (relstoreref_str.calls x6_4 t216 t217 t218 _ A101.out).mono ?_); rintro e w116 ⟨rfl, hb⟩; refine ⟨_, rfl, ?_⟩; have n0_ := Aside0.mk (Kd.R_below (by (with_reducible repeat (first | apply Kd.R_alloc | apply Kd.R_drewN | apply Kd.R_drew)); exact HO_4.out) hb); have n1_ := Aside0.mk (blk_below (g := gb194) (o := .cells #[.int .i64 t191, .int .i64 t192, .string t193] 38 (0, 0)) (by (with_reducible repeat (first | refine blk_drewN ?_ _ | refine blk_drew ?_ | refine blk_alloc ?_ _)); exact BK194.out) hb); have n2_ := Aside0.mk (below_step (by repeat (first | (with_reducible first | exact HB.out | apply below_alloc | apply pw_below_drewN | apply below_drew1 | refine below_set ?_ GE194.out) | exact HB.out)) hb); clear HO_4; clear BK194; clear HB; have HO_4 := n0_; have BK194 := n1_; have HB := n2_; clear n0_ n1_ n2_; (try clear hb); (try clear hb2); (try clear hk); (try clear hi); have hcz117_0 : w116.cell? ⟨gb194, 0, none⟩ = some (.int .i64 t191) := (blk_cell BK194.out 0).trans rfl; have hcz117_1 : w116.cell? ⟨gb194, 1, none⟩ = some (.int .i64 t192) := (blk_cell BK194.out 1).trans rfl; have hcz117_2 : w116.cell? ⟨gb194, 2, none⟩ = some (.string t193) := (blk_cell BK194.out 2).trans rfl; have hfz117_0 := blk_frozen BK194.out 0; have hfz117_1 := blk_frozen BK194.out 1; have hfz117_2 := blk_frozen BK194.out 2) | ((with_reducible refine gate_dst (N := 81) rfl ?_); (try (refine gate_guard (by rfl) ?_; dsimp only)); refine Kd.R_lit k38 _ 38 ?hg (N := 81) ?hd (xs := ([(⟨t216, t217, t218⟩ : S38)] : List (S38))) (inner := [.int .i64 t216, .int .i64 t217, .string t218]) (ok := fun _ => True) (okp := fun _ => True) ?hr ?hp (fun _ hk => hk) trivial (Below.refl _ _) (Nat.le_refl _) (by simp) ?_; (case hd => rfl); (case hg => rfl); (case hr => first | (go_simp; done) | (go_simp; rfl)); (case hp => exact (Reps.c3 (show Kd.M k38 _ _ _ (⟨t216, t217, t218⟩ : S38) [.int .i64 t216, .int .i64 t217, .string t218] from (k38_mkM _ _ _ (⟨t216, t217, t218⟩ : S38) )) (Reps.none _ _))); intro v220 w118 ho119 hb hg_ hnew_; clear hg_ hnew_; (first | rw [← Ny219.out] at ho119 | (simp only [Int.reduceToNat] at ho119; rw [← Ny219.out] at ho119)); have n0_ := Aside0.mk (Kd.R_elder' (by (with_reducible repeat (first | apply Kd.R_alloc | apply Kd.R_drewN | apply Kd.R_drew)); exact (Kd.R_mono (Kd.R_far (p := ⟨gb194, 2, none⟩) (Kd.R_far (p := ⟨gb194, 1, none⟩) (Kd.R_far (p := ⟨gb194, 0, none⟩) (Kd.R_mono HO_4.out (fun k_ hk => (⟨hk, hk⟩ : _ ∧ k_ ≠ gb194))) (fun _ hk => hk.2) (.int .i64 t216)) (fun _ hk => hk.2) (.int .i64 t217)) (fun _ hk => hk.2) (.string t218)) (fun _ h_ => h_.1))) (Kd.R_base ho119) hb); have n1_ := Aside0.mk (Kd.R_lower (Kd.R_newB (Kd.R_new' ho119 (Kd.R_lt (by (with_reducible repeat (first | apply Kd.R_alloc | apply Kd.R_drewN | apply Kd.R_drew)); exact (Kd.R_mono (Kd.R_far (p := ⟨gb194, 2, none⟩) (Kd.R_far (p := ⟨gb194, 1, none⟩) (Kd.R_far (p := ⟨gb194, 0, none⟩) (Kd.R_mono HO_4.out (fun k_ hk => (⟨hk, hk⟩ : _ ∧ k_ ≠ gb194))) (fun _ hk => hk.2) (.int .i64 t216)) (fun _ hk => hk.2) (.int .i64 t217)) (fun _ hk => hk.2) (.string t218)) (fun _ h_ => h_.1))))) (g := gb194) (o := .cells #[.int .i64 t216, .int .i64 t217, .string t218] 38 (0, 0)) (by (with_reducible repeat (first | refine blk_drewN ?_ _ | refine blk_drew ?_ | refine blk_alloc ?_ _)); refine blk_put (cs := #[.int .i64 t216, .int .i64 t217, .string t193]) ?_ 2 _ rfl; (with_reducible repeat (first | refine blk_drewN ?_ _ | refine blk_drew ?_ | refine blk_alloc ?_ _)); refine blk_put (cs := #[.int .i64 t216, .int .i64 t192, .string t193]) ?_ 1 _ rfl; (with_reducible repeat (first | refine blk_drewN ?_ _ | refine blk_drew ?_ | refine blk_alloc ?_ _)); refine blk_put (cs := #[.int .i64 t191, .int .i64 t192, .string t193]) ?_ 0 _ rfl; (with_reducible repeat (first | refine blk_drewN ?_ _ | refine blk_drew ?_ | refine blk_alloc ?_ _)); exact BK194.out)) (below_size (by repeat (first | (with_reducible first | exact HB.out | apply below_alloc | apply pw_below_drewN | apply below_drew1 | refine below_set ?_ GE194.out) | exact HB.out)))); have n2_ := Aside0.mk (blk_below (g := gb194) (o := .cells #[.int .i64 t216, .int .i64 t217, .string t218] 38 (0, 0)) (by (with_reducible repeat (first | refine blk_drewN ?_ _ | refine blk_drew ?_ | refine blk_alloc ?_ _)); refine blk_put (cs := #[.int .i64 t216, .int .i64 t217, .string t193]) ?_ 2 _ rfl; (with_reducible repeat (first | refine blk_drewN ?_ _ | refine blk_drew ?_ | refine blk_alloc ?_ _)); refine blk_put (cs := #[.int .i64 t216, .int .i64 t192, .string t193]) ?_ 1 _ rfl; (with_reducible repeat (first | refine blk_drewN ?_ _ | refine blk_drew ?_ | refine blk_alloc ?_ _)); refine blk_put (cs := #[.int .i64 t191, .int .i64 t192, .string t193]) ?_ 0 _ rfl; (with_reducible repeat (first | refine blk_drewN ?_ _ | refine blk_drew ?_ | refine blk_alloc ?_ _)); exact BK194.out) hb); have n3_ := Aside0.mk (below_step (by repeat (first | (with_reducible first | exact HB.out | apply below_alloc | apply pw_below_drewN | apply below_drew1 | refine below_set ?_ GE194.out) | exact HB.out)) hb); clear HO_4; clear BK194; clear HB; have HO_4 := n0_; have HO221 := n1_; have BK194 := n2_; have HB := n3_; clear n0_ n1_ n2_ n3_; clear hb ho119; obtain ⟨Ao120, co120, eo120⟩ := Kd.R_slice HO221.out; subst eo120) | ((with_reducible refine gate_callee (f := 10) rfl ?_); refine goesL_ (some 82) rfl rfl Tryd.func10 (by kernel_rfl) rfl #[.slice Ao120 y219.length co120] rfl (by (try simp only [List.map_toArray, List.map_cons, List.map_nil]); first | done | rfl | (simp only [List.length_drop, List.length_take]; rfl) | (simp only [Int.ofNat_lt, Int.ofNat_le]; done) | (simp only [Int.ofNat_lt, Int.ofNat_le]; rfl) | (simp only [ByteArray.size_append, Int.natCast_add]; rfl)) ?_; (with_reducible refine (relstoreref_Key.calls kj83 _ _ y219 t222 _ ?side1 ?side2 A102.out).mono ?_); (case side1 => repeat (first | exact (Kd.R_reads' HO221.out).2.2 | (with_reducible refine Kd.C_alloc ?_ _) | (with_reducible refine Kd.C_drewN ?_ _) | (with_reducible refine Kd.C_drew ?_))); (case side2 => exact (Kd.R_reads' HO221.out).2.1); rintro e w121 ⟨rfl, hb⟩; refine ⟨_, rfl, ?_⟩; have n0_ := Aside0.mk (Kd.R_below (by (with_reducible repeat (first | apply Kd.R_alloc | apply Kd.R_drewN | apply Kd.R_drew)); exact HO_4.out) hb); have n1_ := Aside0.mk (Kd.R_below (by (with_reducible repeat (first | apply Kd.R_alloc | apply Kd.R_drewN | apply Kd.R_drew)); exact HO221.out) hb); have n2_ := Aside0.mk (blk_below (g := gb194) (o := .cells #[.int .i64 t216, .int .i64 t217, .string t218] 38 (0, 0)) (by (with_reducible repeat (first | refine blk_drewN ?_ _ | refine blk_drew ?_ | refine blk_alloc ?_ _)); exact BK194.out) hb); have n3_ := Aside0.mk (below_step (by repeat (first | (with_reducible first | exact HB.out | apply below_alloc | apply pw_below_drewN | apply below_drew1 | refine below_set ?_ GE194.out) | exact HB.out)) hb); clear HO_4; clear HO221; clear BK194; clear HB; have HO_4 := n0_; have HO221 := n1_; have BK194 := n2_; have HB := n3_; clear n0_ n1_ n2_ n3_; (try clear hb); (try clear hb2); (try clear hk); (try clear hi); have hcz122_0 : w121.cell? ⟨gb194, 0, none⟩ = some (.int .i64 t216) := (blk_cell BK194.out 0).trans rfl; have hcz122_1 : w121.cell? ⟨gb194, 1, none⟩ = some (.int .i64 t217) := (blk_cell BK194.out 1).trans rfl; have hcz122_2 : w121.cell? ⟨gb194, 2, none⟩ = some (.string t218) := (blk_cell BK194.out 2).trans rfl; have hfz122_0 := blk_frozen BK194.out 0; have hfz122_1 := blk_frozen BK194.out 1; have hfz122_2 := blk_frozen BK194.out 2) | ((with_reducible refine gate_builtin (b := .append) (xs := #[.tmp 96, .tmp 98]) rfl ?_); (try (refine gate_guard (by rfl) ?_; dsimp only)); at_builtin; refine Kd.R_append k38 (w0 := w) w.heap.size rfl (.tmp 96) (.tmp 98) 22 38 (.agg #[(.int .i64 0), (.int .i64 0), (.string ⟨#[]⟩)]) 32 rfl Tryd.underlying22 info38 rfl (by decide) (by omega) u4 x4_1 (⟨t216, t217, t218⟩ : S38) [.int .i64 t216, .int .i64 t217, .string t218] (fun k_ => some k_ ≠ (.slice Ao120 y219.length co120 : Value).ownBlock ∧ k_ ≠ gb194) (fun _ => False) rfl rfl ?aP (fun _ hk => hk.elim) ?aF ?aO ?aB ?aS ?aL ?_; (case aP => exact k38_mkM _ _ _ (⟨t216, t217, t218⟩ : S38)); (case aB => exact (by repeat (first | (with_reducible first | exact HB.out | apply below_alloc | apply pw_below_drewN | apply below_drew1 | refine below_set ?_ GE194.out) | exact HB.out))); (case aF => exact (fun k_ hk => ⟨Kd.fresh' (Kd.R_lt (by (with_reducible repeat (first | apply Kd.R_alloc | apply Kd.R_drewN | apply Kd.R_drew)); exact HO221.out)) k_ hk, Kd.freshB (g := gb194) (o := .cells #[.int .i64 t216, .int .i64 t217, .string t218] 38 (0, 0)) (by (with_reducible repeat (first | refine blk_drewN ?_ _ | refine blk_drew ?_ | refine blk_alloc ?_ _)); exact BK194.out) k_ hk⟩)); (case aO => exact (by (with_reducible repeat (first | apply Kd.R_alloc | apply Kd.R_drewN | apply Kd.R_drew)); exact Kd.R_mono HO_4.out (fun _ hk => ⟨hk.2, hk.1⟩))); (case aS => exact (below_size (by repeat (first | (with_reducible first | exact HB.out | apply below_alloc | apply pw_below_drewN | apply below_drew1 | refine below_set ?_ GE194.out) | exact HB.out)))); (case aL => have := LMc113.out; omega); intro v224 w123 ho hb hg hat; rw [← Ny223.out] at ho; have n0_ := Aside0.mk (blk_grown (g := gb194) (o := .cells #[.int .i64 t216, .int .i64 t217, .string t218] 38 (0, 0)) (by (with_reducible repeat (first | refine blk_drewN ?_ _ | refine blk_drew ?_ | refine blk_alloc ?_ _)); exact BK194.out) hg (Kd.R_away HO_4.out (fun _ hk => hk.1))); have n1_ := Aside0.mk (Kd.R_after (ok := (fun k_ => k_ ≠ gb194)) (by (with_reducible repeat (first | apply Kd.R_alloc | apply Kd.R_drewN | apply Kd.R_drew)); exact Kd.R_mono HO221.out (fun _ hk => ⟨hk.2, hk.1.2⟩)) hg hat); have n2_ := Aside0.mk (hb); have n3_ := Aside0.mk (ho); clear BK194; clear HO221; clear HB; clear HO_4; have BK194 := n0_; have HO221 := n1_; have HB := n2_; have HO225 := n3_; clear n0_ n1_ n2_ n3_; clear ho hb hg hat))
                                            go_roundg kj83
                                            case measure => have := HK1.out; have := HJ3.out; have := HJ43.out; have := HK4.out; have := HJ83.out; omega
                                            case rel => exact ⟨(x0_1.extract ((t222.size : Int) : Int).toNat x0_1.size), (y223), (by first | rfl | (simp; done) | (simp [*]; done) | exact bq1 _ _ | exact bq2 _ _ | exact congrArg Value.bool (bq2 _ _) | exact congrArg Value.bool (bq1 _ _) | exact congrArg Value.bool (bq1' _ _) | exact bq1' _ _ | exact congrArg Value.bool (bq2' _ _) | exact bq2' _ _), H', ⟨by have := HK1.out; have := HJ3.out; have := HJ43.out; have := HK4.out; have := HJ83.out; omega⟩, ⟨by (with_reducible repeat (first | apply Kd.R_alloc | apply Kd.R_drewN | apply Kd.R_drew)); exact Kd.R_mono HO225.out (fun _ hk => trivial)⟩, ⟨by repeat (first | (with_reducible first | exact HB.out | apply below_alloc | apply pw_below_drewN | apply below_drew1 | refine below_set ?_ GE194.out) | exact HB.out)⟩⟩
                                          · rw [if_neg c113] at H
                                            exact absurd H (by simp)
                                        · rw [if_neg c112] at H
                                          have c112b0 : ((x0_1.extract 0 ((t222.size : Int) : Int).toNat).toList == t222.toList) = false := beq_eq_false_iff_ne.mpr c112
                                          try (have c112b9 := c112b0; simp only [Int.toNat_natCast] at c112b9)
                                          have c112b1 : ((x0_1.extract 0 ((t222.size : Int) : Int).toNat).toList != t222.toList) = true := bne_iff_ne.mpr c112
                                          simp only [Option.some.injEq, Prod.mk.injEq] at H
                                          obtain ⟨rfl, rfl⟩ := H
                                          go_wp2_with (first | ((with_reducible refine gate_callee (f := 36) rfl ?_); refine goesL_ (some 79) rfl rfl Tryd.func36 (by kernel_rfl) rfl #[.string x6_4] rfl (by (try simp only [List.map_toArray, List.map_cons, List.map_nil]); first | done | rfl | (simp only [List.length_drop, List.length_take]; rfl) | (simp only [Int.ofNat_lt, Int.ofNat_le]; done) | (simp only [Int.ofNat_lt, Int.ofNat_le]; rfl) | (simp only [ByteArray.size_append, Int.natCast_add]; rfl)) ?_; (with_reducible refine (relstoreref_str.calls x6_4 t216 t217 t218 _ A101.out).mono ?_); rintro e w124 ⟨rfl, hb⟩; refine ⟨_, rfl, ?_⟩; have n0_ := Aside0.mk (Kd.R_below (by (with_reducible repeat (first | apply Kd.R_alloc | apply Kd.R_drewN | apply Kd.R_drew)); exact HO_4.out) hb); have n1_ := Aside0.mk (blk_below (g := gb194) (o := .cells #[.int .i64 t191, .int .i64 t192, .string t193] 38 (0, 0)) (by (with_reducible repeat (first | refine blk_drewN ?_ _ | refine blk_drew ?_ | refine blk_alloc ?_ _)); exact BK194.out) hb); have n2_ := Aside0.mk (below_step (by repeat (first | (with_reducible first | exact HB.out | apply below_alloc | apply pw_below_drewN | apply below_drew1 | refine below_set ?_ GE194.out) | exact HB.out)) hb); clear HO_4; clear BK194; clear HB; have HO_4 := n0_; have BK194 := n1_; have HB := n2_; clear n0_ n1_ n2_; (try clear hb); (try clear hb2); (try clear hk); (try clear hi); have hcz125_0 : w124.cell? ⟨gb194, 0, none⟩ = some (.int .i64 t191) := (blk_cell BK194.out 0).trans rfl; have hcz125_1 : w124.cell? ⟨gb194, 1, none⟩ = some (.int .i64 t192) := (blk_cell BK194.out 1).trans rfl; have hcz125_2 : w124.cell? ⟨gb194, 2, none⟩ = some (.string t193) := (blk_cell BK194.out 2).trans rfl; have hfz125_0 := blk_frozen BK194.out 0; have hfz125_1 := blk_frozen BK194.out 1; have hfz125_2 := blk_frozen BK194.out 2) | ((with_reducible refine gate_dst (N := 81) rfl ?_); (try (refine gate_guard (by rfl) ?_; dsimp only)); refine Kd.R_lit k38 _ 38 ?hg (N := 81) ?hd (xs := ([(⟨t216, t217, t218⟩ : S38)] : List (S38))) (inner := [.int .i64 t216, .int .i64 t217, .string t218]) (ok := fun _ => True) (okp := fun _ => True) ?hr ?hp (fun _ hk => hk) trivial (Below.refl _ _) (Nat.le_refl _) (by simp) ?_; (case hd => rfl); (case hg => rfl); (case hr => first | (go_simp; done) | (go_simp; rfl)); (case hp => exact (Reps.c3 (show Kd.M k38 _ _ _ (⟨t216, t217, t218⟩ : S38) [.int .i64 t216, .int .i64 t217, .string t218] from (k38_mkM _ _ _ (⟨t216, t217, t218⟩ : S38) )) (Reps.none _ _))); intro v220 w126 ho127 hb hg_ hnew_; clear hg_ hnew_; (first | rw [← Ny219.out] at ho127 | (simp only [Int.reduceToNat] at ho127; rw [← Ny219.out] at ho127)); have n0_ := Aside0.mk (Kd.R_elder' (by (with_reducible repeat (first | apply Kd.R_alloc | apply Kd.R_drewN | apply Kd.R_drew)); exact (Kd.R_mono (Kd.R_far (p := ⟨gb194, 2, none⟩) (Kd.R_far (p := ⟨gb194, 1, none⟩) (Kd.R_far (p := ⟨gb194, 0, none⟩) (Kd.R_mono HO_4.out (fun k_ hk => (⟨hk, hk⟩ : _ ∧ k_ ≠ gb194))) (fun _ hk => hk.2) (.int .i64 t216)) (fun _ hk => hk.2) (.int .i64 t217)) (fun _ hk => hk.2) (.string t218)) (fun _ h_ => h_.1))) (Kd.R_base ho127) hb); have n1_ := Aside0.mk (Kd.R_lower (Kd.R_newB (Kd.R_new' ho127 (Kd.R_lt (by (with_reducible repeat (first | apply Kd.R_alloc | apply Kd.R_drewN | apply Kd.R_drew)); exact (Kd.R_mono (Kd.R_far (p := ⟨gb194, 2, none⟩) (Kd.R_far (p := ⟨gb194, 1, none⟩) (Kd.R_far (p := ⟨gb194, 0, none⟩) (Kd.R_mono HO_4.out (fun k_ hk => (⟨hk, hk⟩ : _ ∧ k_ ≠ gb194))) (fun _ hk => hk.2) (.int .i64 t216)) (fun _ hk => hk.2) (.int .i64 t217)) (fun _ hk => hk.2) (.string t218)) (fun _ h_ => h_.1))))) (g := gb194) (o := .cells #[.int .i64 t216, .int .i64 t217, .string t218] 38 (0, 0)) (by (with_reducible repeat (first | refine blk_drewN ?_ _ | refine blk_drew ?_ | refine blk_alloc ?_ _)); refine blk_put (cs := #[.int .i64 t216, .int .i64 t217, .string t193]) ?_ 2 _ rfl; (with_reducible repeat (first | refine blk_drewN ?_ _ | refine blk_drew ?_ | refine blk_alloc ?_ _)); refine blk_put (cs := #[.int .i64 t216, .int .i64 t192, .string t193]) ?_ 1 _ rfl; (with_reducible repeat (first | refine blk_drewN ?_ _ | refine blk_drew ?_ | refine blk_alloc ?_ _)); refine blk_put (cs := #[.int .i64 t191, .int .i64 t192, .string t193]) ?_ 0 _ rfl; (with_reducible repeat (first | refine blk_drewN ?_ _ | refine blk_drew ?_ | refine blk_alloc ?_ _)); exact BK194.out)) (below_size (by repeat (first | (with_reducible first | exact HB.out | apply below_alloc | apply pw_below_drewN | apply below_drew1 | refine below_set ?_ GE194.out) | exact HB.out)))); have n2_ := Aside0.mk (blk_below (g := gb194) (o := .cells #[.int .i64 t216, .int .i64 t217, .string t218] 38 (0, 0)) (by (with_reducible repeat (first | refine blk_drewN ?_ _ | refine blk_drew ?_ | refine blk_alloc ?_ _)); refine blk_put (cs := #[.int .i64 t216, .int .i64 t217, .string t193]) ?_ 2 _ rfl; (with_reducible repeat (first | refine blk_drewN ?_ _ | refine blk_drew ?_ | refine blk_alloc ?_ _)); refine blk_put (cs := #[.int .i64 t216, .int .i64 t192, .string t193]) ?_ 1 _ rfl; (with_reducible repeat (first | refine blk_drewN ?_ _ | refine blk_drew ?_ | refine blk_alloc ?_ _)); refine blk_put (cs := #[.int .i64 t191, .int .i64 t192, .string t193]) ?_ 0 _ rfl; (with_reducible repeat (first | refine blk_drewN ?_ _ | refine blk_drew ?_ | refine blk_alloc ?_ _)); exact BK194.out) hb); have n3_ := Aside0.mk (below_step (by repeat (first | (with_reducible first | exact HB.out | apply below_alloc | apply pw_below_drewN | apply below_drew1 | refine below_set ?_ GE194.out) | exact HB.out)) hb); clear HO_4; clear BK194; clear HB; have HO_4 := n0_; have HO221 := n1_; have BK194 := n2_; have HB := n3_; clear n0_ n1_ n2_ n3_; clear hb ho127; obtain ⟨Ao128, co128, eo128⟩ := Kd.R_slice HO221.out; subst eo128) | ((with_reducible refine gate_callee (f := 10) rfl ?_); refine goesL_ (some 82) rfl rfl Tryd.func10 (by kernel_rfl) rfl #[.slice Ao128 y219.length co128] rfl (by (try simp only [List.map_toArray, List.map_cons, List.map_nil]); first | done | rfl | (simp only [List.length_drop, List.length_take]; rfl) | (simp only [Int.ofNat_lt, Int.ofNat_le]; done) | (simp only [Int.ofNat_lt, Int.ofNat_le]; rfl) | (simp only [ByteArray.size_append, Int.natCast_add]; rfl)) ?_; (with_reducible refine (relstoreref_Key.calls kj83 _ _ y219 t222 _ ?side1 ?side2 A102.out).mono ?_); (case side1 => repeat (first | exact (Kd.R_reads' HO221.out).2.2 | (with_reducible refine Kd.C_alloc ?_ _) | (with_reducible refine Kd.C_drewN ?_ _) | (with_reducible refine Kd.C_drew ?_))); (case side2 => exact (Kd.R_reads' HO221.out).2.1); rintro e w129 ⟨rfl, hb⟩; refine ⟨_, rfl, ?_⟩; have n0_ := Aside0.mk (Kd.R_below (by (with_reducible repeat (first | apply Kd.R_alloc | apply Kd.R_drewN | apply Kd.R_drew)); exact HO_4.out) hb); have n1_ := Aside0.mk (Kd.R_below (by (with_reducible repeat (first | apply Kd.R_alloc | apply Kd.R_drewN | apply Kd.R_drew)); exact HO221.out) hb); have n2_ := Aside0.mk (blk_below (g := gb194) (o := .cells #[.int .i64 t216, .int .i64 t217, .string t218] 38 (0, 0)) (by (with_reducible repeat (first | refine blk_drewN ?_ _ | refine blk_drew ?_ | refine blk_alloc ?_ _)); exact BK194.out) hb); have n3_ := Aside0.mk (below_step (by repeat (first | (with_reducible first | exact HB.out | apply below_alloc | apply pw_below_drewN | apply below_drew1 | refine below_set ?_ GE194.out) | exact HB.out)) hb); clear HO_4; clear HO221; clear BK194; clear HB; have HO_4 := n0_; have HO221 := n1_; have BK194 := n2_; have HB := n3_; clear n0_ n1_ n2_ n3_; (try clear hb); (try clear hb2); (try clear hk); (try clear hi)))
                                          go_ret2
                                          exact ⟨_, by first | rfl | (simp [errW_none, errW_some] <;> rfl) | (simp [*, errW_none, errW_some] <;> rfl), by first | exact Kd.R_nil _ _ _ _ _ | exact Kd.N_nil _ _ _ _ _ | exact Kd.V_nil _ _ _ _ _ | exact Kd.Q_nil _ _ _ _ _ | exact Kd.S_nil _ _ _ _ _, by repeat (first | (with_reducible first | exact HB.out | apply below_alloc | apply pw_below_drewN | apply below_drew1 | refine below_set ?_ GE194.out) | exact HB.out)⟩
                                      · rw [if_neg c111] at H
                                        exact absurd H (by simp)
                                    · rw [if_neg c110] at H
                                      exact absurd H (by simp)
                      · rw [if_neg c83] at H
                        have c83b0 : ((bt x0_1 0) == 5) = false := beq_eq_false_iff_ne.mpr c83
                        have c83b1 : ((bt x0_1 0) != 5) = true := bne_iff_ne.mpr c83
                        obtain ⟨y226, hy226⟩ : ∃ y_ : List (S38), y_ = (([(⟨t191, t192, t193⟩ : S38)] : List (S38))) := ⟨_, rfl⟩
                        replace H : ((relstoreref_Key.f kj43 y226).bind fun t229 => (if (t229.size : Int) > (x0_1.size : Int) then (some (([] : List (S38)), 4)) else (if 0 ≤ (t229.size : Int) then (if (t229.size : Int) ≤ (x0_1.size : Int) then (if (x0_1.extract 0 ((t229.size : Int) : Int).toNat).toList = t229.toList then (if x4_1.length < 4398046511104 then (relstoreref_Unkey.l0 kj43 (x0_1.extract ((t229.size : Int) : Int).toNat x0_1.size) (x4_1 ++ [(⟨t191, t192, t193⟩ : S38)])) else (none)) else (some (([] : List (S38)), 4))) else (none)) else (none)))) = some (r1, r2) := by first | (rw [hy226]; with_reducible exact H) | (have H2_ := (Option.bind_some _ _).symm.trans H; rw [hy226]; with_reducible exact H2_) | (have H2_ := (Option.bind_some _ _).symm.trans H; with_reducible exact H2_) | with_reducible exact H | (rw [hy226]; exact H) | exact H
                        have Ny226 := Aside0.mk hy226
                        clear hy226
                        replace H := Option.bind_eq_some_iff.mp H
                        obtain ⟨t229, A1300, H⟩ := H
                        replace H : (if (t229.size : Int) > (x0_1.size : Int) then (some (([] : List (S38)), 4)) else (if 0 ≤ (t229.size : Int) then (if (t229.size : Int) ≤ (x0_1.size : Int) then (if (x0_1.extract 0 ((t229.size : Int) : Int).toNat).toList = t229.toList then (if x4_1.length < 4398046511104 then (relstoreref_Unkey.l0 kj43 (x0_1.extract ((t229.size : Int) : Int).toNat x0_1.size) (x4_1 ++ [(⟨t191, t192, t193⟩ : S38)])) else (none)) else (some (([] : List (S38)), 4))) else (none)) else (none))) = some (r1, r2) := H
                        have A130 := Aside0.mk A1300
                        clear A1300
                        by_cases c131 : (t229.size : Int) > (x0_1.size : Int)
                        · rw [if_pos c131] at H
                          have c131b0 : decide ((x0_1.size : Int) < (t229.size : Int)) = true := decide_eq_true c131
                          have c131b1 : decide (x0_1.size < t229.size) = true := decide_eq_true (Int.ofNat_lt.mp c131)
                          clear c131
                          simp only [Option.some.injEq, Prod.mk.injEq] at H
                          obtain ⟨rfl, rfl⟩ := H
                          have p82 : 0 ≤ (0 : Int) := (by omega)
                          have q82 : 0 < x0_1.size := (by have : (0 : Int) < (x0_1.size : Int) := of_decide_eq_true (by first | (with_reducible assumption) | assumption); omega)
                          have hx82 : ∀ h : 0 < x0_1.size, ((x0_1[0]'h).toNat : Int) = bt x0_1 0 := bt_at x0_1 0
                          clear p82
                          have qi82 : (0 < (x0_1.size : Int)) = True := eq_true (of_decide_eq_true (by first | (with_reducible assumption) | assumption))
                          replace q82 := eq_true q82
                          have hcz132_0 : wc.cell? ⟨gb194, 0, none⟩ = some (.int .i64 t191) := (blk_cell BK194.out 0).trans rfl
                          have hcz132_1 : wc.cell? ⟨gb194, 1, none⟩ = some (.int .i64 t192) := (blk_cell BK194.out 1).trans rfl
                          have hcz132_2 : wc.cell? ⟨gb194, 2, none⟩ = some (.string t193) := (blk_cell BK194.out 2).trans rfl
                          have hfz132_0 := blk_frozen BK194.out 0
                          have hfz132_1 := blk_frozen BK194.out 1
                          have hfz132_2 := blk_frozen BK194.out 2
                          go_wp2_with (first | ((with_reducible refine gate_dst (N := 81) rfl ?_); (try (refine gate_guard (by rfl) ?_; dsimp only)); refine Kd.R_lit k38 _ 38 ?hg (N := 81) ?hd (xs := ([(⟨t191, t192, t193⟩ : S38)] : List (S38))) (inner := [.int .i64 t191, .int .i64 t192, .string t193]) (ok := fun _ => True) (okp := fun _ => True) ?hr ?hp (fun _ hk => hk) trivial (Below.refl _ _) (Nat.le_refl _) (by simp) ?_; (case hd => rfl); (case hg => rfl); (case hr => first | (go_simp; done) | (go_simp; rfl)); (case hp => exact (Reps.c3 (show Kd.M k38 _ _ _ (⟨t191, t192, t193⟩ : S38) [.int .i64 t191, .int .i64 t192, .string t193] from (k38_mkM _ _ _ (⟨t191, t192, t193⟩ : S38) )) (Reps.none _ _))); intro v227 w133 ho134 hb hg_ hnew_; clear hg_ hnew_; (first | rw [← Ny226.out] at ho134 | (simp only [Int.reduceToNat] at ho134; rw [← Ny226.out] at ho134)); have n0_ := Aside0.mk (Kd.R_elder' (by (with_reducible repeat (first | apply Kd.R_alloc | apply Kd.R_drewN | apply Kd.R_drew)); exact HO_4.out) (Kd.R_base ho134) hb); have n1_ := Aside0.mk (Kd.R_lower (Kd.R_newB (Kd.R_new' ho134 (Kd.R_lt (by (with_reducible repeat (first | apply Kd.R_alloc | apply Kd.R_drewN | apply Kd.R_drew)); exact HO_4.out))) (g := gb194) (o := .cells #[.int .i64 t191, .int .i64 t192, .string t193] 38 (0, 0)) (by (with_reducible repeat (first | refine blk_drewN ?_ _ | refine blk_drew ?_ | refine blk_alloc ?_ _)); exact BK194.out)) (below_size (by repeat (first | (with_reducible first | exact HB.out | apply below_alloc | apply pw_below_drewN | apply below_drew1 | refine below_set ?_ GE194.out) | exact HB.out)))); have n2_ := Aside0.mk (blk_below (g := gb194) (o := .cells #[.int .i64 t191, .int .i64 t192, .string t193] 38 (0, 0)) (by (with_reducible repeat (first | refine blk_drewN ?_ _ | refine blk_drew ?_ | refine blk_alloc ?_ _)); exact BK194.out) hb); have n3_ := Aside0.mk (below_step (by repeat (first | (with_reducible first | exact HB.out | apply below_alloc | apply pw_below_drewN | apply below_drew1 | refine below_set ?_ GE194.out) | exact HB.out)) hb); clear HO_4; clear BK194; clear HB; have HO_4 := n0_; have HO228 := n1_; have BK194 := n2_; have HB := n3_; clear n0_ n1_ n2_ n3_; clear hb ho134; obtain ⟨Ao135, co135, eo135⟩ := Kd.R_slice HO228.out; subst eo135) | ((with_reducible refine gate_callee (f := 10) rfl ?_); refine goesL_ (some 82) rfl rfl Tryd.func10 (by kernel_rfl) rfl #[.slice Ao135 y226.length co135] rfl (by (try simp only [List.map_toArray, List.map_cons, List.map_nil]); first | done | rfl | (simp only [List.length_drop, List.length_take]; rfl) | (simp only [Int.ofNat_lt, Int.ofNat_le]; done) | (simp only [Int.ofNat_lt, Int.ofNat_le]; rfl) | (simp only [ByteArray.size_append, Int.natCast_add]; rfl)) ?_; (with_reducible refine (relstoreref_Key.calls kj43 _ _ y226 t229 _ ?side1 ?side2 A130.out).mono ?_); (case side1 => repeat (first | exact (Kd.R_reads' HO228.out).2.2 | (with_reducible refine Kd.C_alloc ?_ _) | (with_reducible refine Kd.C_drewN ?_ _) | (with_reducible refine Kd.C_drew ?_))); (case side2 => exact (Kd.R_reads' HO228.out).2.1); rintro e w136 ⟨rfl, hb⟩; refine ⟨_, rfl, ?_⟩; have n0_ := Aside0.mk (Kd.R_below (by (with_reducible repeat (first | apply Kd.R_alloc | apply Kd.R_drewN | apply Kd.R_drew)); exact HO_4.out) hb); have n1_ := Aside0.mk (Kd.R_below (by (with_reducible repeat (first | apply Kd.R_alloc | apply Kd.R_drewN | apply Kd.R_drew)); exact HO228.out) hb); have n2_ := Aside0.mk (blk_below (g := gb194) (o := .cells #[.int .i64 t191, .int .i64 t192, .string t193] 38 (0, 0)) (by (with_reducible repeat (first | refine blk_drewN ?_ _ | refine blk_drew ?_ | refine blk_alloc ?_ _)); exact BK194.out) hb); have n3_ := Aside0.mk (below_step (by repeat (first | (with_reducible first | exact HB.out | apply below_alloc | apply pw_below_drewN | apply below_drew1 | refine below_set ?_ GE194.out) | exact HB.out)) hb); clear HO_4; clear HO228; clear BK194; clear HB; have HO_4 := n0_; have HO228 := n1_; have BK194 := n2_; have HB := n3_; clear n0_ n1_ n2_ n3_; (try clear hb); (try clear hb2); (try clear hk); (try clear hi)))
                          go_ret2
                          exact ⟨_, by first | rfl | (simp [errW_none, errW_some] <;> rfl) | (simp [*, errW_none, errW_some] <;> rfl), by first | exact Kd.R_nil _ _ _ _ _ | exact Kd.N_nil _ _ _ _ _ | exact Kd.V_nil _ _ _ _ _ | exact Kd.Q_nil _ _ _ _ _ | exact Kd.S_nil _ _ _ _ _, by repeat (first | (with_reducible first | exact HB.out | apply below_alloc | apply pw_below_drewN | apply below_drew1 | refine below_set ?_ GE194.out) | exact HB.out)⟩
                        · rw [if_neg c131] at H
                          have c131b0 : decide ((x0_1.size : Int) < (t229.size : Int)) = false := decide_eq_false c131
                          have c131b1 : decide (x0_1.size < t229.size) = false := decide_eq_false (fun h => c131 (Int.ofNat_lt.mpr h))
                          clear c131
                          by_cases c137 : 0 ≤ (t229.size : Int)
                          · rw [if_pos c137] at H
                            have c137b0 := eq_true c137
                            have c137b1 : decide (0 ≤ (t229.size : Int)) = true := decide_eq_true c137
                            clear c137
                            by_cases c138 : (t229.size : Int) ≤ (x0_1.size : Int)
                            · rw [if_pos c138] at H
                              have c138b0 := eq_true c138
                              have c138b1 : decide ((t229.size : Int) ≤ (x0_1.size : Int)) = true := decide_eq_true c138
                              clear c138
                              by_cases c139 : (x0_1.extract 0 ((t229.size : Int) : Int).toNat).toList = t229.toList
                              · rw [if_pos c139] at H
                                have c139b0 : ((x0_1.extract 0 ((t229.size : Int) : Int).toNat).toList == t229.toList) = true := beq_iff_eq.mpr c139
                                try (have c139b9 := c139b0; simp only [Int.toNat_natCast] at c139b9)
                                have c139b1 : ((x0_1.extract 0 ((t229.size : Int) : Int).toNat).toList != t229.toList) = false := bne_eq_false_iff_eq.mpr c139
                                clear c139
                                by_cases c140 : x4_1.length < 4398046511104
                                · rw [if_pos c140] at H
                                  have LMc140 := Aside0.mk c140
                                  clear c140
                                  obtain ⟨y230, hy230⟩ : ∃ y_ : List (S38), y_ = (x4_1 ++ [(⟨t191, t192, t193⟩ : S38)]) := ⟨_, rfl⟩
                                  replace H : (relstoreref_Unkey.l0 kj43 (x0_1.extract ((t229.size : Int) : Int).toNat x0_1.size) y230) = some (r1, r2) := by first | (rw [hy230]; with_reducible exact H) | (have H2_ := (Option.bind_some _ _).symm.trans H; rw [hy230]; with_reducible exact H2_) | (have H2_ := (Option.bind_some _ _).symm.trans H; with_reducible exact H2_) | with_reducible exact H | (rw [hy230]; exact H) | exact H
                                  have Ny230 := Aside0.mk hy230
                                  clear hy230
                                  have c141b0 := eq_true (of_decide_eq_true (by first | (with_reducible assumption) | assumption) : 0 ≤ (t229.size : Int))
                                  have c142b0 := eq_true (of_decide_eq_true (by first | (with_reducible assumption) | assumption) : (t229.size : Int) ≤ (x0_1.size : Int))
                                  have H' := Aside0.mk H
                                  clear H
                                  have p82 : 0 ≤ (0 : Int) := (by omega)
                                  have q82 : 0 < x0_1.size := (by have : (0 : Int) < (x0_1.size : Int) := of_decide_eq_true (by first | (with_reducible assumption) | assumption); omega)
                                  have hx82 : ∀ h : 0 < x0_1.size, ((x0_1[0]'h).toNat : Int) = bt x0_1 0 := bt_at x0_1 0
                                  clear p82
                                  have qi82 : (0 < (x0_1.size : Int)) = True := eq_true (of_decide_eq_true (by first | (with_reducible assumption) | assumption))
                                  replace q82 := eq_true q82
                                  have hcz143_0 : wc.cell? ⟨gb194, 0, none⟩ = some (.int .i64 t191) := (blk_cell BK194.out 0).trans rfl
                                  have hcz143_1 : wc.cell? ⟨gb194, 1, none⟩ = some (.int .i64 t192) := (blk_cell BK194.out 1).trans rfl
                                  have hcz143_2 : wc.cell? ⟨gb194, 2, none⟩ = some (.string t193) := (blk_cell BK194.out 2).trans rfl
                                  have hfz143_0 := blk_frozen BK194.out 0
                                  have hfz143_1 := blk_frozen BK194.out 1
                                  have hfz143_2 := blk_frozen BK194.out 2
                                  go_wp2_with (first | ((with_reducible refine gate_dst (N := 81) rfl ?_); (try (refine gate_guard (by rfl) ?_; dsimp only)); refine Kd.R_lit k38 _ 38 ?hg (N := 81) ?hd (xs := ([(⟨t191, t192, t193⟩ : S38)] : List (S38))) (inner := [.int .i64 t191, .int .i64 t192, .string t193]) (ok := fun _ => True) (okp := fun _ => True) ?hr ?hp (fun _ hk => hk) trivial (Below.refl _ _) (Nat.le_refl _) (by simp) ?_; (case hd => rfl); (case hg => rfl); (case hr => first | (go_simp; done) | (go_simp; rfl)); (case hp => exact (Reps.c3 (show Kd.M k38 _ _ _ (⟨t191, t192, t193⟩ : S38) [.int .i64 t191, .int .i64 t192, .string t193] from (k38_mkM _ _ _ (⟨t191, t192, t193⟩ : S38) )) (Reps.none _ _))); intro v227 w144 ho145 hb hg_ hnew_; clear hg_ hnew_; (first | rw [← Ny226.out] at ho145 | (simp only [Int.reduceToNat] at ho145; rw [← Ny226.out] at ho145)); have n0_ := Aside0.mk (Kd.R_elder' (by (with_reducible repeat (first | apply Kd.R_alloc | apply Kd.R_drewN | apply Kd.R_drew)); exact HO_4.out) (Kd.R_base ho145) hb); have n1_ := Aside0.mk (Kd.R_lower (Kd.R_newB (Kd.R_new' ho145 (Kd.R_lt (by (with_reducible repeat (first | apply Kd.R_alloc | apply Kd.R_drewN | apply Kd.R_drew)); exact HO_4.out))) (g := gb194) (o := .cells #[.int .i64 t191, .int .i64 t192, .string t193] 38 (0, 0)) (by (with_reducible repeat (first | refine blk_drewN ?_ _ | refine blk_drew ?_ | refine blk_alloc ?_ _)); exact BK194.out)) (below_size (by repeat (first | (with_reducible first | exact HB.out | apply below_alloc | apply pw_below_drewN | apply below_drew1 | refine below_set ?_ GE194.out) | exact HB.out)))); have n2_ := Aside0.mk (blk_below (g := gb194) (o := .cells #[.int .i64 t191, .int .i64 t192, .string t193] 38 (0, 0)) (by (with_reducible repeat (first | refine blk_drewN ?_ _ | refine blk_drew ?_ | refine blk_alloc ?_ _)); exact BK194.out) hb); have n3_ := Aside0.mk (below_step (by repeat (first | (with_reducible first | exact HB.out | apply below_alloc | apply pw_below_drewN | apply below_drew1 | refine below_set ?_ GE194.out) | exact HB.out)) hb); clear HO_4; clear BK194; clear HB; have HO_4 := n0_; have HO228 := n1_; have BK194 := n2_; have HB := n3_; clear n0_ n1_ n2_ n3_; clear hb ho145; obtain ⟨Ao146, co146, eo146⟩ := Kd.R_slice HO228.out; subst eo146) | ((with_reducible refine gate_callee (f := 10) rfl ?_); refine goesL_ (some 82) rfl rfl Tryd.func10 (by kernel_rfl) rfl #[.slice Ao146 y226.length co146] rfl (by (try simp only [List.map_toArray, List.map_cons, List.map_nil]); first | done | rfl | (simp only [List.length_drop, List.length_take]; rfl) | (simp only [Int.ofNat_lt, Int.ofNat_le]; done) | (simp only [Int.ofNat_lt, Int.ofNat_le]; rfl) | (simp only [ByteArray.size_append, Int.natCast_add]; rfl)) ?_; (with_reducible refine (relstoreref_Key.calls kj43 _ _ y226 t229 _ ?side1 ?side2 A130.out).mono ?_); (case side1 => repeat (first | exact (Kd.R_reads' HO228.out).2.2 | (with_reducible refine Kd.C_alloc ?_ _) | (with_reducible refine Kd.C_drewN ?_ _) | (with_reducible refine Kd.C_drew ?_))); (case side2 => exact (Kd.R_reads' HO228.out).2.1); rintro e w147 ⟨rfl, hb⟩; refine ⟨_, rfl, ?_⟩; have n0_ := Aside0.mk (Kd.R_below (by (with_reducible repeat (first | apply Kd.R_alloc | apply Kd.R_drewN | apply Kd.R_drew)); exact HO_4.out) hb); have n1_ := Aside0.mk (Kd.R_below (by (with_reducible repeat (first | apply Kd.R_alloc | apply Kd.R_drewN | apply Kd.R_drew)); exact HO228.out) hb); have n2_ := Aside0.mk (blk_below (g := gb194) (o := .cells #[.int .i64 t191, .int .i64 t192, .string t193] 38 (0, 0)) (by (with_reducible repeat (first | refine blk_drewN ?_ _ | refine blk_drew ?_ | refine blk_alloc ?_ _)); exact BK194.out) hb); have n3_ := Aside0.mk (below_step (by repeat (first | (with_reducible first | exact HB.out | apply below_alloc | apply pw_below_drewN | apply below_drew1 | refine below_set ?_ GE194.out) | exact HB.out)) hb); clear HO_4; clear HO228; clear BK194; clear HB; have HO_4 := n0_; have HO228 := n1_; have BK194 := n2_; have HB := n3_; clear n0_ n1_ n2_ n3_; (try clear hb); (try clear hb2); (try clear hk); (try clear hi); have hcz148_0 : w147.cell? ⟨gb194, 0, none⟩ = some (.int .i64 t191) := (blk_cell BK194.out 0).trans rfl; have hcz148_1 : w147.cell? ⟨gb194, 1, none⟩ = some (.int .i64 t192) := (blk_cell BK194.out 1).trans rfl; have hcz148_2 : w147.cell? ⟨gb194, 2, none⟩ = some (.string t193) := (blk_cell BK194.out 2).trans rfl; have hfz148_0 := blk_frozen BK194.out 0; have hfz148_1 := blk_frozen BK194.out 1; have hfz148_2 := blk_frozen BK194.out 2) | ((with_reducible refine gate_builtin (b := .append) (xs := #[.tmp 96, .tmp 98]) rfl ?_); (try (refine gate_guard (by rfl) ?_; dsimp only)); at_builtin; refine Kd.R_append k38 (w0 := w) w.heap.size rfl (.tmp 96) (.tmp 98) 22 38 (.agg #[(.int .i64 0), (.int .i64 0), (.string ⟨#[]⟩)]) 32 rfl Tryd.underlying22 info38 rfl (by decide) (by omega) u4 x4_1 (⟨t191, t192, t193⟩ : S38) [.int .i64 t191, .int .i64 t192, .string t193] (fun k_ => some k_ ≠ (.slice Ao146 y226.length co146 : Value).ownBlock ∧ k_ ≠ gb194) (fun _ => False) rfl rfl ?aP (fun _ hk => hk.elim) ?aF ?aO ?aB ?aS ?aL ?_; (case aP => exact k38_mkM _ _ _ (⟨t191, t192, t193⟩ : S38)); (case aB => exact (by repeat (first | (with_reducible first | exact HB.out | apply below_alloc | apply pw_below_drewN | apply below_drew1 | refine below_set ?_ GE194.out) | exact HB.out))); (case aF => exact (fun k_ hk => ⟨Kd.fresh' (Kd.R_lt (by (with_reducible repeat (first | apply Kd.R_alloc | apply Kd.R_drewN | apply Kd.R_drew)); exact HO228.out)) k_ hk, Kd.freshB (g := gb194) (o := .cells #[.int .i64 t191, .int .i64 t192, .string t193] 38 (0, 0)) (by (with_reducible repeat (first | refine blk_drewN ?_ _ | refine blk_drew ?_ | refine blk_alloc ?_ _)); exact BK194.out) k_ hk⟩)); (case aO => exact (by (with_reducible repeat (first | apply Kd.R_alloc | apply Kd.R_drewN | apply Kd.R_drew)); exact Kd.R_mono HO_4.out (fun _ hk => ⟨hk.2, hk.1⟩))); (case aS => exact (below_size (by repeat (first | (with_reducible first | exact HB.out | apply below_alloc | apply pw_below_drewN | apply below_drew1 | refine below_set ?_ GE194.out) | exact HB.out)))); (case aL => have := LMc140.out; omega); intro v231 w149 ho hb hg hat; rw [← Ny230.out] at ho; have n0_ := Aside0.mk (blk_grown (g := gb194) (o := .cells #[.int .i64 t191, .int .i64 t192, .string t193] 38 (0, 0)) (by (with_reducible repeat (first | refine blk_drewN ?_ _ | refine blk_drew ?_ | refine blk_alloc ?_ _)); exact BK194.out) hg (Kd.R_away HO_4.out (fun _ hk => hk.1))); have n1_ := Aside0.mk (Kd.R_after (ok := (fun k_ => k_ ≠ gb194)) (by (with_reducible repeat (first | apply Kd.R_alloc | apply Kd.R_drewN | apply Kd.R_drew)); exact Kd.R_mono HO228.out (fun _ hk => ⟨hk.2, hk.1.2⟩)) hg hat); have n2_ := Aside0.mk (hb); have n3_ := Aside0.mk (ho); clear BK194; clear HO228; clear HB; clear HO_4; have BK194 := n0_; have HO228 := n1_; have HB := n2_; have HO232 := n3_; clear n0_ n1_ n2_ n3_; clear ho hb hg hat))
                                  go_roundg kj43
                                  case measure => have := HK1.out; have := HJ3.out; have := HJ43.out; omega
                                  case rel => exact ⟨(x0_1.extract ((t229.size : Int) : Int).toNat x0_1.size), (y230), (by first | rfl | (simp; done) | (simp [*]; done) | exact bq1 _ _ | exact bq2 _ _ | exact congrArg Value.bool (bq2 _ _) | exact congrArg Value.bool (bq1 _ _) | exact congrArg Value.bool (bq1' _ _) | exact bq1' _ _ | exact congrArg Value.bool (bq2' _ _) | exact bq2' _ _), H', ⟨by have := HK1.out; have := HJ3.out; have := HJ43.out; omega⟩, ⟨by (with_reducible repeat (first | apply Kd.R_alloc | apply Kd.R_drewN | apply Kd.R_drew)); exact Kd.R_mono HO232.out (fun _ hk => trivial)⟩, ⟨by repeat (first | (with_reducible first | exact HB.out | apply below_alloc | apply pw_below_drewN | apply below_drew1 | refine below_set ?_ GE194.out) | exact HB.out)⟩⟩
                                · rw [if_neg c140] at H
                                  exact absurd H (by simp)
                              · rw [if_neg c139] at H
                                have c139b0 : ((x0_1.extract 0 ((t229.size : Int) : Int).toNat).toList == t229.toList) = false := beq_eq_false_iff_ne.mpr c139
                                try (have c139b9 := c139b0; simp only [Int.toNat_natCast] at c139b9)
                                have c139b1 : ((x0_1.extract 0 ((t229.size : Int) : Int).toNat).toList != t229.toList) = true := bne_iff_ne.mpr c139
                                simp only [Option.some.injEq, Prod.mk.injEq] at H
                                obtain ⟨rfl, rfl⟩ := H
                                have p82 : 0 ≤ (0 : Int) := (by omega)
                                have q82 : 0 < x0_1.size := (by have : (0 : Int) < (x0_1.size : Int) := of_decide_eq_true (by first | (with_reducible assumption) | assumption); omega)
                                have hx82 : ∀ h : 0 < x0_1.size, ((x0_1[0]'h).toNat : Int) = bt x0_1 0 := bt_at x0_1 0
                                clear p82
                                have qi82 : (0 < (x0_1.size : Int)) = True := eq_true (of_decide_eq_true (by first | (with_reducible assumption) | assumption))
                                replace q82 := eq_true q82
                                have hcz150_0 : wc.cell? ⟨gb194, 0, none⟩ = some (.int .i64 t191) := (blk_cell BK194.out 0).trans rfl
                                have hcz150_1 : wc.cell? ⟨gb194, 1, none⟩ = some (.int .i64 t192) := (blk_cell BK194.out 1).trans rfl
                                have hcz150_2 : wc.cell? ⟨gb194, 2, none⟩ = some (.string t193) := (blk_cell BK194.out 2).trans rfl
                                have hfz150_0 := blk_frozen BK194.out 0
                                have hfz150_1 := blk_frozen BK194.out 1
                                have hfz150_2 := blk_frozen BK194.out 2
                                go_wp2_with (first | ((with_reducible refine gate_dst (N := 81) rfl ?_); (try (refine gate_guard (by rfl) ?_; dsimp only)); refine Kd.R_lit k38 _ 38 ?hg (N := 81) ?hd (xs := ([(⟨t191, t192, t193⟩ : S38)] : List (S38))) (inner := [.int .i64 t191, .int .i64 t192, .string t193]) (ok := fun _ => True) (okp := fun _ => True) ?hr ?hp (fun _ hk => hk) trivial (Below.refl _ _) (Nat.le_refl _) (by simp) ?_; (case hd => rfl); (case hg => rfl); (case hr => first | (go_simp; done) | (go_simp; rfl)); (case hp => exact (Reps.c3 (show Kd.M k38 _ _ _ (⟨t191, t192, t193⟩ : S38) [.int .i64 t191, .int .i64 t192, .string t193] from (k38_mkM _ _ _ (⟨t191, t192, t193⟩ : S38) )) (Reps.none _ _))); intro v227 w151 ho152 hb hg_ hnew_; clear hg_ hnew_; (first | rw [← Ny226.out] at ho152 | (simp only [Int.reduceToNat] at ho152; rw [← Ny226.out] at ho152)); have n0_ := Aside0.mk (Kd.R_elder' (by (with_reducible repeat (first | apply Kd.R_alloc | apply Kd.R_drewN | apply Kd.R_drew)); exact HO_4.out) (Kd.R_base ho152) hb); have n1_ := Aside0.mk (Kd.R_lower (Kd.R_newB (Kd.R_new' ho152 (Kd.R_lt (by (with_reducible repeat (first | apply Kd.R_alloc | apply Kd.R_drewN | apply Kd.R_drew)); exact HO_4.out))) (g := gb194) (o := .cells #[.int .i64 t191, .int .i64 t192, .string t193] 38 (0, 0)) (by (with_reducible repeat (first | refine blk_drewN ?_ _ | refine blk_drew ?_ | refine blk_alloc ?_ _)); exact BK194.out)) (below_size (by repeat (first | (with_reducible first | exact HB.out | apply below_alloc | apply pw_below_drewN | apply below_drew1 | refine below_set ?_ GE194.out) | exact HB.out)))); have n2_ := Aside0.mk (blk_below (g := gb194) (o := .cells #[.int .i64 t191, .int .i64 t192, .string t193] 38 (0, 0)) (by (with_reducible repeat (first | refine blk_drewN ?_ _ | refine blk_drew ?_ | refine blk_alloc ?_ _)); exact BK194.out) hb); have n3_ := Aside0.mk (below_step (by repeat (first | (with_reducible first | exact HB.out | apply below_alloc | apply pw_below_drewN | apply below_drew1 | refine below_set ?_ GE194.out) | exact HB.out)) hb); clear HO_4; clear BK194; clear HB; have HO_4 := n0_; have HO228 := n1_; have BK194 := n2_; have HB := n3_; clear n0_ n1_ n2_ n3_; clear hb ho152; obtain ⟨Ao153, co153, eo153⟩ := Kd.R_slice HO228.out; subst eo153) | ((with_reducible refine gate_callee (f := 10) rfl ?_); refine goesL_ (some 82) rfl rfl Tryd.func10 (by kernel_rfl) rfl #[.slice Ao153 y226.length co153] rfl (by (try simp only [List.map_toArray, List.map_cons, List.map_nil]); first | done | rfl | (simp only [List.length_drop, List.length_take]; rfl) | (simp only [Int.ofNat_lt, Int.ofNat_le]; done) | (simp only [Int.ofNat_lt, Int.ofNat_le]; rfl) | (simp only [ByteArray.size_append, Int.natCast_add]; rfl)) ?_; (with_reducible refine (relstoreref_Key.calls kj43 _ _ y226 t229 _ ?side1 ?side2 A130.out).mono ?_); (case side1 => repeat (first | exact (Kd.R_reads' HO228.out).2.2 | (with_reducible refine Kd.C_alloc ?_ _) | (with_reducible refine Kd.C_drewN ?_ _) | (with_reducible refine Kd.C_drew ?_))); (case side2 => exact (Kd.R_reads' HO228.out).2.1); rintro e w154 ⟨rfl, hb⟩; refine ⟨_, rfl, ?_⟩; have n0_ := Aside0.mk (Kd.R_below (by (with_reducible repeat (first | apply Kd.R_alloc | apply Kd.R_drewN | apply Kd.R_drew)); exact HO_4.out) hb); have n1_ := Aside0.mk (Kd.R_below (by (with_reducible repeat (first | apply Kd.R_alloc | apply Kd.R_drewN | apply Kd.R_drew)); exact HO228.out) hb); have n2_ := Aside0.mk (blk_below (g := gb194) (o := .cells #[.int .i64 t191, .int .i64 t192, .string t193] 38 (0, 0)) (by (with_reducible repeat (first | refine blk_drewN ?_ _ | refine blk_drew ?_ | refine blk_alloc ?_ _)); exact BK194.out) hb); have n3_ := Aside0.mk (below_step (by repeat (first | (with_reducible first | exact HB.out | apply below_alloc | apply pw_below_drewN | apply below_drew1 | refine below_set ?_ GE194.out) | exact HB.out)) hb); clear HO_4; clear HO228; clear BK194; clear HB; have HO_4 := n0_; have HO228 := n1_; have BK194 := n2_; have HB := n3_; clear n0_ n1_ n2_ n3_; (try clear hb); (try clear hb2); (try clear hk); (try clear hi)))
                                go_ret2
                                exact ⟨_, by first | rfl | (simp [errW_none, errW_some] <;> rfl) | (simp [*, errW_none, errW_some] <;> rfl), by first | exact Kd.R_nil _ _ _ _ _ | exact Kd.N_nil _ _ _ _ _ | exact Kd.V_nil _ _ _ _ _ | exact Kd.Q_nil _ _ _ _ _ | exact Kd.S_nil _ _ _ _ _, by repeat (first | (with_reducible first | exact HB.out | apply below_alloc | apply pw_below_drewN | apply below_drew1 | refine below_set ?_ GE194.out) | exact HB.out)⟩
                            · rw [if_neg c138] at H
                              exact absurd H (by simp)
                          · rw [if_neg c137] at H
                            exact absurd H (by simp)
                    · rw [if_neg c81] at H
                      exact absurd H (by simp)
end Go.Proofs.YthaoaaboempajabDoor.QValueKeys
