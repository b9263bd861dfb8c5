-- Lines written for this claim by a program of this session (wip/print). Lean checks them.
import Derived.Test.YthaoaaboempajaaQPageSealsx0
import Derived.Test.YthaoaaboempajaaQPageSealsx3
import Derived.Test.YthaoaaboempajaaQPageSealsx6
namespace Go.Proofs.Ythaoaaboempajaa.QPageSeals
open Go.RowKit Go.Proofs.YthaoaaboempajaaW.PrintWords Go.Proofs.YthaoaaboempajaaW.PrintLast Go.Proofs.YthaoaaboempajaaW.PrintMore Go.Proofs.YthaoaaboempajaaX
attribute [local go_sem] max2_int min2_int max_two min_two max_three min_three max_four min_four   -- for this text's walks alone
set_option linter.unusedVariables false
set_option linter.unusedSimpArgs false

/-! ### relstoreref_Open: function 35 -/
mutual
def relstoreref_Open.l0 : Nat → ByteArray → Int → Int → Int → List ByteArray → Option (Int × Int × List ByteArray × Int)
  | 0, _, _, _, _, _ => none
  | k + 1, x0, x5, x168000, x168001, x168002 => if 6 ≤ 8 then (if 8 ≤ (x0.size : Int) then ((relstoreref_unbytes.f k (x0.extract 6 8)).bind fun t168 => (if x5 < (wrap64 (t168)) then (relstoreref_Open.j1 k x0 x5 (decide ((wrap64 (14 + (wrap64 (2 * x5)))) ≤ 1024)) x168000 x168001 x168002) else (relstoreref_Open.j1 k x0 x5 false x168000 x168001 x168002))) else (none)) else (none)
def relstoreref_Open.j1 : Nat → ByteArray → Int → Bool → Int → Int → List ByteArray → Option (Int × Int × List ByteArray × Int)
  | 0, _, _, _, _, _, _ => none
  | k + 1, x0, x5, x33, x168000, x168001, x168002 => if x33 = true then (if 0 ≤ (wrap64 (12 + (wrap64 (2 * x5)))) then (if (wrap64 (12 + (wrap64 (2 * x5)))) ≤ (wrap64 (14 + (wrap64 (2 * x5)))) then (if (wrap64 (14 + (wrap64 (2 * x5)))) ≤ (x0.size : Int) then ((relstoreref_unbytes.f k (x0.extract ((wrap64 (12 + (wrap64 (2 * x5)))) : Int).toNat ((wrap64 (14 + (wrap64 (2 * x5)))) : Int).toNat)).bind fun t171 => (if (wrap64 ((wrap64 (t171)) + 2)) > 1024 then (some (0, 0, ([] : List ByteArray), 4)) else (if 0 ≤ (wrap64 (t171)) then (if (wrap64 (t171)) ≤ (wrap64 ((wrap64 (t171)) + 2)) then (if (wrap64 ((wrap64 (t171)) + 2)) ≤ (x0.size : Int) then ((relstoreref_unbytes.f k (x0.extract ((wrap64 (t171)) : Int).toNat ((wrap64 ((wrap64 (t171)) + 2)) : Int).toNat)).bind fun t172 => (if (wrap64 ((wrap64 ((wrap64 (t171)) + 2)) + (wrap64 (t172)))) > 1024 then (some (0, 0, ([] : List ByteArray), 4)) else (if 0 ≤ (wrap64 ((wrap64 (t171)) + 2)) then (if (wrap64 ((wrap64 (t171)) + 2)) ≤ (wrap64 ((wrap64 ((wrap64 (t171)) + 2)) + (wrap64 (t172)))) then (if (wrap64 ((wrap64 ((wrap64 (t171)) + 2)) + (wrap64 (t172)))) ≤ (x0.size : Int) then (if x168002.length < 8796093022208 then (relstoreref_Open.l0 k x0 (wrap64 (x5 + 1)) x168000 x168001 (x168002 ++ [x0.extract ((wrap64 ((wrap64 (t171)) + 2)) : Int).toNat ((wrap64 ((wrap64 ((wrap64 (t171)) + 2)) + (wrap64 (t172)))) : Int).toNat])) else (none)) else (none)) else (none)) else (none)))) else (none)) else (none)) else (none)))) else (none)) else (none)) else (none)) else ((relstoreref_Seal.f k x168000 x168001 x168002).bind fun bt169 => (if bt169.2 = 0 then (if bt169.1.toList = x0.toList then (some (x168000, x168001, x168002, 0)) else (some (0, 0, ([] : List ByteArray), 4))) else (some (0, 0, ([] : List ByteArray), 4))))
end
def relstoreref_Open.f (k : Nat) (a0 : ByteArray) : Option (Int × Int × List ByteArray × Int) := if (a0.size : Int) = 1024 then (if 4 < (a0.size : Int) then (if 8 ≤ 12 then (if 12 ≤ (a0.size : Int) then ((relstoreref_unbytes.f k (a0.extract 8 12)).bind fun t166 => (relstoreref_Open.l0 k a0 0 (wrap64 (bt a0 4)) (wrap64 (t166)) ([] : List ByteArray))) else (none)) else (none)) else (none)) else (some (0, 0, ([] : List ByteArray), 4))
theorem relstoreref_Open.mono_l : ∀ k, (∀ y0 y1 y2 y3 y4, LeO (relstoreref_Open.l0 k y0 y1 y2 y3 y4) (relstoreref_Open.l0 (k + 1) y0 y1 y2 y3 y4)) ∧ (∀ y0 y1 y2 y3 y4 y5, LeO (relstoreref_Open.j1 k y0 y1 y2 y3 y4 y5) (relstoreref_Open.j1 (k + 1) y0 y1 y2 y3 y4 y5))
  | 0 => ⟨fun _ _ _ _ _ r h => by simp [relstoreref_Open.l0] at h, fun _ _ _ _ _ _ r h => by simp [relstoreref_Open.j1] at h⟩
  | k + 1 => by
    obtain ⟨ih0, ih1⟩ := relstoreref_Open.mono_l k
    refine ⟨?_, ?_⟩
    · intro y0 y1 y2 y3 y4
      unfold relstoreref_Open.l0
      repeat' first
      | (with_reducible exact ih0 _ _ _ _ _)
      | (with_reducible exact ih1 _ _ _ _ _ _)
      | (with_reducible exact relstoreref_Seal.mono _ _ _ _)
      | (with_reducible exact relstoreref_unbytes.mono _ _)
      | (with_reducible exact LeO.refl _)
      | (with_reducible exact LeO.none _)
      | (with_reducible refine LeO.ite ?_ ?_)
      | (with_reducible refine LeO.bind ?_ (fun _ => ?_))
      | exact ih0 _ _ _ _ _
      | exact ih1 _ _ _ _ _ _
      | exact relstoreref_Seal.mono _ _ _ _
      | exact relstoreref_unbytes.mono _ _
      | exact LeO.none _
      | refine LeO.ite ?_ ?_
      | refine LeO.bind ?_ (fun _ => ?_)
    · intro y0 y1 y2 y3 y4 y5
      unfold relstoreref_Open.j1
      repeat' first
      | (with_reducible exact ih0 _ _ _ _ _)
      | (with_reducible exact ih1 _ _ _ _ _ _)
      | (with_reducible exact relstoreref_Seal.mono _ _ _ _)
      | (with_reducible exact relstoreref_unbytes.mono _ _)
      | (with_reducible exact LeO.refl _)
      | (with_reducible exact LeO.none _)
      | (with_reducible refine LeO.ite ?_ ?_)
      | (with_reducible refine LeO.bind ?_ (fun _ => ?_))
      | exact ih0 _ _ _ _ _
      | exact ih1 _ _ _ _ _ _
      | exact relstoreref_Seal.mono _ _ _ _
      | exact relstoreref_unbytes.mono _ _
      | exact LeO.none _
      | refine LeO.ite ?_ ?_
      | refine LeO.bind ?_ (fun _ => ?_)
theorem relstoreref_Open.mono : ∀ a0 k, LeO (relstoreref_Open.f k a0) (relstoreref_Open.f (k + 1) a0) := by
  intro a0 k
  obtain ⟨ih0, ih1⟩ := relstoreref_Open.mono_l k
  unfold relstoreref_Open.f
  repeat' first
      | (with_reducible exact ih0 _ _ _ _ _)
      | (with_reducible exact ih1 _ _ _ _ _ _)
      | (with_reducible exact relstoreref_Seal.mono _ _ _ _)
      | (with_reducible exact relstoreref_unbytes.mono _ _)
      | (with_reducible exact LeO.refl _)
      | (with_reducible exact LeO.none _)
      | (with_reducible refine LeO.ite ?_ ?_)
      | (with_reducible refine LeO.bind ?_ (fun _ => ?_))
      | exact ih0 _ _ _ _ _
      | exact ih1 _ _ _ _ _ _
      | exact relstoreref_Seal.mono _ _ _ _
      | exact relstoreref_unbytes.mono _ _
      | exact LeO.none _
      | refine LeO.ite ?_ ?_
      | refine LeO.bind ?_ (fun _ => ?_)
def relstoreref_Open.T3 : Bool × List (List Nat × List Nat) := (true, [([], []), ([0], [0]), ([1], [1]), ([], []), ([3], [3]), ([4], [4]), ([5], [5]), ([2, 6], [2, 6]), ([], []), ([8, 7, 5, 0, 1, 2, 3, 4, 5, 6, 7, 8], [7, 8])])
def relstoreref_Open.B3 : List Nat := [0, 1, 3, 0, 8, 24, 56, 127, 0, 511]
theorem relstoreref_Open.tab3 : rtab .any (opsOf Try.f35 3) = relstoreref_Open.T3 := by kernel_rfl
theorem relstoreref_Open.bits3 : waitsOk relstoreref_Open.T3.2 relstoreref_Open.B3 = true := by kernel_rfl
def relstoreref_Open.T13 : Bool × List (List Nat × List Nat) := (true, [([], []), ([0], [0]), ([], []), ([], []), ([3], [3]), ([], []), ([5], [5]), ([], []), ([6, 7], [6, 7]), ([2, 4, 8], [2, 4, 8]), ([9], [9]), ([1, 10], [1, 10]), ([0, 1, 2, 3, 4, 5, 6, 7, 8, 9, 10, 11], []), ([12, 11, 11, 0, 1, 2, 3, 4, 5, 6, 7, 8, 9, 10, 11], [11, 12])])
def relstoreref_Open.B13 : List Nat := [0, 1, 0, 0, 8, 0, 32, 0, 224, 508, 1020, 2047, 4095, 8191]
theorem relstoreref_Open.tab13 : rtab .any (opsOf Try.f35 13) = relstoreref_Open.T13 := by kernel_rfl
theorem relstoreref_Open.bits13 : waitsOk relstoreref_Open.T13.2 relstoreref_Open.B13 = true := by kernel_rfl
set_option maxHeartbeats 8000000 in
set_option maxRecDepth 100000 in
theorem relstoreref_Open.calls (k : Nat) (a0 : ByteArray) (r1 : Int) (r2 : Int) (r3 : List ByteArray) (r4 : Int) (w : World) (h : relstoreref_Open.f k a0 = some (r1, r2, r3, r4)) :
    Calls Try.prog 35 #[.string a0] w fun e w' => ∃ v2_ : Value, e = .returned (.tuple #[.agg #[.int .i64 r1, .int .i64 r2, v2_], .int .i64 r4]) ∧ Kd.R Kd.string 9 w' w.heap.size (fun _ => True) v2_ r3 ∧ Below w.heap.size w w' := by
  have hu40 := Try.underlying40
  have HB := Aside0.mk (Below.refl w.heap.size w)
  have H : (if (a0.size : Int) = 1024 then (if 4 < (a0.size : Int) then (if 8 ≤ 12 then (if 12 ≤ (a0.size : Int) then ((relstoreref_unbytes.f k (a0.extract 8 12)).bind fun t166 => (relstoreref_Open.l0 k a0 0 (wrap64 (bt a0 4)) (wrap64 (t166)) ([] : List ByteArray))) else (none)) else (none)) else (none)) else (some (0, 0, ([] : List ByteArray), 4))) = some (r1, r2, r3, r4) := h
  clear h
  by_cases c2 : (a0.size : Int) = 1024
  · rw [if_pos c2] at H
    have c2b0 : ((a0.size : Int) == 1024) = true := beq_iff_eq.mpr c2
    have c2b1 : ((a0.size : Int) != 1024) = false := bne_eq_false_iff_eq.mpr c2
    clear c2
    by_cases c3 : 4 < (a0.size : Int)
    · rw [if_pos c3] at H
      have c3b0 : decide (4 < (a0.size : Int)) = true := decide_eq_true c3
      have c3b1 : decide (4 < a0.size) = true := decide_eq_true (by omega)
      clear c3
      by_cases c5 : 8 ≤ 12
      · rw [if_pos c5] at H
        have c5b0 := eq_true c5
        have c5b1 : decide (8 ≤ 12) = true := decide_eq_true c5
        clear c5
        by_cases c6 : 12 ≤ (a0.size : Int)
        · rw [if_pos c6] at H
          have c6b0 := eq_true c6
          have c6b1 : decide (12 ≤ (a0.size : Int)) = true := decide_eq_true c6
          clear c6
          replace H := Option.bind_eq_some_iff.mp H
          obtain ⟨t166, A70, H⟩ := H
          replace H : (relstoreref_Open.l0 k a0 0 (wrap64 (bt a0 4)) (wrap64 (t166)) ([] : List ByteArray)) = some (r1, r2, r3, r4) := H
          have A7 := Aside0.mk A70
          clear A70
          have H' := Aside0.mk H
          clear H
          go_enter Try.func35, Try.ntmps35
          try go_wp2_with (first | ((with_reducible refine gate_dst (N := 2) rfl ?_); refine box_event ?hg (N := 2) ?hd (cs := #[.int .i64 0, .int .i64 0, .slice none 0 0]) (t := 40) ?hr ?_; (case hd => rfl); (case hg => rfl); (case hr => first | (go_simp; done) | (go_simp; rfl)); intro gb165 hg w8 hbox hb; have n0_ := Aside0.mk (below_step (by repeat (first | (with_reducible first | exact HB.out | apply below_alloc | apply pw_below_drewN | apply below_drew1) | exact HB.out)) hb); have n1_ := Aside0.mk (hbox); have n2_ := Aside0.mk ((by rw [hg]; exact (below_size (by repeat (first | (with_reducible first | exact HB.out | apply below_alloc | apply pw_below_drewN | apply below_drew1) | exact HB.out))) : w.heap.size ≤ gb165)); have n3_ := Aside0.mk ((by rw [hg]; exact (below_size (by repeat (first | (with_reducible first | exact HB.out | apply below_alloc | apply pw_below_drewN | apply below_drew1) | exact HB.out))) : w.heap.size ≤ gb165)); clear HB; have HB := n0_; have BK165 := n1_; have GW165 := n2_; have GE165 := n3_; clear n0_ n1_ n2_ n3_; clear hb hbox hg))
          have n0_ := Aside0.mk (blk_drew BK165.out)
          have n1_ := Aside0.mk (below_drew1 HB.out)
          clear BK165
          clear HB
          have BK165 := n0_
          have HB := n1_
          clear n0_ n1_
          have p4 : 0 ≤ (4 : Int) := (by omega)
          have q4 : 4 < a0.size := (by have : (4 : Int) < (a0.size : Int) := of_decide_eq_true (by first | (with_reducible assumption) | assumption); omega)
          have hx4 : ∀ h : 4 < a0.size, ((a0[4]'h).toNat : Int) = bt a0 4 := bt_at a0 4
          clear p4
          have qi4 : (4 < (a0.size : Int)) = True := eq_true (of_decide_eq_true (by first | (with_reducible assumption) | assumption))
          replace q4 := eq_true q4
          refine start_ (n := 10) (S := fun w' => True) (ds := []) #[false, false, false, false, false, false, false, false, false, false] (by kernel_rfl) rfl rfl trivial (fun hHeld => ?_); refine with_tabW relstoreref_Open.tab3 relstoreref_Open.bits3 (fun HT_ HW_ => ?_)
          generalize w8.drew = w9 at BK165 HB hHeld ⊢
          refine pure_ (i := 0) (N := some 14) (v := ?_) (a' := ?_) #[true, false, false, false, false, false, false, false, false, false] rfl rfl (any_of HT_.out (by kernel_rfl)) (fun _ _ _ h => h) (Or.inl ⟨by rfl, ?_⟩) ?_ ?_
          rotate_left
          · intro w'
            go_simp
            with_reducible rfl
          rotate_left
          · simp only [Act.put, List.setIfInBounds_toArray, List.set_cons_zero, List.set_cons_succ, i64_w, i32_w]
            rfl
          refine pure_ (i := 3) (N := some 17) (v := ?_) (a' := ?_) #[true, false, false, true, false, false, false, false, false, false] rfl rfl (any_of HT_.out (by kernel_rfl)) (fun _ _ _ h => h) (Or.inl ⟨by rfl, ?_⟩) ?_ ?_
          rotate_left
          · intro w'
            go_simp
            with_reducible rfl
          rotate_left
          · simp only [Act.put, List.setIfInBounds_toArray, List.set_cons_zero, List.set_cons_succ, i64_w, i32_w]
            rfl
          refine pure_ (i := 4) (N := some 18) (v := ?_) (a' := ?_) #[true, false, false, true, true, false, false, false, false, false] rfl rfl (any_of HT_.out (by kernel_rfl)) (fun _ _ _ h => h) (Or.inl ⟨by rfl, ?_⟩) ?_ ?_
          rotate_left
          · intro w'
            go_simp
            with_reducible rfl
          rotate_left
          · simp only [Act.put, List.setIfInBounds_toArray, List.set_cons_zero, List.set_cons_succ, i64_w, i32_w]
            rfl
          refine take_ (i := 1) (N := some 15) (v := ?_) (a' := ?_) #[true, true, false, true, true, false, false, false, false, false] rfl rfl (take_ofW HT_.out HW_.out (by kernel_rfl)) (fun _ _ _ h => h) (Or.inl ⟨by rfl, ?_⟩) hHeld ?_ ?_
          rotate_left
          · intro w' _
            go_simp
            with_reducible rfl
          rotate_left
          · simp only [Act.put, List.setIfInBounds_toArray, List.set_cons_zero, List.set_cons_succ, i64_w, i32_w]
            rfl
          refine pure_ (i := 2) (N := some 16) (v := ?_) (a' := ?_) #[true, true, true, true, true, false, false, false, false, false] rfl rfl (any_of HT_.out (by kernel_rfl)) (fun _ _ _ h => h) (Or.inl ⟨by rfl, ?_⟩) ?_ ?_
          rotate_left
          · intro w'
            go_simp
            with_reducible rfl
          rotate_left
          · simp only [Act.put, List.setIfInBounds_toArray, List.set_cons_zero, List.set_cons_succ, i64_w, i32_w]
            rfl
          refine join_ (σ := Nat) 1 #[true, true, true, true, true, true, true, true, true, false] (fun s_ => [(19, .int .u64 t166), (4, .pointer (some ⟨s_, 0, none⟩)), (20, .int .i64 (wrap64 (t166))), (21, .agg #[.int .i64 (wrap64 (bt a0 4)), .int .i64 (wrap64 (t166)), .slice none 0 0])]) (fun s_ w' => (w'.heap[gb165]? = some (.cells #[.int .i64 0, .int .i64 0, .slice none 0 0] 40 (0, 0))) ∧ (w'.heap[s_]? = some (.cells #[.int .i64 0, .int .i64 0, .slice none 0 0] 40 (0, 0))) ∧ (w.heap.size ≤ s_) ∧ (w.heap.size ≤ s_) ∧ (gb165 ≠ s_) ∧ (s_ ≠ gb165) ∧ (Below w.heap.size w w')) ?_ ?_
          rotate_left
          · intro hCont
            refine two_ (i := 5) (j := 8) (Ni := some 19) (Nj := some 4) #[true, true, true, true, true, true, false, false, false, false] #[true, true, true, true, true, false, false, false, true, false] rfl rfl rfl rfl (two_of HT_.out (by kernel_rfl)) (by decide) (by decide) (fun K hK => ?_) (fun K hK => ?_)
            · skip
              refine goes_ Try.func109 (by kernel_rfl) rfl #[.string (a0.extract 8 12)] (by rfl) rfl rfl (by (try simp only [List.map_toArray, List.map_cons, List.map_nil]); first | done | rfl | (simp only [List.length_drop, List.length_take]; rfl) | (simp only [Int.ofNat_lt, Int.ofNat_le]; done) | (simp only [Int.ofNat_lt, Int.ofNat_le]; rfl) | (simp only [ByteArray.size_append, Int.natCast_add]; rfl)) ?_
              with_reducible refine (relstoreref_unbytes.calls k (a0.extract 8 12) t166 _ A7.out).mono ?_
              rintro e w' ⟨rfl, ⟨nd, rfl⟩⟩
              refine ⟨_, rfl, ?_⟩
              refine hK.out _ _ trivial (fun hHeld => ?_)
              clear hK K
              refine norm_ (a' := ?_) ?_ ?_
              rotate_left
              · show Act.put _ (some 19) _ = _
                simp only [Act.put, List.setIfInBounds_toArray, List.set_cons_zero, List.set_cons_succ, i64_w, i32_w]
                rfl
              refine pure_ (i := 6) (N := some 20) (v := ?_) (a' := ?_) #[true, true, true, true, true, true, true, false, false, false] rfl rfl (any_of HT_.out (by kernel_rfl)) (fun _ _ _ h => h) (Or.inl ⟨by rfl, ?_⟩) ?_ ?_
              rotate_left
              · intro w'
                go_simp
                with_reducible rfl
              rotate_left
              · simp only [Act.put, List.setIfInBounds_toArray, List.set_cons_zero, List.set_cons_succ, i64_w, i32_w]
                rfl
              refine pure_ (i := 7) (N := some 21) (v := ?_) (a' := ?_) #[true, true, true, true, true, true, true, true, false, false] rfl rfl (any_of HT_.out (by kernel_rfl)) (fun _ _ _ h => h) (Or.inl ⟨by rfl, ?_⟩) ?_ ?_
              rotate_left
              · intro w'
                go_simp
                with_reducible rfl
              rotate_left
              · simp only [Act.put, List.setIfInBounds_toArray, List.set_cons_zero, List.set_cons_succ, i64_w, i32_w]
                rfl
              refine one_ (i := 8) (N := some 4) #[true, true, true, true, true, true, true, true, true, false] rfl rfl (one_of HT_.out (by kernel_rfl)) (by decide) (fun K hK => ?_)
              refine box_step ?hg (N := 4) ?hd (cs := #[.int .i64 0, .int .i64 0, .slice none 0 0]) (t := 40) ?hr ?_; (case hd => rfl); (case hg => rfl); (case hr => first | (go_simp; done) | (go_simp; rfl))
              intro gb167 hg w10 hbox hb
              have n0_ := Aside0.mk (blk_below (g := gb165) (o := .cells #[.int .i64 0, .int .i64 0, .slice none 0 0] 40 (0, 0)) (by (with_reducible repeat (first | refine blk_drewN ?_ _ | refine blk_drew ?_ | refine blk_alloc ?_ _)); exact BK165.out) hb)
              have n1_ := Aside0.mk (below_step (by repeat (first | (with_reducible first | exact HB.out | apply below_alloc | apply pw_below_drewN | apply below_drew1 | refine below_set ?_ GE165.out) | exact HB.out)) hb)
              have n2_ := Aside0.mk (hbox)
              have n3_ := Aside0.mk ((by rw [hg]; exact (below_size (by repeat (first | (with_reducible first | exact HB.out | apply below_alloc | apply pw_below_drewN | apply below_drew1 | refine below_set ?_ GE165.out) | exact HB.out))) : w.heap.size ≤ gb167))
              have n4_ := Aside0.mk ((by rw [hg]; exact (below_size (by repeat (first | (with_reducible first | exact HB.out | apply below_alloc | apply pw_below_drewN | apply below_drew1 | refine below_set ?_ GE165.out) | exact HB.out))) : w.heap.size ≤ gb167))
              have n5_ := Aside0.mk ((by rw [hg]; exact Nat.ne_of_lt (blk_lt (g := gb165) (o := .cells #[.int .i64 0, .int .i64 0, .slice none 0 0] 40 (0, 0)) (by (with_reducible repeat (first | refine blk_drewN ?_ _ | refine blk_drew ?_ | refine blk_alloc ?_ _)); exact BK165.out)) : gb165 ≠ gb167))
              have n6_ := Aside0.mk ((by rw [hg]; exact Nat.ne_of_gt (blk_lt (g := gb165) (o := .cells #[.int .i64 0, .int .i64 0, .slice none 0 0] 40 (0, 0)) (by (with_reducible repeat (first | refine blk_drewN ?_ _ | refine blk_drew ?_ | refine blk_alloc ?_ _)); exact BK165.out)) : gb167 ≠ gb165))
              clear BK165
              clear HB
              have BK165 := n0_
              have HB := n1_
              have BK167 := n2_
              have GW167 := n3_
              have GE167 := n4_
              have NB165_167 := n5_
              have NB167_165 := n6_
              clear n0_ n1_ n2_ n3_ n4_ n5_ n6_
              clear hb hbox hg
              refine hK.out _ _ trivial (fun hHeld => ?_)
              clear hK K
              refine norm_ (a' := ?_) ?_ ?_
              rotate_left
              · show Act.put _ (some 4) _ = _
                simp only [Act.put, List.setIfInBounds_toArray, List.set_cons_zero, List.set_cons_succ, i64_w, i32_w]
                rfl
              exact norm_ (by simp only [putAll, Act.put, List.setIfInBounds_toArray, List.set_cons_zero, List.set_cons_succ]) (hCont (gb167) _ ⟨(by (with_reducible repeat (first | refine blk_drewN ?_ _ | refine blk_drew ?_ | refine blk_alloc ?_ _)); exact BK165.out), (by (with_reducible repeat (first | refine blk_drewN ?_ _ | refine blk_drew ?_ | refine blk_alloc ?_ _)); exact BK167.out), GW167.out, GE167.out, NB165_167.out, NB167_165.out, (by repeat (first | (with_reducible first | exact HB.out | apply below_alloc | apply pw_below_drewN | apply below_drew1 | refine below_set ?_ GE165.out | refine below_set ?_ GE167.out) | exact HB.out))⟩)
            · skip
              refine box_step ?hg (N := 4) ?hd (cs := #[.int .i64 0, .int .i64 0, .slice none 0 0]) (t := 40) ?hr ?_; (case hd => rfl); (case hg => rfl); (case hr => first | (go_simp; done) | (go_simp; rfl))
              intro gb167 hg w10 hbox hb
              have n0_ := Aside0.mk (blk_below (g := gb165) (o := .cells #[.int .i64 0, .int .i64 0, .slice none 0 0] 40 (0, 0)) (by (with_reducible repeat (first | refine blk_drewN ?_ _ | refine blk_drew ?_ | refine blk_alloc ?_ _)); exact BK165.out) hb)
              have n1_ := Aside0.mk (below_step (by repeat (first | (with_reducible first | exact HB.out | apply below_alloc | apply pw_below_drewN | apply below_drew1 | refine below_set ?_ GE165.out) | exact HB.out)) hb)
              have n2_ := Aside0.mk (hbox)
              have n3_ := Aside0.mk ((by rw [hg]; exact (below_size (by repeat (first | (with_reducible first | exact HB.out | apply below_alloc | apply pw_below_drewN | apply below_drew1 | refine below_set ?_ GE165.out) | exact HB.out))) : w.heap.size ≤ gb167))
              have n4_ := Aside0.mk ((by rw [hg]; exact (below_size (by repeat (first | (with_reducible first | exact HB.out | apply below_alloc | apply pw_below_drewN | apply below_drew1 | refine below_set ?_ GE165.out) | exact HB.out))) : w.heap.size ≤ gb167))
              have n5_ := Aside0.mk ((by rw [hg]; exact Nat.ne_of_lt (blk_lt (g := gb165) (o := .cells #[.int .i64 0, .int .i64 0, .slice none 0 0] 40 (0, 0)) (by (with_reducible repeat (first | refine blk_drewN ?_ _ | refine blk_drew ?_ | refine blk_alloc ?_ _)); exact BK165.out)) : gb165 ≠ gb167))
              have n6_ := Aside0.mk ((by rw [hg]; exact Nat.ne_of_gt (blk_lt (g := gb165) (o := .cells #[.int .i64 0, .int .i64 0, .slice none 0 0] 40 (0, 0)) (by (with_reducible repeat (first | refine blk_drewN ?_ _ | refine blk_drew ?_ | refine blk_alloc ?_ _)); exact BK165.out)) : gb167 ≠ gb165))
              clear BK165
              clear HB
              have BK165 := n0_
              have HB := n1_
              have BK167 := n2_
              have GW167 := n3_
              have GE167 := n4_
              have NB165_167 := n5_
              have NB167_165 := n6_
              clear n0_ n1_ n2_ n3_ n4_ n5_ n6_
              clear hb hbox hg
              refine hK.out _ _ trivial (fun hHeld => ?_)
              clear hK K
              refine norm_ (a' := ?_) ?_ ?_
              rotate_left
              · show Act.put _ (some 4) _ = _
                simp only [Act.put, List.setIfInBounds_toArray, List.set_cons_zero, List.set_cons_succ, i64_w, i32_w]
                rfl
              refine one_ (i := 5) (N := some 19) #[true, true, true, true, true, true, false, false, true, false] rfl rfl (one_of HT_.out (by kernel_rfl)) (by decide) (fun K hK => ?_)
              refine goes_ Try.func109 (by kernel_rfl) rfl #[.string (a0.extract 8 12)] (by rfl) rfl rfl (by (try simp only [List.map_toArray, List.map_cons, List.map_nil]); first | done | rfl | (simp only [List.length_drop, List.length_take]; rfl) | (simp only [Int.ofNat_lt, Int.ofNat_le]; done) | (simp only [Int.ofNat_lt, Int.ofNat_le]; rfl) | (simp only [ByteArray.size_append, Int.natCast_add]; rfl)) ?_
              with_reducible refine (relstoreref_unbytes.calls k (a0.extract 8 12) t166 _ A7.out).mono ?_
              rintro e w' ⟨rfl, ⟨nd, rfl⟩⟩
              refine ⟨_, rfl, ?_⟩
              refine hK.out _ _ trivial (fun hHeld => ?_)
              clear hK K
              refine norm_ (a' := ?_) ?_ ?_
              rotate_left
              · show Act.put _ (some 19) _ = _
                simp only [Act.put, List.setIfInBounds_toArray, List.set_cons_zero, List.set_cons_succ, i64_w, i32_w]
                rfl
              refine pure_ (i := 6) (N := some 20) (v := ?_) (a' := ?_) #[true, true, true, true, true, true, true, false, true, false] rfl rfl (any_of HT_.out (by kernel_rfl)) (fun _ _ _ h => h) (Or.inl ⟨by rfl, ?_⟩) ?_ ?_
              rotate_left
              · intro w'
                go_simp
                with_reducible rfl
              rotate_left
              · simp only [Act.put, List.setIfInBounds_toArray, List.set_cons_zero, List.set_cons_succ, i64_w, i32_w]
                rfl
              refine pure_ (i := 7) (N := some 21) (v := ?_) (a' := ?_) #[true, true, true, true, true, true, true, true, true, false] rfl rfl (any_of HT_.out (by kernel_rfl)) (fun _ _ _ h => h) (Or.inl ⟨by rfl, ?_⟩) ?_ ?_
              rotate_left
              · intro w'
                go_simp
                with_reducible rfl
              rotate_left
              · simp only [Act.put, List.setIfInBounds_toArray, List.set_cons_zero, List.set_cons_succ, i64_w, i32_w]
                rfl
              exact norm_ (by simp only [putAll, Act.put, List.setIfInBounds_toArray, List.set_cons_zero, List.set_cons_succ]) (hCont (gb167) _ ⟨(by (with_reducible repeat (first | refine blk_drewN ?_ _ | refine blk_drew ?_ | refine blk_alloc ?_ _)); exact BK165.out), (by (with_reducible repeat (first | refine blk_drewN ?_ _ | refine blk_drew ?_ | refine blk_alloc ?_ _)); exact BK167.out), GW167.out, GE167.out, NB165_167.out, NB167_165.out, (by repeat (first | (with_reducible first | exact HB.out | apply below_alloc | apply pw_below_drewN | apply below_drew1 | refine below_set ?_ GE165.out | refine below_set ?_ GE167.out) | exact HB.out))⟩)
          rintro gb167 w11 ⟨h0_, h1_, h2_, h3_, h4_, h5_, h6_⟩
          have n0_ : Aside0 (w11.heap[gb165]? = some (.cells #[.int .i64 0, .int .i64 0, .slice none 0 0] 40 (0, 0))) := ⟨h0_⟩
          have n1_ : Aside0 (w11.heap[gb167]? = some (.cells #[.int .i64 0, .int .i64 0, .slice none 0 0] 40 (0, 0))) := ⟨h1_⟩
          have n2_ : Aside0 (w.heap.size ≤ gb167) := ⟨h2_⟩
          have n3_ : Aside0 (w.heap.size ≤ gb167) := ⟨h3_⟩
          have n4_ : Aside0 (gb165 ≠ gb167) := ⟨h4_⟩
          have n5_ : Aside0 (gb167 ≠ gb165) := ⟨h5_⟩
          have n6_ : Aside0 (Below w.heap.size w w11) := ⟨h6_⟩
          clear BK165
          clear HB
          clear h0_ h1_ h2_ h3_ h4_ h5_ h6_
          have BK165 := n0_
          have BK167 := n1_
          have GW167 := n2_
          have GE167 := n3_
          have NB165_167 := n4_
          have NB167_165 := n5_
          have HB := n6_
          clear n0_ n1_ n2_ n3_ n4_ n5_ n6_
          have hHeld := trivial
          refine norm_ (a' := ?_) ?_ ?_
          rotate_left
          · simp only [putAll, Act.put, List.setIfInBounds_toArray, List.set_cons_zero, List.set_cons_succ]
            rfl
          refine one_ (i := 9) (N := none) #[true, true, true, true, true, true, true, true, true, true] rfl rfl (one_of HT_.out (by kernel_rfl)) (by decide) (fun K hK => ?_)
          have hs12 : w11.cell? ⟨gb167, 0, none⟩ = some (.int .i64 0) := (blk_cell BK167.out 0).trans rfl
          have hfs12 := blk_frozen BK167.out 0
          have hns12_0 := NB165_167.out
          have hms12_0 := NB167_165.out
          have hs13 : w11.cell? ⟨gb167, 1, none⟩ = some (.int .i64 0) := (blk_cell BK167.out 1).trans rfl
          have hfs13 := blk_frozen BK167.out 1
          have hns13_0 := NB165_167.out
          have hms13_0 := NB167_165.out
          have hs14 : w11.cell? ⟨gb167, 2, none⟩ = some (.slice none 0 0) := (blk_cell BK167.out 2).trans rfl
          have hfs14 := blk_frozen BK167.out 2
          have hns14_0 := NB165_167.out
          have hms14_0 := NB167_165.out
          refine skip_ (w1 := ?_) (by rfl) rfl ?_ ?_
          rotate_left
          · go_simp
            rfl
          refine hK.out _ _ trivial (fun hHeld => ?_)
          clear hK K
          refine done_ (done_of HT_.out (by kernel_rfl)) ?_
          try go_wp2
          go_loopg [5] k (fun kq v5 w' => ∃ (x5_1 : Int) (x166000_1 : Int) (x166001_1 : Int) (x168002_1 : List ByteArray) (u168002 : Value), v5 = .int .i64 x5_1 ∧ Aside0 (relstoreref_Open.l0 kq a0 x5_1 (wrap64 (bt a0 4)) (wrap64 (t166)) x168002_1 = some (r1, r2, r3, r4)) ∧ Aside0 (kq ≤ k) ∧ Aside0 (Kd.R Kd.string 9 w' w.heap.size (fun _ => True) u168002 x168002_1) ∧ Aside0 (w'.heap[gb165]? = some (.cells #[.int .i64 x166000_1, .int .i64 x166001_1, (.slice none 0 0)] 40 (0, 0))) ∧ Aside0 (w'.heap[gb167]? = some (.cells #[.int .i64 (wrap64 (bt a0 4)), .int .i64 (wrap64 (t166)), u168002] 40 (0, 0))) ∧ Aside0 (Below w.heap.size w w'))
          case atStart => exact ⟨(0), (0), (0), (([] : List ByteArray)), (.slice none 0 0), (by first | rfl | (simp; done) | (simp [*]; done) | exact bq1 _ _ | exact bq2 _ _ | exact congrArg Value.bool (bq2 _ _) | exact congrArg Value.bool (bq1 _ _) | exact congrArg Value.bool (bq1' _ _) | exact bq1' _ _ | exact congrArg Value.bool (bq2' _ _) | exact bq2' _ _), H', ⟨Nat.le_refl _⟩, ⟨by first | exact Kd.R_nil _ _ _ _ _ | exact Kd.N_nil _ _ _ _ _ | exact Kd.V_nil _ _ _ _ _ | exact Kd.Q_nil _ _ _ _ _ | exact Kd.S_nil _ _ _ _ _⟩, ⟨by (with_reducible repeat (first | refine blk_drewN ?_ _ | refine blk_drew ?_ | refine blk_alloc ?_ _)); refine blk_far ?_ NB165_167.out _; (with_reducible repeat (first | refine blk_drewN ?_ _ | refine blk_drew ?_ | refine blk_alloc ?_ _)); refine blk_far ?_ NB165_167.out _; (with_reducible repeat (first | refine blk_drewN ?_ _ | refine blk_drew ?_ | refine blk_alloc ?_ _)); refine blk_far ?_ NB165_167.out _; (with_reducible repeat (first | refine blk_drewN ?_ _ | refine blk_drew ?_ | refine blk_alloc ?_ _)); exact BK165.out⟩, ⟨by (with_reducible repeat (first | refine blk_drewN ?_ _ | refine blk_drew ?_ | refine blk_alloc ?_ _)); refine blk_put (cs := #[.int .i64 (wrap64 (bt a0 4)), .int .i64 (wrap64 (t166)), .slice none 0 0]) ?_ 2 _ rfl; (with_reducible repeat (first | refine blk_drewN ?_ _ | refine blk_drew ?_ | refine blk_alloc ?_ _)); refine blk_put (cs := #[.int .i64 (wrap64 (bt a0 4)), .int .i64 0, .slice none 0 0]) ?_ 1 _ rfl; (with_reducible repeat (first | refine blk_drewN ?_ _ | refine blk_drew ?_ | refine blk_alloc ?_ _)); refine blk_put (cs := #[.int .i64 0, .int .i64 0, .slice none 0 0]) ?_ 0 _ rfl; (with_reducible repeat (first | refine blk_drewN ?_ _ | refine blk_drew ?_ | refine blk_alloc ?_ _)); exact BK167.out⟩, ⟨by repeat (first | (with_reducible first | exact HB.out | apply below_alloc | apply pw_below_drewN | apply below_drew1 | refine below_set ?_ GE165.out | refine below_set ?_ GE167.out) | exact HB.out)⟩⟩
          case round =>
            clear H'
            try clear c1
            try clear q1
            try clear c2
            try clear c2b0
            try clear c2b1
            try clear p2
            try clear q2
            try clear c3
            try clear c3b0
            try clear c3b1
            try clear p4
            try clear q4
            try clear hx4
            try clear qi4
            try clear c5
            try clear c5b0
            try clear c5b1
            try clear c6
            try clear c6b0
            try clear c6b1
            try clear p6
            try clear c10
            try clear p4
            try clear q4
            obtain ⟨x5_1, x166000_1, x166001_1, x168002_1, u168002, rfl, HA, HK1, HO_168002, BK165, BK167, HB⟩ := hrel
            cases gk with
            | zero => exact absurd HA.out (by simp [relstoreref_Open.l0])
            | succ k1 =>
              have H := HA.out
              clear HA
              simp only [relstoreref_Open.l0] at H
              have HC15 := Aside0.mk H
              clear H
              go_upto_region 5 with (fail)
              go_cut [33] (fun v33 wc => ∃ (kq : Nat) (x33_14 : Bool), v33 = .bool x33_14 ∧ Aside0 (relstoreref_Open.j1 kq a0 x5_1 x33_14 (wrap64 (bt a0 4)) (wrap64 (t166)) x168002_1 = some (r1, r2, r3, r4)) ∧ Aside0 (kq ≤ k1) ∧ Aside0 (Kd.R Kd.string 9 wc w.heap.size (fun _ => True) u168002 x168002_1) ∧ Aside0 (wc.heap[gb165]? = some (.cells #[.int .i64 x166000_1, .int .i64 x166001_1, (.slice none 0 0)] 40 (0, 0))) ∧ Aside0 (wc.heap[gb167]? = some (.cells #[.int .i64 (wrap64 (bt a0 4)), .int .i64 (wrap64 (t166)), u168002] 40 (0, 0))) ∧ Aside0 (Below w.heap.size w wc))
              case first =>
                have H := HC15.out
                clear HC15
                by_cases c16 : 6 ≤ 8
                · rw [if_pos c16] at H
                  have c16b0 := eq_true c16
                  have c16b1 : decide (6 ≤ 8) = true := decide_eq_true c16
                  clear c16
                  by_cases c17 : 8 ≤ (a0.size : Int)
                  · rw [if_pos c17] at H
                    have c17b0 := eq_true c17
                    have c17b1 : decide (8 ≤ (a0.size : Int)) = true := decide_eq_true c17
                    clear c17
                    replace H := Option.bind_eq_some_iff.mp H
                    obtain ⟨t168, A180, H⟩ := H
                    replace H : (if x5_1 < (wrap64 (t168)) then (relstoreref_Open.j1 k1 a0 x5_1 (decide ((wrap64 (14 + (wrap64 (2 * x5_1)))) ≤ 1024)) (wrap64 (bt a0 4)) (wrap64 (t166)) x168002_1) else (relstoreref_Open.j1 k1 a0 x5_1 false (wrap64 (bt a0 4)) (wrap64 (t166)) x168002_1)) = some (r1, r2, r3, r4) := H
                    have A18 := Aside0.mk A180
                    clear A180
                    by_cases c19 : x5_1 < (wrap64 (t168))
                    · rw [if_pos c19] at H
                      have c19b0 : decide (x5_1 < (wrap64 (t168))) = true := decide_eq_true c19
                      clear c19
                      (first | rw [c19b0] | (simp only [i64_w, i32_w]; rw [c19b0]) | skip)
                      have H' := Aside0.mk H
                      clear H
                      go_wp2_with (first | ((with_reducible refine gate_callee (f := 109) rfl ?_); refine goesL_ (some 25) rfl rfl Try.func109 (by kernel_rfl) rfl #[.string (a0.extract 6 8)] rfl (by (try simp only [List.map_toArray, List.map_cons, List.map_nil]); first | done | rfl | (simp only [List.length_drop, List.length_take]; rfl) | (simp only [Int.ofNat_lt, Int.ofNat_le]; done) | (simp only [Int.ofNat_lt, Int.ofNat_le]; rfl) | (simp only [ByteArray.size_append, Int.natCast_add]; rfl)) ?_; (with_reducible refine (relstoreref_unbytes.calls k1 (a0.extract 6 8) t168 _ A18.out).mono ?_); rintro e w' ⟨rfl, ⟨nd, rfl⟩⟩; refine ⟨_, rfl, ?_⟩))
                      go_meet
                      case rel => exact ⟨_, (decide ((wrap64 (14 + (wrap64 (2 * x5_1)))) ≤ 1024)), (by first | rfl | (simp; done) | (simp [*]; done) | exact bq1 _ _ | exact bq2 _ _ | exact congrArg Value.bool (bq2 _ _) | exact congrArg Value.bool (bq1 _ _) | exact congrArg Value.bool (bq1' _ _) | exact bq1' _ _ | exact congrArg Value.bool (bq2' _ _) | exact bq2' _ _), H', ⟨by have := HK1.out; first | omega | exact Nat.le_refl _⟩, ⟨by (with_reducible repeat (first | apply Kd.R_alloc | apply Kd.R_drewN | apply Kd.R_drew)); exact HO_168002.out⟩, ⟨by (with_reducible repeat (first | refine blk_drewN ?_ _ | refine blk_drew ?_ | refine blk_alloc ?_ _)); exact BK165.out⟩, ⟨by (with_reducible repeat (first | refine blk_drewN ?_ _ | refine blk_drew ?_ | refine blk_alloc ?_ _)); exact BK167.out⟩, ⟨by repeat (first | (with_reducible first | exact HB.out | apply below_alloc | apply pw_below_drewN | apply below_drew1 | refine below_set ?_ GE165.out | refine below_set ?_ GE167.out) | exact HB.out)⟩⟩
                    · rw [if_neg c19] at H
                      have c19b0 : decide (x5_1 < (wrap64 (t168))) = false := decide_eq_false c19
                      clear c19
                      (first | rw [c19b0] | (simp only [i64_w, i32_w]; rw [c19b0]) | skip)
                      have H' := Aside0.mk H
                      clear H
                      go_wp2_with (first | ((with_reducible refine gate_callee (f := 109) rfl ?_); refine goesL_ (some 25) rfl rfl Try.func109 (by kernel_rfl) rfl #[.string (a0.extract 6 8)] rfl (by (try simp only [List.map_toArray, List.map_cons, List.map_nil]); first | done | rfl | (simp only [List.length_drop, List.length_take]; rfl) | (simp only [Int.ofNat_lt, Int.ofNat_le]; done) | (simp only [Int.ofNat_lt, Int.ofNat_le]; rfl) | (simp only [ByteArray.size_append, Int.natCast_add]; rfl)) ?_; (with_reducible refine (relstoreref_unbytes.calls k1 (a0.extract 6 8) t168 _ A18.out).mono ?_); rintro e w' ⟨rfl, ⟨nd, rfl⟩⟩; refine ⟨_, rfl, ?_⟩))
                      go_meet
                      case rel => exact ⟨_, (false), (by first | rfl | (simp; done) | (simp [*]; done) | exact bq1 _ _ | exact bq2 _ _ | exact congrArg Value.bool (bq2 _ _) | exact congrArg Value.bool (bq1 _ _) | exact congrArg Value.bool (bq1' _ _) | exact bq1' _ _ | exact congrArg Value.bool (bq2' _ _) | exact bq2' _ _), H', ⟨by have := HK1.out; first | omega | exact Nat.le_refl _⟩, ⟨by (with_reducible repeat (first | apply Kd.R_alloc | apply Kd.R_drewN | apply Kd.R_drew)); exact HO_168002.out⟩, ⟨by (with_reducible repeat (first | refine blk_drewN ?_ _ | refine blk_drew ?_ | refine blk_alloc ?_ _)); exact BK165.out⟩, ⟨by (with_reducible repeat (first | refine blk_drewN ?_ _ | refine blk_drew ?_ | refine blk_alloc ?_ _)); exact BK167.out⟩, ⟨by repeat (first | (with_reducible first | exact HB.out | apply below_alloc | apply pw_below_drewN | apply below_drew1 | refine below_set ?_ GE165.out | refine below_set ?_ GE167.out) | exact HB.out)⟩⟩
                  · rw [if_neg c17] at H
                    exact absurd H (by simp)
                · rw [if_neg c16] at H
                  exact absurd H (by simp)
              case rest =>
                clear HC15
                try clear c1
                try clear q1
                try clear c2
                try clear c2b0
                try clear c2b1
                try clear p2
                try clear q2
                try clear c3
                try clear c3b0
                try clear c3b1
                try clear p4
                try clear q4
                try clear hx4
                try clear qi4
                try clear c5
                try clear c5b0
                try clear c5b1
                try clear c6
                try clear c6b0
                try clear c6b1
                try clear p6
                try clear c10
                try clear c16
                try clear c16b0
                try clear c16b1
                try clear c17
                try clear c17b0
                try clear c17b1
                try clear c19
                try clear c19b0
                try clear p2
                try clear p4
                try clear p6
                try clear q1
                try clear q2
                try clear q4
                obtain ⟨kq, x33_14, rfl, HA, HJ14, HO_168002, BK165, BK167, HB⟩ := hcut
                cases kq with
                | zero => exact absurd HA.out (by simp [relstoreref_Open.j1])
                | succ kj14 =>
                  have H := HA.out
                  clear HA
                  simp only [relstoreref_Open.j1] at H
                  by_cases c20 : x33_14 = true
                  · subst c20
                    have H1 : (if 0 ≤ (wrap64 (12 + (wrap64 (2 * x5_1)))) then (if (wrap64 (12 + (wrap64 (2 * x5_1)))) ≤ (wrap64 (14 + (wrap64 (2 * x5_1)))) then (if (wrap64 (14 + (wrap64 (2 * x5_1)))) ≤ (a0.size : Int) then ((relstoreref_unbytes.f kj14 (a0.extract ((wrap64 (12 + (wrap64 (2 * x5_1)))) : Int).toNat ((wrap64 (14 + (wrap64 (2 * x5_1)))) : Int).toNat)).bind fun t171 => (if (wrap64 ((wrap64 (t171)) + 2)) > 1024 then (some (0, 0, ([] : List ByteArray), 4)) else (if 0 ≤ (wrap64 (t171)) then (if (wrap64 (t171)) ≤ (wrap64 ((wrap64 (t171)) + 2)) then (if (wrap64 ((wrap64 (t171)) + 2)) ≤ (a0.size : Int) then ((relstoreref_unbytes.f kj14 (a0.extract ((wrap64 (t171)) : Int).toNat ((wrap64 ((wrap64 (t171)) + 2)) : Int).toNat)).bind fun t172 => (if (wrap64 ((wrap64 ((wrap64 (t171)) + 2)) + (wrap64 (t172)))) > 1024 then (some (0, 0, ([] : List ByteArray), 4)) else (if 0 ≤ (wrap64 ((wrap64 (t171)) + 2)) then (if (wrap64 ((wrap64 (t171)) + 2)) ≤ (wrap64 ((wrap64 ((wrap64 (t171)) + 2)) + (wrap64 (t172)))) then (if (wrap64 ((wrap64 ((wrap64 (t171)) + 2)) + (wrap64 (t172)))) ≤ (a0.size : Int) then (if x168002_1.length < 8796093022208 then (relstoreref_Open.l0 kj14 a0 (wrap64 (x5_1 + 1)) (wrap64 (bt a0 4)) (wrap64 (t166)) (x168002_1 ++ [a0.extract ((wrap64 ((wrap64 (t171)) + 2)) : Int).toNat ((wrap64 ((wrap64 ((wrap64 (t171)) + 2)) + (wrap64 (t172)))) : Int).toNat])) else (none)) else (none)) else (none)) else (none)))) else (none)) else (none)) else (none)))) else (none)) else (none)) else (none)) = some (r1, r2, r3, r4) := by rw [if_pos rfl] at H; exact H
                    clear H
                    have H := H1
                    clear H1
                    obtain ⟨ji21, hji21⟩ : ∃ j_ : Int, (wrap64 (12 + (wrap64 (2 * x5_1)))) = j_ := ⟨_, rfl⟩
                    replace H : (if 0 ≤ (ji21) then (if (ji21) ≤ (wrap64 (14 + (wrap64 (2 * x5_1)))) then (if (wrap64 (14 + (wrap64 (2 * x5_1)))) ≤ (a0.size : Int) then ((relstoreref_unbytes.f kj14 (a0.extract ((ji21) : Int).toNat ((wrap64 (14 + (wrap64 (2 * x5_1)))) : Int).toNat)).bind fun t171 => (if (wrap64 ((wrap64 (t171)) + 2)) > 1024 then (some (0, 0, ([] : List ByteArray), 4)) else (if 0 ≤ (wrap64 (t171)) then (if (wrap64 (t171)) ≤ (wrap64 ((wrap64 (t171)) + 2)) then (if (wrap64 ((wrap64 (t171)) + 2)) ≤ (a0.size : Int) then ((relstoreref_unbytes.f kj14 (a0.extract ((wrap64 (t171)) : Int).toNat ((wrap64 ((wrap64 (t171)) + 2)) : Int).toNat)).bind fun t172 => (if (wrap64 ((wrap64 ((wrap64 (t171)) + 2)) + (wrap64 (t172)))) > 1024 then (some (0, 0, ([] : List ByteArray), 4)) else (if 0 ≤ (wrap64 ((wrap64 (t171)) + 2)) then (if (wrap64 ((wrap64 (t171)) + 2)) ≤ (wrap64 ((wrap64 ((wrap64 (t171)) + 2)) + (wrap64 (t172)))) then (if (wrap64 ((wrap64 ((wrap64 (t171)) + 2)) + (wrap64 (t172)))) ≤ (a0.size : Int) then (if x168002_1.length < 8796093022208 then (relstoreref_Open.l0 kj14 a0 (wrap64 (x5_1 + 1)) (wrap64 (bt a0 4)) (wrap64 (t166)) (x168002_1 ++ [a0.extract ((wrap64 ((wrap64 (t171)) + 2)) : Int).toNat ((wrap64 ((wrap64 ((wrap64 (t171)) + 2)) + (wrap64 (t172)))) : Int).toNat])) else (none)) else (none)) else (none)) else (none)))) else (none)) else (none)) else (none)))) else (none)) else (none)) else (none)) = some (r1, r2, r3, r4) := by first | (rw [hji21] at H; exact H) | (simp only [hji21] at H ⊢; exact H)
                    have hji21w : (IntKind.i64.wrap (12 + (wrap64 (2 * x5_1)))) = ji21 := (i64_w _).trans hji21
                    (try simp only [hji21] at c6b1)
                    (try simp only [hji21] at c5b1)
                    (try simp only [hji21] at c3b1)
                    (try simp only [hji21] at c3b0)
                    (try simp only [hji21] at c2b1)
                    (try simp only [hji21] at c2b0)
                    by_cases c22 : 0 ≤ (ji21)
                    · rw [if_pos c22] at H
                      have c22b0 := eq_true c22
                      have c22b1 : decide (0 ≤ (ji21)) = true := decide_eq_true c22
                      clear c22
                      by_cases c23 : (ji21) ≤ (wrap64 (14 + (wrap64 (2 * x5_1))))
                      · rw [if_pos c23] at H
                        have c23b0 := eq_true c23
                        have c23b1 : decide ((ji21) ≤ (wrap64 (14 + (wrap64 (2 * x5_1))))) = true := decide_eq_true c23
                        by_cases c24 : (wrap64 (14 + (wrap64 (2 * x5_1)))) ≤ (a0.size : Int)
                        · rw [if_pos c24] at H
                          have c24b0 := eq_true c24
                          have c24b1 : decide ((wrap64 (14 + (wrap64 (2 * x5_1)))) ≤ (a0.size : Int)) = true := decide_eq_true c24
                          replace H := Option.bind_eq_some_iff.mp H
                          obtain ⟨t171, A250, H⟩ := H
                          replace H : (if (wrap64 ((wrap64 (t171)) + 2)) > 1024 then (some (0, 0, ([] : List ByteArray), 4)) else (if 0 ≤ (wrap64 (t171)) then (if (wrap64 (t171)) ≤ (wrap64 ((wrap64 (t171)) + 2)) then (if (wrap64 ((wrap64 (t171)) + 2)) ≤ (a0.size : Int) then ((relstoreref_unbytes.f kj14 (a0.extract ((wrap64 (t171)) : Int).toNat ((wrap64 ((wrap64 (t171)) + 2)) : Int).toNat)).bind fun t172 => (if (wrap64 ((wrap64 ((wrap64 (t171)) + 2)) + (wrap64 (t172)))) > 1024 then (some (0, 0, ([] : List ByteArray), 4)) else (if 0 ≤ (wrap64 ((wrap64 (t171)) + 2)) then (if (wrap64 ((wrap64 (t171)) + 2)) ≤ (wrap64 ((wrap64 ((wrap64 (t171)) + 2)) + (wrap64 (t172)))) then (if (wrap64 ((wrap64 ((wrap64 (t171)) + 2)) + (wrap64 (t172)))) ≤ (a0.size : Int) then (if x168002_1.length < 8796093022208 then (relstoreref_Open.l0 kj14 a0 (wrap64 (x5_1 + 1)) (wrap64 (bt a0 4)) (wrap64 (t166)) (x168002_1 ++ [a0.extract ((wrap64 ((wrap64 (t171)) + 2)) : Int).toNat ((wrap64 ((wrap64 ((wrap64 (t171)) + 2)) + (wrap64 (t172)))) : Int).toNat])) else (none)) else (none)) else (none)) else (none)))) else (none)) else (none)) else (none))) = some (r1, r2, r3, r4) := H
                          have A25 := Aside0.mk A250
                          clear A250
                          by_cases c26 : (wrap64 ((wrap64 (t171)) + 2)) > 1024
                          · rw [if_pos c26] at H
                            have c26b0 : decide (1024 < (wrap64 ((wrap64 (t171)) + 2))) = true := decide_eq_true c26
                            clear c26
                            simp only [Option.some.injEq, Prod.mk.injEq] at H
                            obtain ⟨rfl, rfl, rfl, rfl⟩ := H
                            go_wp2_with (first | ((with_reducible refine gate_callee (f := 109) rfl ?_); refine goesL_ (some 44) rfl rfl Try.func109 (by kernel_rfl) rfl #[.string (a0.extract ((ji21) : Int).toNat ((wrap64 (14 + (wrap64 (2 * x5_1)))) : Int).toNat)] rfl (by (try simp only [List.map_toArray, List.map_cons, List.map_nil]); first | done | (simp only [hji21]; rfl) | rfl | (simp only [List.length_drop, List.length_take]; rfl) | (simp only [Int.ofNat_lt, Int.ofNat_le]; done) | (simp only [Int.ofNat_lt, Int.ofNat_le]; rfl) | (simp only [ByteArray.size_append, Int.natCast_add]; rfl)) ?_; (with_reducible refine (relstoreref_unbytes.calls kj14 (a0.extract ((ji21) : Int).toNat ((wrap64 (14 + (wrap64 (2 * x5_1)))) : Int).toNat) t171 _ A25.out).mono ?_); rintro e w' ⟨rfl, ⟨nd, rfl⟩⟩; refine ⟨_, rfl, ?_⟩; (try (rw [drewN_self wc]; generalize hq_ : World.drewN wc _ = wc; have n0_ : Aside0 (Kd.R Kd.string 9 wc w.heap.size (fun _ => True) u168002 x168002_1) := ⟨by rw [← hq_]; exact (by (with_reducible repeat (first | apply Kd.R_alloc | apply Kd.R_drewN | apply Kd.R_drew)); exact HO_168002.out)⟩; have n1_ : Aside0 (wc.heap[gb165]? = some (.cells #[.int .i64 x166000_1, .int .i64 x166001_1, .slice none 0 0] 40 (0, 0))) := ⟨by rw [← hq_]; exact (by (with_reducible repeat (first | refine blk_drewN ?_ _ | refine blk_drew ?_ | refine blk_alloc ?_ _)); exact BK165.out)⟩; have n2_ : Aside0 (wc.heap[gb167]? = some (.cells #[.int .i64 (wrap64 (bt a0 4)), .int .i64 (wrap64 (t166)), u168002] 40 (0, 0))) := ⟨by rw [← hq_]; exact (by (with_reducible repeat (first | refine blk_drewN ?_ _ | refine blk_drew ?_ | refine blk_alloc ?_ _)); exact BK167.out)⟩; have n3_ : Aside0 (Below w.heap.size w wc) := ⟨by rw [← hq_]; exact (by repeat (first | (with_reducible first | exact HB.out | apply below_alloc | apply pw_below_drewN | apply below_drew1 | refine below_set ?_ GE165.out | refine below_set ?_ GE167.out) | exact HB.out))⟩; clear HO_168002 BK165 BK167 HB hq_; have HO_168002 := n0_; have BK165 := n1_; have BK167 := n2_; have HB := n3_; clear n0_ n1_ n2_ n3_)); have hnb27 := NB165_167.out; have hnc27 := NB167_165.out; have hcz28_0 : wc.cell? ⟨gb165, 0, none⟩ = some (.int .i64 x166000_1) := (blk_cell BK165.out 0).trans rfl; have hcz28_1 : wc.cell? ⟨gb165, 1, none⟩ = some (.int .i64 x166001_1) := (blk_cell BK165.out 1).trans rfl; have hcz28_2 : wc.cell? ⟨gb165, 2, none⟩ = some (.slice none 0 0) := (blk_cell BK165.out 2).trans rfl; have hfz28_0 := blk_frozen BK165.out 0; have hfz28_1 := blk_frozen BK165.out 1; have hfz28_2 := blk_frozen BK165.out 2))
                            refine bodyPost_ret (results_ct rfl _ _ gb165 40 #[.int .i64 0, .int .i64 0, .slice none 0 0] (0, 0) _ rfl (by (with_reducible repeat (first | refine blk_drewN ?_ _ | refine blk_drew ?_ | refine blk_alloc ?_ _)); refine blk_put (cs := #[.int .i64 0, .int .i64 0, .slice none 0 0]) ?_ 2 _ rfl; (with_reducible repeat (first | refine blk_drewN ?_ _ | refine blk_drew ?_ | refine blk_alloc ?_ _)); refine blk_put (cs := #[.int .i64 0, .int .i64 x166001_1, .slice none 0 0]) ?_ 1 _ rfl; (with_reducible repeat (first | refine blk_drewN ?_ _ | refine blk_drew ?_ | refine blk_alloc ?_ _)); refine blk_put (cs := #[.int .i64 x166000_1, .int .i64 x166001_1, .slice none 0 0]) ?_ 0 _ rfl; (with_reducible repeat (first | refine blk_drewN ?_ _ | refine blk_drew ?_ | refine blk_alloc ?_ _)); exact BK165.out) Try.underlying40 rfl (by kernel_rfl)) rfl ?_
                            exact ⟨_, by first | rfl | (simp [errW_none, errW_some] <;> rfl) | (simp only [← hji21]; first | rfl | (simp [errW_none, errW_some] <;> rfl)) | (simp [*, errW_none, errW_some] <;> rfl), by first | exact Kd.R_nil _ _ _ _ _ | exact Kd.N_nil _ _ _ _ _ | exact Kd.V_nil _ _ _ _ _ | exact Kd.Q_nil _ _ _ _ _ | exact Kd.S_nil _ _ _ _ _, by repeat (first | (with_reducible first | exact HB.out | apply below_alloc | apply pw_below_drewN | apply below_drew1 | refine below_set ?_ GE165.out | refine below_set ?_ GE167.out) | exact HB.out)⟩
                          · rw [if_neg c26] at H
                            have c26b0 : decide (1024 < (wrap64 ((wrap64 (t171)) + 2))) = false := decide_eq_false c26
                            clear c26
                            obtain ⟨ji29, hji29⟩ : ∃ j_ : Int, (wrap64 (t171)) = j_ := ⟨_, rfl⟩
                            replace H : (if 0 ≤ (ji29) then (if (ji29) ≤ (wrap64 ((ji29) + 2)) then (if (wrap64 ((ji29) + 2)) ≤ (a0.size : Int) then ((relstoreref_unbytes.f kj14 (a0.extract ((ji29) : Int).toNat ((wrap64 ((ji29) + 2)) : Int).toNat)).bind fun t172 => (if (wrap64 ((wrap64 ((ji29) + 2)) + (wrap64 (t172)))) > 1024 then (some (0, 0, ([] : List ByteArray), 4)) else (if 0 ≤ (wrap64 ((ji29) + 2)) then (if (wrap64 ((ji29) + 2)) ≤ (wrap64 ((wrap64 ((ji29) + 2)) + (wrap64 (t172)))) then (if (wrap64 ((wrap64 ((ji29) + 2)) + (wrap64 (t172)))) ≤ (a0.size : Int) then (if x168002_1.length < 8796093022208 then (relstoreref_Open.l0 kj14 a0 (wrap64 (x5_1 + 1)) (wrap64 (bt a0 4)) (wrap64 (t166)) (x168002_1 ++ [a0.extract ((wrap64 ((ji29) + 2)) : Int).toNat ((wrap64 ((wrap64 ((ji29) + 2)) + (wrap64 (t172)))) : Int).toNat])) else (none)) else (none)) else (none)) else (none)))) else (none)) else (none)) else (none)) = some (r1, r2, r3, r4) := by first | (rw [hji29] at H; exact H) | (simp only [hji29] at H ⊢; exact H)
                            (try rw [hji29] at c26b0)
                            (try rw [hji29] at A25)
                            have hji29w : (IntKind.i64.wrap (t171)) = ji29 := (i64_w _).trans hji29
                            (try simp only [hji29] at c24b1)
                            (try simp only [hji29] at c23b1)
                            (try simp only [hji29] at c22b1)
                            (try simp only [hji29] at c6b1)
                            (try simp only [hji29] at c5b1)
                            (try simp only [hji29] at c3b1)
                            (try simp only [hji29] at c3b0)
                            (try simp only [hji29] at c2b1)
                            (try simp only [hji29] at c2b0)
                            by_cases c30 : 0 ≤ (ji29)
                            · rw [if_pos c30] at H
                              have c30b0 := eq_true c30
                              have c30b1 : decide (0 ≤ (ji29)) = true := decide_eq_true c30
                              clear c30
                              by_cases c31 : (ji29) ≤ (wrap64 ((ji29) + 2))
                              · rw [if_pos c31] at H
                                have c31b0 := eq_true c31
                                have c31b1 : decide ((ji29) ≤ (wrap64 ((ji29) + 2))) = true := decide_eq_true c31
                                by_cases c32 : (wrap64 ((ji29) + 2)) ≤ (a0.size : Int)
                                · rw [if_pos c32] at H
                                  have c32b0 := eq_true c32
                                  have c32b1 : decide ((wrap64 ((ji29) + 2)) ≤ (a0.size : Int)) = true := decide_eq_true c32
                                  replace H := Option.bind_eq_some_iff.mp H
                                  obtain ⟨t172, A330, H⟩ := H
                                  replace H : (if (wrap64 ((wrap64 ((ji29) + 2)) + (wrap64 (t172)))) > 1024 then (some (0, 0, ([] : List ByteArray), 4)) else (if 0 ≤ (wrap64 ((ji29) + 2)) then (if (wrap64 ((ji29) + 2)) ≤ (wrap64 ((wrap64 ((ji29) + 2)) + (wrap64 (t172)))) then (if (wrap64 ((wrap64 ((ji29) + 2)) + (wrap64 (t172)))) ≤ (a0.size : Int) then (if x168002_1.length < 8796093022208 then (relstoreref_Open.l0 kj14 a0 (wrap64 (x5_1 + 1)) (wrap64 (bt a0 4)) (wrap64 (t166)) (x168002_1 ++ [a0.extract ((wrap64 ((ji29) + 2)) : Int).toNat ((wrap64 ((wrap64 ((ji29) + 2)) + (wrap64 (t172)))) : Int).toNat])) else (none)) else (none)) else (none)) else (none))) = some (r1, r2, r3, r4) := H
                                  have A33 := Aside0.mk A330
                                  clear A330
                                  by_cases c34 : (wrap64 ((wrap64 ((ji29) + 2)) + (wrap64 (t172)))) > 1024
                                  · rw [if_pos c34] at H
                                    have c34b0 : decide (1024 < (wrap64 ((wrap64 ((ji29) + 2)) + (wrap64 (t172))))) = true := decide_eq_true c34
                                    clear c34
                                    simp only [Option.some.injEq, Prod.mk.injEq] at H
                                    obtain ⟨rfl, rfl, rfl, rfl⟩ := H
                                    go_wp2_with (first | ((with_reducible refine gate_callee (f := 109) rfl ?_); refine goesL_ (some 44) rfl rfl Try.func109 (by kernel_rfl) rfl #[.string (a0.extract ((ji21) : Int).toNat ((wrap64 (14 + (wrap64 (2 * x5_1)))) : Int).toNat)] rfl (by (try simp only [List.map_toArray, List.map_cons, List.map_nil]); first | done | (simp only [hji21]; rfl) | rfl | (simp only [List.length_drop, List.length_take]; rfl) | (simp only [Int.ofNat_lt, Int.ofNat_le]; done) | (simp only [Int.ofNat_lt, Int.ofNat_le]; rfl) | (simp only [ByteArray.size_append, Int.natCast_add]; rfl)) ?_; (with_reducible refine (relstoreref_unbytes.calls kj14 (a0.extract ((ji21) : Int).toNat ((wrap64 (14 + (wrap64 (2 * x5_1)))) : Int).toNat) t171 _ A25.out).mono ?_); rintro e w' ⟨rfl, ⟨nd, rfl⟩⟩; refine ⟨_, rfl, ?_⟩; (try (rw [drewN_self wc]; generalize hq_ : World.drewN wc _ = wc; have n0_ : Aside0 (Kd.R Kd.string 9 wc w.heap.size (fun _ => True) u168002 x168002_1) := ⟨by rw [← hq_]; exact (by (with_reducible repeat (first | apply Kd.R_alloc | apply Kd.R_drewN | apply Kd.R_drew)); exact HO_168002.out)⟩; have n1_ : Aside0 (wc.heap[gb165]? = some (.cells #[.int .i64 x166000_1, .int .i64 x166001_1, .slice none 0 0] 40 (0, 0))) := ⟨by rw [← hq_]; exact (by (with_reducible repeat (first | refine blk_drewN ?_ _ | refine blk_drew ?_ | refine blk_alloc ?_ _)); exact BK165.out)⟩; have n2_ : Aside0 (wc.heap[gb167]? = some (.cells #[.int .i64 (wrap64 (bt a0 4)), .int .i64 (wrap64 (t166)), u168002] 40 (0, 0))) := ⟨by rw [← hq_]; exact (by (with_reducible repeat (first | refine blk_drewN ?_ _ | refine blk_drew ?_ | refine blk_alloc ?_ _)); exact BK167.out)⟩; have n3_ : Aside0 (Below w.heap.size w wc) := ⟨by rw [← hq_]; exact (by repeat (first | (with_reducible first | exact HB.out | apply below_alloc | apply pw_below_drewN | apply below_drew1 | refine below_set ?_ GE165.out | refine below_set ?_ GE167.out) | exact HB.out))⟩; clear HO_168002 BK165 BK167 HB hq_; have HO_168002 := n0_; have BK165 := n1_; have BK167 := n2_; have HB := n3_; clear n0_ n1_ n2_ n3_))) | ((with_reducible refine gate_callee (f := 109) rfl ?_); refine goesL_ (some 55) rfl rfl Try.func109 (by kernel_rfl) rfl #[.string (a0.extract ((ji29) : Int).toNat ((wrap64 ((ji29) + 2)) : Int).toNat)] rfl (by (try simp only [List.map_toArray, List.map_cons, List.map_nil]); first | done | (simp only [hji29]; rfl) | rfl | (simp only [List.length_drop, List.length_take]; rfl) | (simp only [Int.ofNat_lt, Int.ofNat_le]; done) | (simp only [Int.ofNat_lt, Int.ofNat_le]; rfl) | (simp only [ByteArray.size_append, Int.natCast_add]; rfl)) ?_; (with_reducible refine (relstoreref_unbytes.calls kj14 (a0.extract ((ji29) : Int).toNat ((wrap64 ((ji29) + 2)) : Int).toNat) t172 _ A33.out).mono ?_); rintro e w' ⟨rfl, ⟨nd, rfl⟩⟩; refine ⟨_, rfl, ?_⟩; (try (rw [drewN_self wc]; generalize hq_ : World.drewN wc _ = wc; have n0_ : Aside0 (Kd.R Kd.string 9 wc w.heap.size (fun _ => True) u168002 x168002_1) := ⟨by rw [← hq_]; exact (by (with_reducible repeat (first | apply Kd.R_alloc | apply Kd.R_drewN | apply Kd.R_drew)); exact HO_168002.out)⟩; have n1_ : Aside0 (wc.heap[gb165]? = some (.cells #[.int .i64 x166000_1, .int .i64 x166001_1, .slice none 0 0] 40 (0, 0))) := ⟨by rw [← hq_]; exact (by (with_reducible repeat (first | refine blk_drewN ?_ _ | refine blk_drew ?_ | refine blk_alloc ?_ _)); exact BK165.out)⟩; have n2_ : Aside0 (wc.heap[gb167]? = some (.cells #[.int .i64 (wrap64 (bt a0 4)), .int .i64 (wrap64 (t166)), u168002] 40 (0, 0))) := ⟨by rw [← hq_]; exact (by (with_reducible repeat (first | refine blk_drewN ?_ _ | refine blk_drew ?_ | refine blk_alloc ?_ _)); exact BK167.out)⟩; have n3_ : Aside0 (Below w.heap.size w wc) := ⟨by rw [← hq_]; exact (by repeat (first | (with_reducible first | exact HB.out | apply below_alloc | apply pw_below_drewN | apply below_drew1 | refine below_set ?_ GE165.out | refine below_set ?_ GE167.out) | exact HB.out))⟩; clear HO_168002 BK165 BK167 HB hq_; have HO_168002 := n0_; have BK165 := n1_; have BK167 := n2_; have HB := n3_; clear n0_ n1_ n2_ n3_)); have hnb35 := NB165_167.out; have hnc35 := NB167_165.out; have hcz36_0 : wc.cell? ⟨gb165, 0, none⟩ = some (.int .i64 x166000_1) := (blk_cell BK165.out 0).trans rfl; have hcz36_1 : wc.cell? ⟨gb165, 1, none⟩ = some (.int .i64 x166001_1) := (blk_cell BK165.out 1).trans rfl; have hcz36_2 : wc.cell? ⟨gb165, 2, none⟩ = some (.slice none 0 0) := (blk_cell BK165.out 2).trans rfl; have hfz36_0 := blk_frozen BK165.out 0; have hfz36_1 := blk_frozen BK165.out 1; have hfz36_2 := blk_frozen BK165.out 2))
                                    refine bodyPost_ret (results_ct rfl _ _ gb165 40 #[.int .i64 0, .int .i64 0, .slice none 0 0] (0, 0) _ rfl (by (with_reducible repeat (first | refine blk_drewN ?_ _ | refine blk_drew ?_ | refine blk_alloc ?_ _)); refine blk_put (cs := #[.int .i64 0, .int .i64 0, .slice none 0 0]) ?_ 2 _ rfl; (with_reducible repeat (first | refine blk_drewN ?_ _ | refine blk_drew ?_ | refine blk_alloc ?_ _)); refine blk_put (cs := #[.int .i64 0, .int .i64 x166001_1, .slice none 0 0]) ?_ 1 _ rfl; (with_reducible repeat (first | refine blk_drewN ?_ _ | refine blk_drew ?_ | refine blk_alloc ?_ _)); refine blk_put (cs := #[.int .i64 x166000_1, .int .i64 x166001_1, .slice none 0 0]) ?_ 0 _ rfl; (with_reducible repeat (first | refine blk_drewN ?_ _ | refine blk_drew ?_ | refine blk_alloc ?_ _)); exact BK165.out) Try.underlying40 rfl (by kernel_rfl)) rfl ?_
                                    exact ⟨_, by first | rfl | (simp [errW_none, errW_some] <;> rfl) | (simp only [← hji21, ← hji29]; first | rfl | (simp [errW_none, errW_some] <;> rfl)) | (simp [*, errW_none, errW_some] <;> rfl), by first | exact Kd.R_nil _ _ _ _ _ | exact Kd.N_nil _ _ _ _ _ | exact Kd.V_nil _ _ _ _ _ | exact Kd.Q_nil _ _ _ _ _ | exact Kd.S_nil _ _ _ _ _, by repeat (first | (with_reducible first | exact HB.out | apply below_alloc | apply pw_below_drewN | apply below_drew1 | refine below_set ?_ GE165.out | refine below_set ?_ GE167.out) | exact HB.out)⟩
                                  · rw [if_neg c34] at H
                                    have c34b0 : decide (1024 < (wrap64 ((wrap64 ((ji29) + 2)) + (wrap64 (t172))))) = false := decide_eq_false c34
                                    clear c34
                                    obtain ⟨ji37, hji37⟩ : ∃ j_ : Int, (wrap64 ((ji29) + 2)) = j_ := ⟨_, rfl⟩
                                    replace H : (if 0 ≤ (ji37) then (if (ji37) ≤ (wrap64 ((ji37) + (wrap64 (t172)))) then (if (wrap64 ((ji37) + (wrap64 (t172)))) ≤ (a0.size : Int) then (if x168002_1.length < 8796093022208 then (relstoreref_Open.l0 kj14 a0 (wrap64 (x5_1 + 1)) (wrap64 (bt a0 4)) (wrap64 (t166)) (x168002_1 ++ [a0.extract ((ji37) : Int).toNat ((wrap64 ((ji37) + (wrap64 (t172)))) : Int).toNat])) else (none)) else (none)) else (none)) else (none)) = some (r1, r2, r3, r4) := by first | (rw [hji37] at H; exact H) | (simp only [hji37] at H ⊢; exact H)
                                    (try rw [hji37] at c31b0)
                                    (try rw [hji37] at c31b1)
                                    (try rw [hji37] at c31)
                                    (try rw [hji37] at c32b0)
                                    (try rw [hji37] at c32b1)
                                    (try rw [hji37] at c32)
                                    (try rw [hji37] at c34b0)
                                    (try rw [hji37] at A25)
                                    (try rw [hji37] at A33)
                                    have hji37w : (IntKind.i64.wrap ((ji29) + 2)) = ji37 := (i64_w _).trans hji37
                                    (try simp only [hji37] at c30b1)
                                    (try simp only [hji37] at c26b0)
                                    (try simp only [hji37] at c24b1)
                                    (try simp only [hji37] at c23b1)
                                    (try simp only [hji37] at c22b1)
                                    (try simp only [hji37] at c6b1)
                                    (try simp only [hji37] at c5b1)
                                    (try simp only [hji37] at c3b1)
                                    (try simp only [hji37] at c3b0)
                                    (try simp only [hji37] at c2b1)
                                    (try simp only [hji37] at c2b0)
                                    by_cases c38 : 0 ≤ (ji37)
                                    · rw [if_pos c38] at H
                                      have c38b0 := eq_true c38
                                      have c38b1 : decide (0 ≤ (ji37)) = true := decide_eq_true c38
                                      clear c38
                                      by_cases c39 : (ji37) ≤ (wrap64 ((ji37) + (wrap64 (t172))))
                                      · rw [if_pos c39] at H
                                        have c39b0 := eq_true c39
                                        have c39b1 : decide ((ji37) ≤ (wrap64 ((ji37) + (wrap64 (t172))))) = true := decide_eq_true c39
                                        by_cases c40 : (wrap64 ((ji37) + (wrap64 (t172)))) ≤ (a0.size : Int)
                                        · rw [if_pos c40] at H
                                          have c40b0 := eq_true c40
                                          have c40b1 : decide ((wrap64 ((ji37) + (wrap64 (t172)))) ≤ (a0.size : Int)) = true := decide_eq_true c40
                                          by_cases c41 : x168002_1.length < 8796093022208
                                          · rw [if_pos c41] at H
                                            have LMc41 := Aside0.mk c41
                                            clear c41
                                            obtain ⟨y173, hy173⟩ : ∃ y_ : List ByteArray, y_ = (x168002_1 ++ [a0.extract ((ji37) : Int).toNat ((wrap64 ((ji37) + (wrap64 (t172)))) : Int).toNat]) := ⟨_, rfl⟩
                                            replace H : (relstoreref_Open.l0 kj14 a0 (wrap64 (x5_1 + 1)) (wrap64 (bt a0 4)) (wrap64 (t166)) y173) = some (r1, r2, r3, r4) := by first | (rw [hy173]; with_reducible exact H) | (have H2_ := (Option.bind_some _ _).symm.trans H; rw [hy173]; with_reducible exact H2_) | (have H2_ := (Option.bind_some _ _).symm.trans H; with_reducible exact H2_) | with_reducible exact H | (rw [hy173]; exact H) | exact H
                                            have Ny173 := Aside0.mk hy173
                                            clear hy173
                                            have H' := Aside0.mk H
                                            clear H
                                            try go_wp2_with (first | ((with_reducible refine gate_callee (f := 109) rfl ?_); refine goesL_ (some 44) rfl rfl Try.func109 (by kernel_rfl) rfl #[.string (a0.extract ((ji21) : Int).toNat ((wrap64 (14 + (wrap64 (2 * x5_1)))) : Int).toNat)] rfl (by (try simp only [List.map_toArray, List.map_cons, List.map_nil]); first | done | (simp only [hji21]; rfl) | rfl | (simp only [List.length_drop, List.length_take]; rfl) | (simp only [Int.ofNat_lt, Int.ofNat_le]; done) | (simp only [Int.ofNat_lt, Int.ofNat_le]; rfl) | (simp only [ByteArray.size_append, Int.natCast_add]; rfl)) ?_; (with_reducible refine (relstoreref_unbytes.calls kj14 (a0.extract ((ji21) : Int).toNat ((wrap64 (14 + (wrap64 (2 * x5_1)))) : Int).toNat) t171 _ A25.out).mono ?_); rintro e w' ⟨rfl, ⟨nd, rfl⟩⟩; refine ⟨_, rfl, ?_⟩; (try (rw [drewN_self wc]; generalize hq_ : World.drewN wc _ = wc; have n0_ : Aside0 (Kd.R Kd.string 9 wc w.heap.size (fun _ => True) u168002 x168002_1) := ⟨by rw [← hq_]; exact (by (with_reducible repeat (first | apply Kd.R_alloc | apply Kd.R_drewN | apply Kd.R_drew)); exact HO_168002.out)⟩; have n1_ : Aside0 (wc.heap[gb165]? = some (.cells #[.int .i64 x166000_1, .int .i64 x166001_1, .slice none 0 0] 40 (0, 0))) := ⟨by rw [← hq_]; exact (by (with_reducible repeat (first | refine blk_drewN ?_ _ | refine blk_drew ?_ | refine blk_alloc ?_ _)); exact BK165.out)⟩; have n2_ : Aside0 (wc.heap[gb167]? = some (.cells #[.int .i64 (wrap64 (bt a0 4)), .int .i64 (wrap64 (t166)), u168002] 40 (0, 0))) := ⟨by rw [← hq_]; exact (by (with_reducible repeat (first | refine blk_drewN ?_ _ | refine blk_drew ?_ | refine blk_alloc ?_ _)); exact BK167.out)⟩; have n3_ : Aside0 (Below w.heap.size w wc) := ⟨by rw [← hq_]; exact (by repeat (first | (with_reducible first | exact HB.out | apply below_alloc | apply pw_below_drewN | apply below_drew1 | refine below_set ?_ GE165.out | refine below_set ?_ GE167.out) | exact HB.out))⟩; clear HO_168002 BK165 BK167 HB hq_; have HO_168002 := n0_; have BK165 := n1_; have BK167 := n2_; have HB := n3_; clear n0_ n1_ n2_ n3_))) | ((with_reducible refine gate_callee (f := 109) rfl ?_); refine goesL_ (some 55) rfl rfl Try.func109 (by kernel_rfl) rfl #[.string (a0.extract ((ji29) : Int).toNat ((ji37) : Int).toNat)] rfl (by (try simp only [List.map_toArray, List.map_cons, List.map_nil]); first | done | (simp only [hji29, hji37]; rfl) | rfl | (simp only [List.length_drop, List.length_take]; rfl) | (simp only [Int.ofNat_lt, Int.ofNat_le]; done) | (simp only [Int.ofNat_lt, Int.ofNat_le]; rfl) | (simp only [ByteArray.size_append, Int.natCast_add]; rfl)) ?_; (with_reducible refine (relstoreref_unbytes.calls kj14 (a0.extract ((ji29) : Int).toNat ((ji37) : Int).toNat) t172 _ A33.out).mono ?_); rintro e w' ⟨rfl, ⟨nd, rfl⟩⟩; refine ⟨_, rfl, ?_⟩; (try (rw [drewN_self wc]; generalize hq_ : World.drewN wc _ = wc; have n0_ : Aside0 (Kd.R Kd.string 9 wc w.heap.size (fun _ => True) u168002 x168002_1) := ⟨by rw [← hq_]; exact (by (with_reducible repeat (first | apply Kd.R_alloc | apply Kd.R_drewN | apply Kd.R_drew)); exact HO_168002.out)⟩; have n1_ : Aside0 (wc.heap[gb165]? = some (.cells #[.int .i64 x166000_1, .int .i64 x166001_1, .slice none 0 0] 40 (0, 0))) := ⟨by rw [← hq_]; exact (by (with_reducible repeat (first | refine blk_drewN ?_ _ | refine blk_drew ?_ | refine blk_alloc ?_ _)); exact BK165.out)⟩; have n2_ : Aside0 (wc.heap[gb167]? = some (.cells #[.int .i64 (wrap64 (bt a0 4)), .int .i64 (wrap64 (t166)), u168002] 40 (0, 0))) := ⟨by rw [← hq_]; exact (by (with_reducible repeat (first | refine blk_drewN ?_ _ | refine blk_drew ?_ | refine blk_alloc ?_ _)); exact BK167.out)⟩; have n3_ : Aside0 (Below w.heap.size w wc) := ⟨by rw [← hq_]; exact (by repeat (first | (with_reducible first | exact HB.out | apply below_alloc | apply pw_below_drewN | apply below_drew1 | refine below_set ?_ GE165.out | refine below_set ?_ GE167.out) | exact HB.out))⟩; clear HO_168002 BK165 BK167 HB hq_; have HO_168002 := n0_; have BK165 := n1_; have BK167 := n2_; have HB := n3_; clear n0_ n1_ n2_ n3_))))
                                            have n0_ := Aside0.mk (Kd.R_drew HO_168002.out)
                                            have n1_ := Aside0.mk (blk_drew BK165.out)
                                            have n2_ := Aside0.mk (blk_drew BK167.out)
                                            have n3_ := Aside0.mk (below_drew1 HB.out)
                                            clear HO_168002
                                            clear BK165
                                            clear BK167
                                            clear HB
                                            have HO_168002 := n0_
                                            have BK165 := n1_
                                            have BK167 := n2_
                                            have HB := n3_
                                            clear n0_ n1_ n2_ n3_
                                            refine start_ (n := 14) (S := fun w' => w'.cell? ⟨gb167, 0, none⟩ = some (.int .i64 (wrap64 (bt a0 4))) ∧ w'.cell? ⟨gb167, 1, none⟩ = some (.int .i64 (wrap64 (t166))) ∧ w'.cell? ⟨gb167, 2, none⟩ = some (u168002)) (ds := [13]) #[false, false, false, false, false, false, false, false, false, false, false, false, false, false] (by kernel_rfl) rfl rfl ⟨(blk_cell BK167.out 0).trans rfl, (blk_cell BK167.out 1).trans rfl, (blk_cell BK167.out 2).trans rfl⟩ (fun hHeld => ?_); refine with_tabW relstoreref_Open.tab13 relstoreref_Open.bits13 (fun HT_ HW_ => ?_)
                                            generalize wc.drew = w42 at HO_168002 BK165 BK167 HB hHeld ⊢
                                            refine pure_ (i := 0) (N := some 63) (v := ?_) (a' := ?_) #[true, false, false, false, false, false, false, false, false, false, false, false, false, false] rfl rfl (any_of HT_.out (by kernel_rfl)) (fun _ _ _ h => h) (Or.inl ⟨by rfl, ?_⟩) ?_ ?_
                                            rotate_left
                                            · intro w'
                                              go_simp
                                              with_reducible rfl
                                            rotate_left
                                            · simp only [Act.put, List.setIfInBounds_toArray, List.set_cons_zero, List.set_cons_succ, i64_w, i32_w]
                                              rfl
                                            refine pure_ (i := 2) (N := some 65) (v := ?_) (a' := ?_) #[true, false, true, false, false, false, false, false, false, false, false, false, false, false] rfl rfl (any_of HT_.out (by kernel_rfl)) (fun _ _ _ h => h) (Or.inl ⟨by rfl, ?_⟩) ?_ ?_
                                            rotate_left
                                            · intro w'
                                              go_simp
                                              with_reducible rfl
                                            rotate_left
                                            · simp only [Act.put, List.setIfInBounds_toArray, List.set_cons_zero, List.set_cons_succ, i64_w, i32_w]
                                              rfl
                                            refine pure_ (i := 3) (N := some 66) (v := ?_) (a' := ?_) #[true, false, true, true, false, false, false, false, false, false, false, false, false, false] rfl rfl (any_of HT_.out (by kernel_rfl)) (fun _ _ _ h => h) (Or.inl ⟨by rfl, ?_⟩) ?_ ?_
                                            rotate_left
                                            · intro w'
                                              go_simp
                                              with_reducible rfl
                                            rotate_left
                                            · simp only [Act.put, List.setIfInBounds_toArray, List.set_cons_zero, List.set_cons_succ, i64_w, i32_w]
                                              rfl
                                            refine pure_ (i := 4) (N := some 67) (v := ?_) (a' := ?_) #[true, false, true, true, true, false, false, false, false, false, false, false, false, false] rfl rfl (any_of HT_.out (by kernel_rfl)) (fun _ _ _ h => h) (Or.inl ⟨by rfl, ?_⟩) ?_ ?_
                                            rotate_left
                                            · intro w'
                                              go_simp
                                              with_reducible rfl
                                            rotate_left
                                            · simp only [Act.put, List.setIfInBounds_toArray, List.set_cons_zero, List.set_cons_succ, i64_w, i32_w]
                                              rfl
                                            refine pure_ (i := 5) (N := some 68) (v := ?_) (a' := ?_) #[true, false, true, true, true, true, false, false, false, false, false, false, false, false] rfl rfl (any_of HT_.out (by kernel_rfl)) (fun _ _ _ h => h) (Or.inl ⟨by rfl, ?_⟩) ?_ ?_
                                            rotate_left
                                            · intro w'
                                              go_simp
                                              with_reducible rfl
                                            rotate_left
                                            · simp only [Act.put, List.setIfInBounds_toArray, List.set_cons_zero, List.set_cons_succ, i64_w, i32_w]
                                              rfl
                                            refine pure_ (i := 6) (N := some 69) (v := ?_) (a' := ?_) #[true, false, true, true, true, true, true, false, false, false, false, false, false, false] rfl rfl (any_of HT_.out (by kernel_rfl)) (fun _ _ _ h => h) (Or.inl ⟨by rfl, ?_⟩) ?_ ?_
                                            rotate_left
                                            · intro w'
                                              go_simp
                                              with_reducible rfl
                                            rotate_left
                                            · simp only [Act.put, List.setIfInBounds_toArray, List.set_cons_zero, List.set_cons_succ, i64_w, i32_w]
                                              rfl
                                            refine pure_ (i := 7) (N := some 70) (v := ?_) (a' := ?_) #[true, false, true, true, true, true, true, true, false, false, false, false, false, false] rfl rfl (any_of HT_.out (by kernel_rfl)) (fun _ _ _ h => h) (Or.inl ⟨by rfl, ?_⟩) ?_ ?_
                                            rotate_left
                                            · intro w'
                                              go_simp
                                              with_reducible rfl
                                            rotate_left
                                            · simp only [Act.put, List.setIfInBounds_toArray, List.set_cons_zero, List.set_cons_succ, i64_w, i32_w]
                                              rfl
                                            refine pure_ (i := 8) (N := some 71) (v := ?_) (a' := ?_) #[true, false, true, true, true, true, true, true, true, false, false, false, false, false] rfl rfl (any_of HT_.out (by kernel_rfl)) (fun _ _ _ h => h) (Or.inl ⟨by rfl, ?_⟩) ?_ ?_
                                            rotate_left
                                            · intro w'
                                              go_simp
                                              with_reducible rfl
                                            rotate_left
                                            · simp only [Act.put, List.setIfInBounds_toArray, List.set_cons_zero, List.set_cons_succ, i64_w, i32_w]
                                              rfl
                                            refine pure_ (i := 9) (N := some 72) (v := ?_) (a' := ?_) #[true, false, true, true, true, true, true, true, true, true, false, false, false, false] rfl rfl (any_of HT_.out (by kernel_rfl)) (fun _ _ _ h => h) (Or.inl ⟨by rfl, ?_⟩) ?_ ?_
                                            rotate_left
                                            · intro w'
                                              go_simp
                                              with_reducible rfl
                                            rotate_left
                                            · simp only [Act.put, List.setIfInBounds_toArray, List.set_cons_zero, List.set_cons_succ, i64_w, i32_w]
                                              rfl
                                            refine take_ (i := 1) (N := some 64) (v := ?_) (a' := ?_) #[true, true, true, true, true, true, true, true, true, true, false, false, false, false] rfl rfl (take_ofW HT_.out HW_.out (by kernel_rfl)) (fun _ _ _ h => h) (Or.inl ⟨by rfl, ?_⟩) hHeld ?_ ?_
                                            rotate_left
                                            · rintro w' ⟨s0, s1, s2⟩
                                              go_simp
                                              with_reducible rfl
                                            rotate_left
                                            · simp only [Act.put, List.setIfInBounds_toArray, List.set_cons_zero, List.set_cons_succ, i64_w, i32_w]
                                              rfl
                                            refine one_ (i := 10) (N := some 73) #[true, true, true, true, true, true, true, true, true, true, true, false, false, false] rfl rfl (one_of HT_.out (by kernel_rfl)) (by decide) (fun K hK => ?_)
                                            refine value_ (w1 := ?_) (v := ?_) (by rfl) rfl ?_ ?_
                                            rotate_left 2
                                            · go_simp
                                              constructor
                                              · rfl
                                              · rfl
                                            refine hK.out _ _ ⟨(blk_cell (blk_alloc BK167.out _) 0).trans rfl, (blk_cell (blk_alloc BK167.out _) 1).trans rfl, (blk_cell (blk_alloc BK167.out _) 2).trans rfl⟩ (fun hHeld => ?_)
                                            clear hK K
                                            refine norm_ (a' := ?_) ?_ ?_
                                            rotate_left
                                            · show Act.put _ (some 73) _ = _
                                              simp only [Act.put, List.setIfInBounds_toArray, List.set_cons_zero, List.set_cons_succ, i64_w, i32_w]
                                              rfl
                                            refine one_ (i := 11) (N := some 74) #[true, true, true, true, true, true, true, true, true, true, true, true, false, false] rfl rfl (one_of HT_.out (by kernel_rfl)) (by decide) (fun K hK => ?_)
                                            refine Kd.R_append_step Kd.string (w0 := w) w.heap.size (by rfl) (.tmp 64) (.tmp 73) 38 9 (.string ⟨#[]⟩) 16 rfl Try.underlying38 info9 rfl (by decide) (by omega) u168002 x168002_1 (a0.extract ((ji37) : Int).toNat ((wrap64 ((ji37) + (wrap64 (t172)))) : Int).toNat) [.string (a0.extract ((ji37) : Int).toNat ((wrap64 ((ji37) + (wrap64 (t172)))) : Int).toNat)] (fun _ => True) (fun _ => False) rfl rfl ?aP (fun _ hk => hk.elim) ?aF ?aO ?aB ?aS ?aL ?_
                                            (case aP => exact rfl)
                                            (case aB => exact (by repeat (first | (with_reducible first | exact HB.out | apply below_alloc | apply pw_below_drewN | apply below_drew1 | refine below_set ?_ GE165.out | refine below_set ?_ GE167.out) | exact HB.out)))
                                            (case aF => exact (fun _ _ => trivial))
                                            (case aO => exact (by (with_reducible repeat (first | apply Kd.R_alloc | apply Kd.R_drewN | apply Kd.R_drew)); exact HO_168002.out))
                                            (case aS => exact (below_size (by repeat (first | (with_reducible first | exact HB.out | apply below_alloc | apply pw_below_drewN | apply below_drew1 | refine below_set ?_ GE165.out | refine below_set ?_ GE167.out) | exact HB.out))))
                                            (case aL => have := LMc41.out; omega)
                                            intro v174 w43 ho hb hg hat
                                            rw [← Ny173.out] at ho
                                            have n0_ := Aside0.mk (blk_grown (g := gb165) (o := .cells #[.int .i64 x166000_1, .int .i64 x166001_1, .slice none 0 0] 40 (0, 0)) (by (with_reducible repeat (first | refine blk_drewN ?_ _ | refine blk_drew ?_ | refine blk_alloc ?_ _)); exact BK165.out) hg (Kd.R_ne HO_168002.out BK165.out (by decide)))
                                            have n1_ := Aside0.mk (blk_grown (g := gb167) (o := .cells #[.int .i64 (wrap64 (bt a0 4)), .int .i64 (wrap64 (t166)), u168002] 40 (0, 0)) (by (with_reducible repeat (first | refine blk_drewN ?_ _ | refine blk_drew ?_ | refine blk_alloc ?_ _)); exact BK167.out) hg (Kd.R_ne HO_168002.out BK167.out (by decide)))
                                            have n2_ := Aside0.mk (hb)
                                            have n3_ := Aside0.mk (ho)
                                            clear BK165
                                            clear BK167
                                            clear HB
                                            clear HO_168002
                                            have BK165 := n0_
                                            have BK167 := n1_
                                            have HB := n2_
                                            have HO175 := n3_
                                            clear n0_ n1_ n2_ n3_
                                            clear ho hb hg hat
                                            obtain ⟨Ao44, co44, eo44⟩ := Kd.R_slice HO175.out
                                            (first | subst eo44 | (injection eo44 with f1_ f2_ f3_; have f4_ := f1_.symm; have f5_ := f3_.symm; clear f1_ f2_ f3_; subst f4_; subst f5_))
                                            refine hK.out _ _ ⟨(blk_cell BK167.out 0).trans rfl, (blk_cell BK167.out 1).trans rfl, (blk_cell BK167.out 2).trans rfl⟩ (fun hHeld => ?_)
                                            clear hK K
                                            refine norm_ (a' := ?_) ?_ ?_
                                            rotate_left
                                            · show Act.put _ (some 74) _ = _
                                              simp only [Act.put, List.setIfInBounds_toArray, List.set_cons_zero, List.set_cons_succ, i64_w, i32_w]
                                              rfl
                                            refine pure_ (i := 12) (N := some 75) (v := ?_) (a' := ?_) #[true, true, true, true, true, true, true, true, true, true, true, true, true, false] rfl rfl (any_of HT_.out (by kernel_rfl)) (fun _ _ _ h => h) (Or.inl ⟨by rfl, ?_⟩) ?_ ?_
                                            rotate_left
                                            · intro w'
                                              go_simp
                                              with_reducible rfl
                                            rotate_left
                                            · simp only [Act.put, List.setIfInBounds_toArray, List.set_cons_zero, List.set_cons_succ, i64_w, i32_w]
                                              rfl
                                            refine last_ (i := 13) (N := none) #[true, true, true, true, true, true, true, true, true, true, true, true, true, true] rfl rfl (one_of HT_.out (by kernel_rfl)) (by decide) (fun K hK => ?_)
                                            have hs45 : w43.cell? ⟨gb167, 2, none⟩ = some (u168002) := (blk_cell BK167.out 2).trans rfl
                                            have hfs45 := blk_frozen BK167.out 2
                                            have hns45_0 := NB165_167.out
                                            have hms45_0 := NB167_165.out
                                            refine skip_ (w1 := ?_) (by rfl) rfl ?_ ?_
                                            rotate_left
                                            · go_simp
                                              rfl
                                            refine hK.out _ _ ?_
                                            clear hK K
                                            refine done_ (done_of HT_.out (by kernel_rfl)) ?_
                                            try go_wp2
                                            go_roundg kj14
                                            case measure => have := HK1.out; have := HJ14.out; omega
                                            case rel => exact ⟨(wrap64 (x5_1 + 1)), (x166000_1), (x166001_1), (y173), (.slice Ao44 y173.length co44), (by first | rfl | (simp; done) | (simp [*]; done) | exact bq1 _ _ | exact bq2 _ _ | exact congrArg Value.bool (bq2 _ _) | exact congrArg Value.bool (bq1 _ _) | exact congrArg Value.bool (bq1' _ _) | exact bq1' _ _ | exact congrArg Value.bool (bq2' _ _) | exact bq2' _ _), H', ⟨by have := HK1.out; have := HJ14.out; omega⟩, ⟨by (with_reducible repeat (first | apply Kd.R_alloc | apply Kd.R_drewN | apply Kd.R_drew)); exact Kd.R_mono (Kd.R_far (p := ⟨gb167, 2, none⟩) (Kd.R_types HO175.out BK167.out (by decide)) (fun _ hk => hk.2) (.slice Ao44 y173.length co44)) (fun _ hk => trivial)⟩, ⟨by (with_reducible repeat (first | refine blk_drewN ?_ _ | refine blk_drew ?_ | refine blk_alloc ?_ _)); refine blk_far ?_ NB165_167.out _; (with_reducible repeat (first | refine blk_drewN ?_ _ | refine blk_drew ?_ | refine blk_alloc ?_ _)); exact BK165.out⟩, ⟨by (with_reducible repeat (first | refine blk_drewN ?_ _ | refine blk_drew ?_ | refine blk_alloc ?_ _)); refine blk_put (cs := #[.int .i64 (wrap64 (bt a0 4)), .int .i64 (wrap64 (t166)), u168002]) ?_ 2 _ rfl; (with_reducible repeat (first | refine blk_drewN ?_ _ | refine blk_drew ?_ | refine blk_alloc ?_ _)); exact BK167.out⟩, ⟨by repeat (first | (with_reducible first | exact HB.out | apply below_alloc | apply pw_below_drewN | apply below_drew1 | refine below_set ?_ GE165.out | refine below_set ?_ GE167.out) | exact HB.out)⟩⟩
                                          · rw [if_neg c41] at H
                                            exact absurd H (by simp)
                                        · rw [if_neg c40] at H
                                          exact absurd H (by simp)
                                      · rw [if_neg c39] at H
                                        exact absurd H (by simp)
                                    · rw [if_neg c38] at H
                                      exact absurd H (by simp)
                                · rw [if_neg c32] at H
                                  exact absurd H (by simp)
                              · rw [if_neg c31] at H
                                exact absurd H (by simp)
                            · rw [if_neg c30] at H
                              exact absurd H (by simp)
                        · rw [if_neg c24] at H
                          exact absurd H (by simp)
                      · rw [if_neg c23] at H
                        exact absurd H (by simp)
                    · rw [if_neg c22] at H
                      exact absurd H (by simp)
                  · replace c20 := Bool.eq_false_iff.mpr c20
                    subst c20
                    have H1 : ((relstoreref_Seal.f kj14 (wrap64 (bt a0 4)) (wrap64 (t166)) x168002_1).bind fun bt169 => (if bt169.2 = 0 then (if bt169.1.toList = a0.toList then (some ((wrap64 (bt a0 4)), (wrap64 (t166)), x168002_1, 0)) else (some (0, 0, ([] : List ByteArray), 4))) else (some (0, 0, ([] : List ByteArray), 4)))) = some (r1, r2, r3, r4) := by rw [if_neg (show ¬ (false = true) by decide)] at H; exact H
                    clear H
                    have H := H1
                    clear H1
                    replace H := Option.bind_eq_some_iff.mp H
                    obtain ⟨⟨t169, t170⟩, A460, H⟩ := H
                    replace H : (if t170 = 0 then (if t169.toList = a0.toList then (some ((wrap64 (bt a0 4)), (wrap64 (t166)), x168002_1, 0)) else (some (0, 0, ([] : List ByteArray), 4))) else (some (0, 0, ([] : List ByteArray), 4))) = some (r1, r2, r3, r4) := H
                    have A46 := Aside0.mk A460
                    clear A460
                    by_cases c47 : t170 = 0
                    · rw [if_pos c47] at H
                      have c47b0 : (t170 == 0) = true := beq_iff_eq.mpr c47
                      have c47b1 : (t170 != 0) = false := bne_eq_false_iff_eq.mpr c47
                      clear c47
                      by_cases c48 : t169.toList = a0.toList
                      · rw [if_pos c48] at H
                        have c48b0 : (t169.toList == a0.toList) = true := beq_iff_eq.mpr c48
                        have c48b1 : (t169.toList != a0.toList) = false := bne_eq_false_iff_eq.mpr c48
                        clear c48
                        simp only [Option.some.injEq, Prod.mk.injEq] at H
                        obtain ⟨rfl, rfl, rfl, rfl⟩ := H
                        have hnb49 := NB167_165.out
                        have hnc49 := NB165_167.out
                        have hcz50_0 : wc.cell? ⟨gb167, 0, none⟩ = some (.int .i64 (wrap64 (bt a0 4))) := (blk_cell BK167.out 0).trans rfl
                        have hcz50_1 : wc.cell? ⟨gb167, 1, none⟩ = some (.int .i64 (wrap64 (t166))) := (blk_cell BK167.out 1).trans rfl
                        have hcz50_2 : wc.cell? ⟨gb167, 2, none⟩ = some (u168002) := (blk_cell BK167.out 2).trans rfl
                        have hfz50_0 := blk_frozen BK167.out 0
                        have hfz50_1 := blk_frozen BK167.out 1
                        have hfz50_2 := blk_frozen BK167.out 2
                        obtain ⟨Ao51, co51, eo51⟩ := Kd.R_slice HO_168002.out
                        subst eo51
                        go_wp2_with (first | ((with_reducible refine gate_callee (f := 33) rfl ?_); refine goesL_ (some 78) rfl rfl Try.func33 (by kernel_rfl) rfl #[.agg #[.int .i64 (wrap64 (bt a0 4)), .int .i64 (wrap64 (t166)), .slice Ao51 x168002_1.length co51]] rfl (by (try simp only [List.map_toArray, List.map_cons, List.map_nil]); first | done | rfl | (simp only [List.length_drop, List.length_take]; rfl) | (simp only [Int.ofNat_lt, Int.ofNat_le]; done) | (simp only [Int.ofNat_lt, Int.ofNat_le]; rfl) | (simp only [ByteArray.size_append, Int.natCast_add]; rfl)) ?_; (with_reducible refine (relstoreref_Seal.calls kj14 (wrap64 (bt a0 4)) (wrap64 (t166)) _ _ x168002_1 t169 t170 _ ?side1 ?side2 A46.out).mono ?_); (case side1 => repeat (first | exact (Kd.R_reads' HO_168002.out).2.2 | (with_reducible refine Kd.C_alloc ?_ _) | (with_reducible refine Kd.C_drewN ?_ _) | (with_reducible refine Kd.C_drew ?_))); (case side2 => exact (Kd.R_reads' HO_168002.out).2.1); rintro e w52 ⟨rfl, hb⟩; refine ⟨_, rfl, ?_⟩; have n0_ := Aside0.mk (Kd.R_below (by (with_reducible repeat (first | apply Kd.R_alloc | apply Kd.R_drewN | apply Kd.R_drew)); exact HO_168002.out) hb); have n1_ := Aside0.mk (blk_below (g := gb165) (o := .cells #[.int .i64 x166000_1, .int .i64 x166001_1, .slice none 0 0] 40 (0, 0)) (by (with_reducible repeat (first | refine blk_drewN ?_ _ | refine blk_drew ?_ | refine blk_alloc ?_ _)); exact BK165.out) hb); have n2_ := Aside0.mk (blk_below (g := gb167) (o := .cells #[.int .i64 (wrap64 (bt a0 4)), .int .i64 (wrap64 (t166)), .slice Ao51 x168002_1.length co51] 40 (0, 0)) (by (with_reducible repeat (first | refine blk_drewN ?_ _ | refine blk_drew ?_ | refine blk_alloc ?_ _)); exact BK167.out) hb); have n3_ := Aside0.mk (below_step (by repeat (first | (with_reducible first | exact HB.out | apply below_alloc | apply pw_below_drewN | apply below_drew1 | refine below_set ?_ GE165.out | refine below_set ?_ GE167.out) | exact HB.out)) hb); clear HO_168002; clear BK165; clear BK167; clear HB; have HO_168002 := n0_; have BK165 := n1_; have BK167 := n2_; have HB := n3_; clear n0_ n1_ n2_ n3_; (try clear hb); (try clear hb2); (try clear hk); (try clear hi); have hcz53_0 : w52.cell? ⟨gb167, 0, none⟩ = some (.int .i64 (wrap64 (bt a0 4))) := (blk_cell BK167.out 0).trans rfl; have hcz53_1 : w52.cell? ⟨gb167, 1, none⟩ = some (.int .i64 (wrap64 (t166))) := (blk_cell BK167.out 1).trans rfl; have hcz53_2 : w52.cell? ⟨gb167, 2, none⟩ = some (.slice Ao51 x168002_1.length co51) := (blk_cell BK167.out 2).trans rfl; have hfz53_0 := blk_frozen BK167.out 0; have hfz53_1 := blk_frozen BK167.out 1; have hfz53_2 := blk_frozen BK167.out 2; have hcz54_0 : w52.cell? ⟨gb165, 0, none⟩ = some (.int .i64 x166000_1) := (blk_cell BK165.out 0).trans rfl; have hcz54_1 : w52.cell? ⟨gb165, 1, none⟩ = some (.int .i64 x166001_1) := (blk_cell BK165.out 1).trans rfl; have hcz54_2 : w52.cell? ⟨gb165, 2, none⟩ = some (.slice none 0 0) := (blk_cell BK165.out 2).trans rfl; have hfz54_0 := blk_frozen BK165.out 0; have hfz54_1 := blk_frozen BK165.out 1; have hfz54_2 := blk_frozen BK165.out 2))
                        refine bodyPost_ret (results_ct rfl _ _ gb165 40 #[.int .i64 (wrap64 (bt a0 4)), .int .i64 (wrap64 (t166)), .slice Ao51 x168002_1.length co51] (0, 0) _ rfl (by (with_reducible repeat (first | refine blk_drewN ?_ _ | refine blk_drew ?_ | refine blk_alloc ?_ _)); refine blk_put (cs := #[.int .i64 (wrap64 (bt a0 4)), .int .i64 (wrap64 (t166)), .slice none 0 0]) ?_ 2 _ rfl; (with_reducible repeat (first | refine blk_drewN ?_ _ | refine blk_drew ?_ | refine blk_alloc ?_ _)); refine blk_put (cs := #[.int .i64 (wrap64 (bt a0 4)), .int .i64 x166001_1, .slice none 0 0]) ?_ 1 _ rfl; (with_reducible repeat (first | refine blk_drewN ?_ _ | refine blk_drew ?_ | refine blk_alloc ?_ _)); refine blk_put (cs := #[.int .i64 x166000_1, .int .i64 x166001_1, .slice none 0 0]) ?_ 0 _ rfl; (with_reducible repeat (first | refine blk_drewN ?_ _ | refine blk_drew ?_ | refine blk_alloc ?_ _)); exact BK165.out) Try.underlying40 rfl (by kernel_rfl)) rfl ?_
                        exact ⟨_, by first | rfl | (simp [errW_none, errW_some] <;> rfl) | (simp [*, errW_none, errW_some] <;> rfl), by (with_reducible repeat (first | apply Kd.R_alloc | apply Kd.R_drewN | apply Kd.R_drew)); exact Kd.R_mono (Kd.R_far (p := ⟨gb165, 2, none⟩) (Kd.R_far (p := ⟨gb165, 1, none⟩) (Kd.R_far (p := ⟨gb165, 0, none⟩) (Kd.R_types HO_168002.out BK165.out (by decide)) (fun _ hk => hk.2) (.int .i64 (wrap64 (bt a0 4)))) (fun _ hk => hk.2) (.int .i64 (wrap64 (t166)))) (fun _ hk => hk.2) (.slice Ao51 x168002_1.length co51)) (fun _ hk => trivial), by repeat (first | (with_reducible first | exact HB.out | apply below_alloc | apply pw_below_drewN | apply below_drew1 | refine below_set ?_ GE165.out | refine below_set ?_ GE167.out) | exact HB.out)⟩
                      · rw [if_neg c48] at H
                        have c48b0 : (t169.toList == a0.toList) = false := beq_eq_false_iff_ne.mpr c48
                        have c48b1 : (t169.toList != a0.toList) = true := bne_iff_ne.mpr c48
                        simp only [Option.some.injEq, Prod.mk.injEq] at H
                        obtain ⟨rfl, rfl, rfl, rfl⟩ := H
                        have hnb55 := NB167_165.out
                        have hnc55 := NB165_167.out
                        have hcz56_0 : wc.cell? ⟨gb167, 0, none⟩ = some (.int .i64 (wrap64 (bt a0 4))) := (blk_cell BK167.out 0).trans rfl
                        have hcz56_1 : wc.cell? ⟨gb167, 1, none⟩ = some (.int .i64 (wrap64 (t166))) := (blk_cell BK167.out 1).trans rfl
                        have hcz56_2 : wc.cell? ⟨gb167, 2, none⟩ = some (u168002) := (blk_cell BK167.out 2).trans rfl
                        have hfz56_0 := blk_frozen BK167.out 0
                        have hfz56_1 := blk_frozen BK167.out 1
                        have hfz56_2 := blk_frozen BK167.out 2
                        obtain ⟨Ao57, co57, eo57⟩ := Kd.R_slice HO_168002.out
                        subst eo57
                        go_wp2_with (first | ((with_reducible refine gate_callee (f := 33) rfl ?_); refine goesL_ (some 78) rfl rfl Try.func33 (by kernel_rfl) rfl #[.agg #[.int .i64 (wrap64 (bt a0 4)), .int .i64 (wrap64 (t166)), .slice Ao57 x168002_1.length co57]] rfl (by (try simp only [List.map_toArray, List.map_cons, List.map_nil]); first | done | rfl | (simp only [List.length_drop, List.length_take]; rfl) | (simp only [Int.ofNat_lt, Int.ofNat_le]; done) | (simp only [Int.ofNat_lt, Int.ofNat_le]; rfl) | (simp only [ByteArray.size_append, Int.natCast_add]; rfl)) ?_; (with_reducible refine (relstoreref_Seal.calls kj14 (wrap64 (bt a0 4)) (wrap64 (t166)) _ _ x168002_1 t169 t170 _ ?side1 ?side2 A46.out).mono ?_); (case side1 => repeat (first | exact (Kd.R_reads' HO_168002.out).2.2 | (with_reducible refine Kd.C_alloc ?_ _) | (with_reducible refine Kd.C_drewN ?_ _) | (with_reducible refine Kd.C_drew ?_))); (case side2 => exact (Kd.R_reads' HO_168002.out).2.1); rintro e w58 ⟨rfl, hb⟩; refine ⟨_, rfl, ?_⟩; have n0_ := Aside0.mk (Kd.R_below (by (with_reducible repeat (first | apply Kd.R_alloc | apply Kd.R_drewN | apply Kd.R_drew)); exact HO_168002.out) hb); have n1_ := Aside0.mk (blk_below (g := gb165) (o := .cells #[.int .i64 x166000_1, .int .i64 x166001_1, .slice none 0 0] 40 (0, 0)) (by (with_reducible repeat (first | refine blk_drewN ?_ _ | refine blk_drew ?_ | refine blk_alloc ?_ _)); exact BK165.out) hb); have n2_ := Aside0.mk (blk_below (g := gb167) (o := .cells #[.int .i64 (wrap64 (bt a0 4)), .int .i64 (wrap64 (t166)), .slice Ao57 x168002_1.length co57] 40 (0, 0)) (by (with_reducible repeat (first | refine blk_drewN ?_ _ | refine blk_drew ?_ | refine blk_alloc ?_ _)); exact BK167.out) hb); have n3_ := Aside0.mk (below_step (by repeat (first | (with_reducible first | exact HB.out | apply below_alloc | apply pw_below_drewN | apply below_drew1 | refine below_set ?_ GE165.out | refine below_set ?_ GE167.out) | exact HB.out)) hb); clear HO_168002; clear BK165; clear BK167; clear HB; have HO_168002 := n0_; have BK165 := n1_; have BK167 := n2_; have HB := n3_; clear n0_ n1_ n2_ n3_; (try clear hb); (try clear hb2); (try clear hk); (try clear hi); have hcz59_0 : w58.cell? ⟨gb165, 0, none⟩ = some (.int .i64 x166000_1) := (blk_cell BK165.out 0).trans rfl; have hcz59_1 : w58.cell? ⟨gb165, 1, none⟩ = some (.int .i64 x166001_1) := (blk_cell BK165.out 1).trans rfl; have hcz59_2 : w58.cell? ⟨gb165, 2, none⟩ = some (.slice none 0 0) := (blk_cell BK165.out 2).trans rfl; have hfz59_0 := blk_frozen BK165.out 0; have hfz59_1 := blk_frozen BK165.out 1; have hfz59_2 := blk_frozen BK165.out 2))
                        refine bodyPost_ret (results_ct rfl _ _ gb165 40 #[.int .i64 0, .int .i64 0, .slice none 0 0] (0, 0) _ rfl (by (with_reducible repeat (first | refine blk_drewN ?_ _ | refine blk_drew ?_ | refine blk_alloc ?_ _)); refine blk_put (cs := #[.int .i64 0, .int .i64 0, .slice none 0 0]) ?_ 2 _ rfl; (with_reducible repeat (first | refine blk_drewN ?_ _ | refine blk_drew ?_ | refine blk_alloc ?_ _)); refine blk_put (cs := #[.int .i64 0, .int .i64 x166001_1, .slice none 0 0]) ?_ 1 _ rfl; (with_reducible repeat (first | refine blk_drewN ?_ _ | refine blk_drew ?_ | refine blk_alloc ?_ _)); refine blk_put (cs := #[.int .i64 x166000_1, .int .i64 x166001_1, .slice none 0 0]) ?_ 0 _ rfl; (with_reducible repeat (first | refine blk_drewN ?_ _ | refine blk_drew ?_ | refine blk_alloc ?_ _)); exact BK165.out) Try.underlying40 rfl (by kernel_rfl)) rfl ?_
                        exact ⟨_, by first | rfl | (simp [errW_none, errW_some] <;> rfl) | (simp [*, errW_none, errW_some] <;> rfl), by first | exact Kd.R_nil _ _ _ _ _ | exact Kd.N_nil _ _ _ _ _ | exact Kd.V_nil _ _ _ _ _ | exact Kd.Q_nil _ _ _ _ _ | exact Kd.S_nil _ _ _ _ _, by repeat (first | (with_reducible first | exact HB.out | apply below_alloc | apply pw_below_drewN | apply below_drew1 | refine below_set ?_ GE165.out | refine below_set ?_ GE167.out) | exact HB.out)⟩
                    · rw [if_neg c47] at H
                      have c47b0 : (t170 == 0) = false := beq_eq_false_iff_ne.mpr c47
                      have c47b1 : (t170 != 0) = true := bne_iff_ne.mpr c47
                      simp only [Option.some.injEq, Prod.mk.injEq] at H
                      obtain ⟨rfl, rfl, rfl, rfl⟩ := H
                      have hnb60 := NB167_165.out
                      have hnc60 := NB165_167.out
                      have hcz61_0 : wc.cell? ⟨gb167, 0, none⟩ = some (.int .i64 (wrap64 (bt a0 4))) := (blk_cell BK167.out 0).trans rfl
                      have hcz61_1 : wc.cell? ⟨gb167, 1, none⟩ = some (.int .i64 (wrap64 (t166))) := (blk_cell BK167.out 1).trans rfl
                      have hcz61_2 : wc.cell? ⟨gb167, 2, none⟩ = some (u168002) := (blk_cell BK167.out 2).trans rfl
                      have hfz61_0 := blk_frozen BK167.out 0
                      have hfz61_1 := blk_frozen BK167.out 1
                      have hfz61_2 := blk_frozen BK167.out 2
                      obtain ⟨Ao62, co62, eo62⟩ := Kd.R_slice HO_168002.out
                      subst eo62
                      go_wp2_with (first | ((with_reducible refine gate_callee (f := 33) rfl ?_); refine goesL_ (some 78) rfl rfl Try.func33 (by kernel_rfl) rfl #[.agg #[.int .i64 (wrap64 (bt a0 4)), .int .i64 (wrap64 (t166)), .slice Ao62 x168002_1.length co62]] rfl (by (try simp only [List.map_toArray, List.map_cons, List.map_nil]); first | done | rfl | (simp only [List.length_drop, List.length_take]; rfl) | (simp only [Int.ofNat_lt, Int.ofNat_le]; done) | (simp only [Int.ofNat_lt, Int.ofNat_le]; rfl) | (simp only [ByteArray.size_append, Int.natCast_add]; rfl)) ?_; (with_reducible refine (relstoreref_Seal.calls kj14 (wrap64 (bt a0 4)) (wrap64 (t166)) _ _ x168002_1 t169 t170 _ ?side1 ?side2 A46.out).mono ?_); (case side1 => repeat (first | exact (Kd.R_reads' HO_168002.out).2.2 | (with_reducible refine Kd.C_alloc ?_ _) | (with_reducible refine Kd.C_drewN ?_ _) | (with_reducible refine Kd.C_drew ?_))); (case side2 => exact (Kd.R_reads' HO_168002.out).2.1); rintro e w63 ⟨rfl, hb⟩; refine ⟨_, rfl, ?_⟩; have n0_ := Aside0.mk (Kd.R_below (by (with_reducible repeat (first | apply Kd.R_alloc | apply Kd.R_drewN | apply Kd.R_drew)); exact HO_168002.out) hb); have n1_ := Aside0.mk (blk_below (g := gb165) (o := .cells #[.int .i64 x166000_1, .int .i64 x166001_1, .slice none 0 0] 40 (0, 0)) (by (with_reducible repeat (first | refine blk_drewN ?_ _ | refine blk_drew ?_ | refine blk_alloc ?_ _)); exact BK165.out) hb); have n2_ := Aside0.mk (blk_below (g := gb167) (o := .cells #[.int .i64 (wrap64 (bt a0 4)), .int .i64 (wrap64 (t166)), .slice Ao62 x168002_1.length co62] 40 (0, 0)) (by (with_reducible repeat (first | refine blk_drewN ?_ _ | refine blk_drew ?_ | refine blk_alloc ?_ _)); exact BK167.out) hb); have n3_ := Aside0.mk (below_step (by repeat (first | (with_reducible first | exact HB.out | apply below_alloc | apply pw_below_drewN | apply below_drew1 | refine below_set ?_ GE165.out | refine below_set ?_ GE167.out) | exact HB.out)) hb); clear HO_168002; clear BK165; clear BK167; clear HB; have HO_168002 := n0_; have BK165 := n1_; have BK167 := n2_; have HB := n3_; clear n0_ n1_ n2_ n3_; (try clear hb); (try clear hb2); (try clear hk); (try clear hi); have hcz64_0 : w63.cell? ⟨gb165, 0, none⟩ = some (.int .i64 x166000_1) := (blk_cell BK165.out 0).trans rfl; have hcz64_1 : w63.cell? ⟨gb165, 1, none⟩ = some (.int .i64 x166001_1) := (blk_cell BK165.out 1).trans rfl; have hcz64_2 : w63.cell? ⟨gb165, 2, none⟩ = some (.slice none 0 0) := (blk_cell BK165.out 2).trans rfl; have hfz64_0 := blk_frozen BK165.out 0; have hfz64_1 := blk_frozen BK165.out 1; have hfz64_2 := blk_frozen BK165.out 2))
                      refine bodyPost_ret (results_ct rfl _ _ gb165 40 #[.int .i64 0, .int .i64 0, .slice none 0 0] (0, 0) _ rfl (by (with_reducible repeat (first | refine blk_drewN ?_ _ | refine blk_drew ?_ | refine blk_alloc ?_ _)); refine blk_put (cs := #[.int .i64 0, .int .i64 0, .slice none 0 0]) ?_ 2 _ rfl; (with_reducible repeat (first | refine blk_drewN ?_ _ | refine blk_drew ?_ | refine blk_alloc ?_ _)); refine blk_put (cs := #[.int .i64 0, .int .i64 x166001_1, .slice none 0 0]) ?_ 1 _ rfl; (with_reducible repeat (first | refine blk_drewN ?_ _ | refine blk_drew ?_ | refine blk_alloc ?_ _)); refine blk_put (cs := #[.int .i64 x166000_1, .int .i64 x166001_1, .slice none 0 0]) ?_ 0 _ rfl; (with_reducible repeat (first | refine blk_drewN ?_ _ | refine blk_drew ?_ | refine blk_alloc ?_ _)); exact BK165.out) Try.underlying40 rfl (by kernel_rfl)) rfl ?_
                      exact ⟨_, by first | rfl | (simp [errW_none, errW_some] <;> rfl) | (simp [*, errW_none, errW_some] <;> rfl), by first | exact Kd.R_nil _ _ _ _ _ | exact Kd.N_nil _ _ _ _ _ | exact Kd.V_nil _ _ _ _ _ | exact Kd.Q_nil _ _ _ _ _ | exact Kd.S_nil _ _ _ _ _, by repeat (first | (with_reducible first | exact HB.out | apply below_alloc | apply pw_below_drewN | apply below_drew1 | refine below_set ?_ GE165.out | refine below_set ?_ GE167.out) | exact HB.out)⟩
        · rw [if_neg c6] at H
          exact absurd H (by simp)
      · rw [if_neg c5] at H
        exact absurd H (by simp)
    · rw [if_neg c3] at H
      exact absurd H (by simp)
  · rw [if_neg c2] at H
    have c2b0 : ((a0.size : Int) == 1024) = false := beq_eq_false_iff_ne.mpr c2
    have c2b1 : ((a0.size : Int) != 1024) = true := bne_iff_ne.mpr c2
    simp only [Option.some.injEq, Prod.mk.injEq] at H
    obtain ⟨rfl, rfl, rfl, rfl⟩ := H
    go_enter Try.func35, Try.ntmps35
    go_wp2_with (first | ((with_reducible refine gate_dst (N := 2) rfl ?_); refine box_event ?hg (N := 2) ?hd (cs := #[.int .i64 0, .int .i64 0, .slice none 0 0]) (t := 40) ?hr ?_; (case hd => rfl); (case hg => rfl); (case hr => first | (go_simp; done) | (go_simp; rfl)); intro gb165 hg w65 hbox hb; have n0_ := Aside0.mk (below_step (by repeat (first | (with_reducible first | exact HB.out | apply below_alloc | apply pw_below_drewN | apply below_drew1) | exact HB.out)) hb); have n1_ := Aside0.mk (hbox); have n2_ := Aside0.mk ((by rw [hg]; exact (below_size (by repeat (first | (with_reducible first | exact HB.out | apply below_alloc | apply pw_below_drewN | apply below_drew1) | exact HB.out))) : w.heap.size ≤ gb165)); have n3_ := Aside0.mk ((by rw [hg]; exact (below_size (by repeat (first | (with_reducible first | exact HB.out | apply below_alloc | apply pw_below_drewN | apply below_drew1) | exact HB.out))) : w.heap.size ≤ gb165)); clear HB; have HB := n0_; have BK165 := n1_; have GW165 := n2_; have GE165 := n3_; clear n0_ n1_ n2_ n3_; clear hb hbox hg; have hcz66_0 : w65.cell? ⟨gb165, 0, none⟩ = some (.int .i64 0) := (blk_cell BK165.out 0).trans rfl; have hcz66_1 : w65.cell? ⟨gb165, 1, none⟩ = some (.int .i64 0) := (blk_cell BK165.out 1).trans rfl; have hcz66_2 : w65.cell? ⟨gb165, 2, none⟩ = some (.slice none 0 0) := (blk_cell BK165.out 2).trans rfl; have hfz66_0 := blk_frozen BK165.out 0; have hfz66_1 := blk_frozen BK165.out 1; have hfz66_2 := blk_frozen BK165.out 2))
    refine bodyPost_ret (results_ct rfl _ _ gb165 40 #[.int .i64 0, .int .i64 0, .slice none 0 0] (0, 0) _ rfl (by (with_reducible repeat (first | refine blk_drewN ?_ _ | refine blk_drew ?_ | refine blk_alloc ?_ _)); refine blk_put (cs := #[.int .i64 0, .int .i64 0, .slice none 0 0]) ?_ 2 _ rfl; (with_reducible repeat (first | refine blk_drewN ?_ _ | refine blk_drew ?_ | refine blk_alloc ?_ _)); refine blk_put (cs := #[.int .i64 0, .int .i64 0, .slice none 0 0]) ?_ 1 _ rfl; (with_reducible repeat (first | refine blk_drewN ?_ _ | refine blk_drew ?_ | refine blk_alloc ?_ _)); refine blk_put (cs := #[.int .i64 0, .int .i64 0, .slice none 0 0]) ?_ 0 _ rfl; (with_reducible repeat (first | refine blk_drewN ?_ _ | refine blk_drew ?_ | refine blk_alloc ?_ _)); exact BK165.out) Try.underlying40 rfl (by kernel_rfl)) rfl ?_
    exact ⟨_, by first | rfl | (simp [errW_none, errW_some] <;> rfl) | (simp [*, errW_none, errW_some] <;> rfl), by first | exact Kd.R_nil _ _ _ _ _ | exact Kd.N_nil _ _ _ _ _ | exact Kd.V_nil _ _ _ _ _ | exact Kd.Q_nil _ _ _ _ _ | exact Kd.S_nil _ _ _ _ _, by repeat (first | (with_reducible first | exact HB.out | apply below_alloc | apply pw_below_drewN | apply below_drew1 | refine below_set ?_ GE165.out) | exact HB.out)⟩

-- NOT PRINTED: function 6 (relstorelaw_PageSeals)

end Go.Proofs.Ythaoaaboempajaa.QPageSeals
