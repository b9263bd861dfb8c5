/- Lines of the texts that the claim LogKept rests on, bundled: part 5; no conditions but those that each row names. -/
import Derived.Test.YthaoaaboempajaaMLogKept4
import Derived.Deep.CutBlock
import Derived.Maps.StringElems
namespace Go.Proofs.Ythaoaaboempajaa.Log
open Go.RowKit Go.Maps Go.Proofs.Ythaoaaboempajaa.QLogRuns Go.Proofs.Ythaoaaboempajaa.QDiskRuns Go.Proofs.Ythaoaaboempajaa.Disk Go.Proofs.YthaoaaboempajaaW.PrintWords Go.Proofs.YthaoaaboempajaaW.PrintLast Go.Proofs.YthaoaaboempajaaW.PrintMore Go.Proofs.YthaoaaboempajaaX
set_option linter.unusedVariables false
set_option linter.unusedSimpArgs false
def slotA (t : ByteArray) (k : Nat) : Nat := if t.size < 16 ∨ (t.extract 0 16).toList ≠ markL then 0 else (slot3 t k).1
def whichS (a b : Nat) : Nat := if a = 0 ∨ (b ≠ 0 ∧ b = a % 3 + 1) then 1 else 0
theorem last_none {t : ByteArray} {p : Nat} (ha : slotA t 0 = 0) (hb : slotA t 1 = 0) : lastOf t p = (0, 0, 0, p) := by
  unfold slotA at ha hb
  unfold lastOf
  by_cases h : t.size < 16 ∨ (t.extract 0 16).toList ≠ markL
  · rw [if_pos h]
  · rw [if_neg h] at ha hb ⊢
    unfold lastN lastN
    have n0 : slotOfB t 0 = none := by
      cases h0 : slotOfB t 0 with
      | none => rfl
      | some x => rw [slot3_some h0] at ha; obtain ⟨n, f, q⟩ := x; have := (slotOfB_le h0).1; simp only at ha; omega
    have n1 : slotOfB t 1 = none := by
      cases h1 : slotOfB t 1 with
      | none => rfl
      | some x => rw [slot3_some h1] at hb; obtain ⟨n, f, q⟩ := x; have := (slotOfB_le h1).1; simp only at hb; omega
    show lastStep t 1 (lastStep t 0 (0, 0, 0, p)) = _
    rw [lastStep_none n0, lastStep_none n1]
theorem last_some {t : ByteArray} {p : Nat} (h : ¬ (slotA t 0 = 0 ∧ slotA t 1 = 0)) :
    lastOf t p = (whichS (slotA t 0) (slotA t 1), (slot3 t (whichS (slotA t 0) (slotA t 1))).1, (slot3 t (whichS (slotA t 0) (slotA t 1))).2.1, (slot3 t (whichS (slotA t 0) (slotA t 1))).2.2) := by
  unfold slotA at h ⊢
  unfold lastOf
  by_cases hm : t.size < 16 ∨ (t.extract 0 16).toList ≠ markL
  · rw [if_pos hm, if_pos hm] at h
    exact absurd ⟨rfl, rfl⟩ h
  · rw [if_neg hm, if_neg hm] at h
    rw [if_neg hm, if_neg hm, if_neg hm]
    show lastStep t 1 (lastStep t 0 (0, 0, 0, p)) = _
    cases h0 : slotOfB t 0 with
    | none =>
      rw [lastStep_none h0, slot3_none h0]
      rw [slot3_none h0] at h
      have hw : whichS 0 (slot3 t 1).1 = 1 := rfl
      rw [hw]
      cases h1 : slotOfB t 1 with
      | none => rw [slot3_none h1] at h; exact absurd ⟨rfl, rfl⟩ h
      | some x =>
        obtain ⟨n, f, q⟩ := x
        rw [lastStep_take h1 (.inl rfl), slot3_some h1]
    | some x =>
      obtain ⟨n, f, q⟩ := x
      have hn := slotOfB_le h0
      rw [lastStep_take h0 (.inl rfl), slot3_some h0]
      cases h1 : slotOfB t 1 with
      | none =>
        rw [lastStep_none h1, slot3_none h1]
        have hw : whichS n 0 = 0 := by unfold whichS; rw [if_neg (by omega)]
        simp only [hw, slot3_some h0]
      | some y =>
        obtain ⟨n1, f1, q1⟩ := y
        have hn1 := slotOfB_le h1
        rw [slot3_some h1]
        by_cases e : n1 = n % 3 + 1
        · have hw : whichS n n1 = 1 := by unfold whichS; rw [if_pos (.inr ⟨by omega, e⟩)]
          rw [lastStep_take h1 (.inr e)]
          simp only [hw, slot3_some h1]
        · have hw : whichS n n1 = 0 := by unfold whichS; rw [if_neg (by omega)]
          rw [lastStep_keep h1 (by simp only; omega)]
          simp only [hw, slot3_some h0]
theorem which_pos {t : ByteArray} (h : ¬ (slotA t 0 = 0 ∧ slotA t 1 = 0)) : 0 < (slot3 t (whichS (slotA t 0) (slotA t 1))).1 := by
  unfold slotA at h ⊢
  by_cases hm : t.size < 16 ∨ (t.extract 0 16).toList ≠ markL
  · rw [if_pos hm, if_pos hm] at h
    exact absurd ⟨rfl, rfl⟩ h
  · rw [if_neg hm, if_neg hm] at h ⊢
    unfold whichS
    split
    · omega
    · omega
theorem openP_none {s : St} (hd : s.d = false) (h : slotA s.s1 0 = 0 ∧ slotA s.s1 1 = 0) : openP s = if (begin1 s (s.s0.size / 1024)).1 ≠ 0 then ((begin1 s (s.s0.size / 1024)).1, (begin1 s (s.s0.size / 1024)).2, none) else (0, (begin1 s (s.s0.size / 1024)).2, some ⟨[], 0, s.s0.size / 1024, 0, 1⟩) := by
  unfold openP
  rw [if_neg (by rw [hd]; decide), last_none h.1 h.2, if_neg (by simp)]
def byS (t : ByteArray) (k : Nat) : Lg := ⟨framesOf t (slot3 t k).2.1, (slot3 t k).2.1, (slot3 t k).2.2, k, (slot3 t k).1⟩
theorem openP_some {s : St} (hd : s.d = false) (h : ¬ (slotA s.s1 0 = 0 ∧ slotA s.s1 1 = 0)) : openP s = (0, s, some (byS s.s1 (whichS (slotA s.s1 0) (slotA s.s1 1)))) := by
  unfold openP
  rw [if_neg (by rw [hd]; decide), last_some h, if_pos (which_pos h)]
  rfl
theorem slot3_le {t : ByteArray} (k : Nat) : (slot3 t k).1 ≤ 3 ∧ (slot3 t k).2.2 ≤ 4294967295 ∧ ((slot3 t k).2.1 = 0 ∨ 64 + 1028 * (slot3 t k).2.1 ≤ t.size) := by
  cases h : slotOfB t k with
  | none => rw [slot3_none h]; exact ⟨by decide, by decide, .inl rfl⟩
  | some x =>
    obtain ⟨n, f, q⟩ := x
    have hb := slotOfB_le h
    rw [slot3_some h]
    refine ⟨hb.2.1, ?_, hb.2.2⟩
    unfold slotOfB at h
    split at h
    · simp at h
    · split at h
      · injection h with h
        injection h with h1 h2
        injection h2 with h2 h3
        have := u32_lt (slotT t k).data.toList 8
        unfold tn at h3
        simp only
        omega
      · simp at h
theorem slotOf.callsK (t : ByteArray) (k : Nat) (w : World) (hk : k = 0 ∨ k = 1) (hs : t.size ≤ 67108864) :
    Calls Try.prog 151 #[.string t, .int .i64 (k : Int)] w fun e w' => e = .returned (.tuple #[.int .i64 ((slot3 t k).1 : Int), .int .i64 ((slot3 t k).2.1 : Int), .int .i64 ((slot3 t k).2.2 : Int)]) ∧ Drawn0 w w' := by
  rcases hk with rfl | rfl
  · exact slotOf.calls0 t w hs
  · exact slotOf.calls1 t w hs
theorem frame_parts (t : ByteArray) (j : Nat) (h : 64 + 1028 * (j + 1) ≤ t.size) : relstoreref_unbytes.f 5 ((t.extract (64 + 1028 * j) (64 + 1028 * (j + 1))).extract 0 4) = some ((tn t (64 + 1028 * j) : Nat) : Int) ∧
    (t.extract (64 + 1028 * j) (64 + 1028 * (j + 1))).extract 4 (t.extract (64 + 1028 * j) (64 + 1028 * (j + 1))).size = (frameAt t j).2 ∧ (t.extract (64 + 1028 * j) (64 + 1028 * (j + 1))).size = 1028 := by
  have hs : (t.extract (64 + 1028 * j) (64 + 1028 * (j + 1))).size = 1028 := by rw [size_extract _ _ _ h]; omega
  refine ⟨?_, ?_, hs⟩
  · have h1 := un_drop (t.extract (64 + 1028 * j) (64 + 1028 * (j + 1))) 0 (by omega)
    rw [Nat.zero_add] at h1
    have e : tn (t.extract (64 + 1028 * j) (64 + 1028 * (j + 1))) 0 = tn t (64 + 1028 * j) := by
      unfold tn
      rw [tn_drop t (64 + 1028 * j) (64 + 1028 * (j + 1)) (by omega) h]
      rfl
    rw [h1, e]
  · show _ = t.extract (68 + 1028 * j) (64 + 1028 * (j + 1))
    rw [hs]
    apply bytes_ext
    rw [extract_list, extract_list, extract_list, List.drop_take, List.drop_drop, List.take_take]
    congr 1
    · omega
    · congr 1
      omega
def ROpened (w0 w' : World) (gr : Nat) (O : Nat → Prop) (v : Value) (s : St) : Option Lg → Prop
  | none => v = .pointer none ∧ RD w' w0.heap.size gr O s
  | some g => ∃ gl, v = pv gl ∧ QB w0 w' gr gl O s g
set_option maxHeartbeats 8000000 in
set_option maxRecDepth 100000 in
theorem ropen.calls (gr : Nat) (O : Nat → Prop) (s : St) (m : Nat) (w0 w : World) (hB : Below w0.heap.size w0 w) (hD : RD w w0.heap.size gr O s) (hok : s.ok m) (hm : m ≤ 600000000) :
    Calls Try.prog 76 #[pv gr] w fun e w' => ∃ v : Value, e = .returned (.tuple #[v, .int .i64 (openP s).1]) ∧ Below w0.heap.size w0 w' ∧ Kept w w' O ∧
      ROpened w0 w' gr (fun k => O k ∨ w.heap.size ≤ k) v (openP s).2.1 (openP s).2.2 := by
  have HB := Aside0.mk hB
  have HD := Aside0.mk hD
  have HOK := Aside0.mk hok
  have HM := Aside0.mk hm
  obtain ⟨x2, hb, hg, hO, hr⟩ := hD
  have p4 : w.cell? ⟨gr, 4, none⟩ = some (.bool s.d) := (blk_cell hb 4).trans rfl
  clear hb hg hO hr hB hok hm
  cases hdn : s.d with
  | true =>
    have HS := Aside0.mk (show openP s = (2, s, none) by unfold openP; rw [if_pos hdn])
    rw [hdn] at p4
    clear hdn
    go_enter Try.func76, Try.ntmps76
    go_wp2_with (fail)
    go_ret2
    rw [HS.out]
    exact ⟨_, rfl, HB.out, Kept.refl _ _, rfl, RD.mono HD.out (fun k hk => .inl hk)⟩
  | false =>
    rw [hdn] at p4
    have HDN := Aside0.mk hdn
    have HS0 := Aside0.mk HOK.out.s0
    have HS1 := Aside0.mk (show s.s1.size ≤ 67108864 from HOK.out.s1)
    clear hdn
    have hz := HS0.out
    unfold maxFile at hz
    have t1 : (s.s0.size : Int).tdiv 1024 = ((s.s0.size / 1024 : Nat) : Int) := by rw [Int.tdiv_eq_ediv_of_nonneg (by omega)]; omega
    have v1 : IntKind.i64.wrap ((s.s0.size / 1024 : Nat) : Int) = ((s.s0.size / 1024 : Nat) : Int) := IntWalk.i64_in _ (by omega)
    have v2 : wrap64 ((s.s0.size : Int) / 1024) = (s.s0.size : Int) / 1024 := by unfold wrap64; omega
    have HP := Aside0.mk (show s.s0.size / 1024 ≤ 65536 by omega)
    have HC0 := Aside0.mk (seen.calls0 gr O s m w0.heap.size w HD.out HOK.out (by have := HM.out; omega))
    have HC1 := Aside0.mk (fun w1 (h : RD w1 w0.heap.size gr O s) => seen.calls1 gr O s m w0.heap.size w1 h HOK.out (by have := HM.out; omega))
    clear hz
    go_enter Try.func76, Try.ntmps76
    go_upto_region 4 with (first
      | (go_at_call 136; (with_reducible refine HC0.out.mono ?_); rintro e w1 ⟨rfl, h1⟩; have HW1 := Aside0.mk h1; clear h1)
      | ((with_reducible refine gate_dst (N := 21) rfl ?_); refine box_event ?hg (N := 21) ?hd (cs := rlcells gr (.slice none 0 0) 0 ((s.s0.size / 1024 : Nat) : Int) 0 0) (t := 110) ?hr ?_; (case hd => rfl); (case hg => rfl); (case hr => first | (go_simp; done) | (go_simp; rfl)); intro gl hgl w2 hbox hb; have HX2 := Aside0.mk hbox; have HB2 := Aside0.mk hb; have HG2 := Aside0.mk hgl; clear hgl hbox hb))
    clear p4 t1 v1 v2 HC0
    have hq2 : QB w0 w2 gr gl (fun k => O k ∨ w.heap.size ≤ k) s ⟨[], 0, s.s0.size / 1024, 0, 0⟩ := by
      have z1 := HW1.out.size
      have z3 := blk_lt HX2.out
      have z5 := HG2.out
      have z6 := HB.out.size
      have hw2 := below_step HW1.out HB2.out
      refine ⟨below_step HB.out hw2, fun k => O k ∧ w0.heap.size ≤ k ∧ k < w.heap.size, fun k => k = gl, (frR _ _ _).apart ((frR _ _ _).narrow HD.out) (S := fun _ => False) (Kept.of_below hw2 _) (fun _ _ h => h), ⟨_, HX2.out, by omega, rfl, Kd.R_nil _ _ _ _ _⟩, fun k hk => .inl hk.1, fun k hk => .inr (by rw [hk]; omega), fun k h1 h2 => by subst h2; omega, fun k hk => ⟨hk.2.1, Nat.lt_of_lt_of_le hk.2.2 hw2.size⟩, fun k hk => by subst hk; omega⟩
    have T2 := Aside0.mk hq2
    have HK2 := Aside0.mk (show Below w.heap.size w w2 from below_step HW1.out HB2.out)
    have HGW := Aside0.mk (show w.heap.size ≤ gl by have h1 := HW1.out.size; have h2 := HG2.out; omega)
    clear hq2 HX2 HB2 HG2
    have HC2 := Aside0.mk (HC1.out w2 (RD.apart HD.out (S := fun _ => False) (Kept.of_below HK2.out _) (fun _ _ h => h)))
    clear HC1
    obtain ⟨t, ht⟩ : ∃ t, t = s.s1 := ⟨_, rfl⟩
    rw [← ht] at HC2 HS1
    have HTT := Aside0.mk ht
    clear ht
    go_upto_region 6 with (go_at_call 136; (with_reducible refine HC2.out.mono ?_); rintro e w3 ⟨rfl, h3⟩; have T3 := Aside0.mk (T2.out.below h3); have HK3 := Aside0.mk (below_step HK2.out h3); clear h3)
    clear HC2 T2 HK2
    go_cut [31] from 24 to 31 (fun v31 wx => v31 = .bool (decide (¬ (t.size < 16 ∨ (t.extract 0 16).toList ≠ markL))) ∧ w3 = wx)
    case first =>
      by_cases hl : t.size < 16
      · have l_ : ¬ (16 : Int) ≤ (t.size : Int) := by omega
        have l2_ : decide ((t.size : Int) ≥ 16) = false := decide_eq_false (by omega)
        have l3_ : ¬ 16 ≤ t.size := by omega
        have HN := Aside0.mk (show decide (¬ (t.size < 16 ∨ (t.extract 0 16).toList ≠ markL)) = false from decide_eq_false (fun h => h (.inl hl)))
        clear hl
        go_wp2_with (fail)
        go_meet
        case rel => exact ⟨by rw [HN.out], rfl⟩
      · have l_ : (16 : Int) ≤ (t.size : Int) := by omega
        have l2_ : decide ((t.size : Int) ≥ 16) = true := decide_eq_true (by omega)
        have l3_ : 16 ≤ t.size := by omega
        by_cases hm : (t.extract 0 16).toList = markL
        · have qm : ((t.extract 0 16).toList == [114, 101, 108, 115, 116, 111, 114, 101, 32, 108, 111, 103, 32, 48, 48, 49]) = true := beq_iff_eq.mpr hm
          have HN := Aside0.mk (show decide (¬ (t.size < 16 ∨ (t.extract 0 16).toList ≠ markL)) = true from decide_eq_true (fun h => h.elim hl (fun h => h hm)))
          clear hl hm
          go_wp2_with (fail)
          go_meet
          case rel => exact ⟨by rw [HN.out], rfl⟩
        · have qm : ((t.extract 0 16).toList == [114, 101, 108, 115, 116, 111, 114, 101, 32, 108, 111, 103, 32, 48, 48, 49]) = false := beq_eq_false_iff_ne.mpr hm
          have HN := Aside0.mk (show decide (¬ (t.size < 16 ∨ (t.extract 0 16).toList ≠ markL)) = false from decide_eq_false (fun h => h (.inr hm)))
          clear hl hm
          go_wp2_with (fail)
          go_meet
          case rel => exact ⟨by rw [HN.out], rfl⟩
    case rest =>
    obtain ⟨rfl, hw⟩ := hcut
    subst hw
    go_upto_if 31 with (fail)
    go_cut [6, 7] from 31 to 43 (fun v6 v7 wx => v6 = .int .i64 ((slotA t 0 : Nat) : Int) ∧ v7 = .int .i64 ((slotA t 1 : Nat) : Int) ∧ Aside0 (Below w.heap.size w wx) ∧ Aside0 (QB w0 wx gr gl (fun k => O k ∨ w.heap.size ≤ k) s ⟨[], 0, s.s0.size / 1024, 0, 0⟩))
    case first =>
      by_cases hm : t.size < 16 ∨ (t.extract 0 16).toList ≠ markL
      · have a0 : slotA t 0 = 0 := by unfold slotA; rw [if_pos hm]
        have a1 : slotA t 1 = 0 := by unfold slotA; rw [if_pos hm]
        rw [decide_eq_false (fun h => h hm)]
        have A01 := Aside0.mk (And.intro a0 a1)
        clear a0 a1 hm
        go_wp2_with (fail)
        go_meet
        case rel => exact ⟨by rw [A01.out.1]; rfl, by rw [A01.out.2]; rfl, HK3, T3⟩
      · have a0 : slotA t 0 = (slot3 t 0).1 := by unfold slotA; rw [if_neg hm]
        have a1 : slotA t 1 = (slot3 t 1).1 := by unfold slotA; rw [if_neg hm]
        rw [decide_eq_true hm]
        have A01 := Aside0.mk (And.intro a0 a1)
        clear a0 a1 hm
        go_wp2_with (first
          | (go_at_call 151; (with_reducible refine (slotOf.calls0 t _ HS1.out).mono ?_); rintro e w4 ⟨rfl, h4⟩; have T4 := Aside0.mk (T3.out.below h4.below); have HK4 := Aside0.mk (below_step HK3.out h4.below); clear h4)
          | (go_at_call 151; (with_reducible refine (slotOf.calls1 t _ HS1.out).mono ?_); rintro e w5 ⟨rfl, h5⟩; have T5 := Aside0.mk (T4.out.below h5.below); have HK5 := Aside0.mk (below_step HK4.out h5.below); clear h5))
        go_meet
        case rel => exact ⟨by rw [A01.out.1], by rw [A01.out.2], HK5, T5⟩
    case rest =>
    clear HK3 T3
    obtain ⟨rfl, rfl, HKc, T⟩ := hcut
    obtain ⟨a, ha⟩ : ∃ a, a = slotA t 0 := ⟨_, rfl⟩
    obtain ⟨b, hb⟩ : ∃ b, b = slotA t 1 := ⟨_, rfl⟩
    have HN1 := Aside0.mk (fun h : a = 0 ∧ b = 0 => openP_none HDN.out (by rw [← HTT.out, ← ha, ← hb]; exact h))
    have HN2 := Aside0.mk (fun h : ¬ (a = 0 ∧ b = 0) => openP_some HDN.out (by rw [← HTT.out, ← ha, ← hb]; exact h))
    rw [← HTT.out, ← ha, ← hb] at HN2
    have A4 := Aside0.mk (show a ≤ 3 by rw [ha]; unfold slotA; split <;> first | omega | exact (slot3_le 0).1)
    rw [← ha, ← hb]
    clear ha hb
    go_upto_block 0 with (fail)
    go_cut [] from 44 to 73 (fun wx => Aside0 (openP s = (0, s, some (byS t (whichS a b)))) ∧ Aside0 (Below w.heap.size w wx) ∧ Aside0 (QB w0 wx gr gl (fun k => O k ∨ w.heap.size ≤ k) s ⟨[], 0, s.s0.size / 1024, whichS a b, 0⟩))
    case first =>
      by_cases h0 : a = 0 ∧ b = 0
      · have hN := HN1.out h0
        obtain ⟨rfl, rfl⟩ := h0
        have HC := Aside0.mk (anew.calls gr gl _ s (s.s0.size / 1024) m w0 wc T.out HOK.out (by have := HM.out; omega) (by have := HP.out; omega))
        obtain ⟨⟨ce, sn⟩, hr⟩ : ∃ r, r = begin1 s (s.s0.size / 1024) := ⟨_, rfl⟩
        rw [← hr] at hN HC
        clear hr HN1 HN2
        by_cases hz : ce = 0
        · subst hz
          rw [if_neg (fun h => h rfl)] at hN
          have HN := Aside0.mk hN
          clear hN
          go_wp2_with (go_at_call 152; (with_reducible refine HC.out.mono ?_); rintro e w6 ⟨rfl, h6⟩; have T6 := Aside0.mk h6; clear h6)
          go_ret2
          rw [HN.out]
          refine ⟨_, rfl, T6.out.1.hB, kept_new ((Kept.of_below HKc.out (fun k => O k ∨ w.heap.size ≤ k)).then_ T6.out.2 (fun k hk => .inl hk)), gl, rfl, T6.out.1.mono (fun k hk => hk.elim id (fun a => .inr (Nat.le_trans HKc.out.size a)))⟩
        · rw [if_pos hz] at hN
          have HN := Aside0.mk hN
          have qz : (ce != 0) = true := by simp [bne, beq_false hz]
          clear hN hz
          go_wp2_with (go_at_call 152; (with_reducible refine HC.out.mono ?_); rintro e w6 ⟨rfl, h6⟩; have T6 := Aside0.mk h6; clear h6)
          go_ret2
          rw [HN.out]
          obtain ⟨O1, O2, hd, -, ho1, -⟩ := T6.out.1.hD
          exact ⟨_, rfl, T6.out.1.hB, kept_new ((Kept.of_below HKc.out (fun k => O k ∨ w.heap.size ≤ k)).then_ T6.out.2 (fun k hk => .inl hk)), rfl, RD.mono hd (fun k hk => (ho1 k hk).elim id (fun a => .inr (Nat.le_trans HKc.out.size a)))⟩
      · have HF := Aside0.mk (HN2.out h0)
        obtain ⟨A4, c4, hx4, hr4, hO4, hb4⟩ := T.out.cells
        have HX4 := Aside0.mk hx4
        have HO4 := Aside0.mk (And.intro hO4 hb4)
        have z4 := blk_frozen hx4 4
        have y4 : ∃ v, wc.cell? ⟨gl, 4, none⟩ = some v := ⟨_, (blk_cell hx4 4).trans rfl⟩
        obtain ⟨x4, y4⟩ := y4
        have d_ : (a : Int).tmod 3 = ((a % 3 : Nat) : Int) := (Int.ofNat_tmod a 3).symm
        have v1 : IntKind.i64.wrap ((a % 3 : Nat) : Int) = ((a % 3 : Nat) : Int) := IntWalk.i64_in _ (by omega)
        have v2 : IntKind.i64.wrap (((a % 3 : Nat) : Int) + 1) = ((a % 3 : Nat) : Int) + 1 := IntWalk.i64_in _ (by omega)
        have hst : Aside0 (Below w.heap.size w (wc.setCell ⟨gl, 4, none⟩ (.int .i64 1)) ∧ QB w0 (wc.setCell ⟨gl, 4, none⟩ (.int .i64 1)) gr gl (fun k => O k ∨ w.heap.size ≤ k) s ⟨[], 0, s.s0.size / 1024, 1, 0⟩) := ⟨by
          have hK := set_kept (w := wc) (g := gl) (j := 4) (v := .int .i64 1)
          have hq := T.out.upd (g' := ⟨[], 0, s.s0.size / 1024, 1, 0⟩) (T.out.hB.setCell (p := ⟨gl, 4, none⟩) HO4.out.2 _) hK A4 c4 c4 0 (s.s0.size / 1024 : Nat) 0 0 HX4.out 0 (Nat.le_refl _) rfl (blk_put HX4.out 4 (.int .i64 1) rfl)
          exact ⟨HKc.out.setCell (p := ⟨gl, 4, none⟩) HGW.out _, hq⟩⟩
        clear hx4 hr4 hO4 hb4 HN1 HN2
        have HNB := Aside0.mk h0
        by_cases ea : a = 0
        · have hb0 : b ≠ 0 := fun h => h0 ⟨ea, h⟩
          have q1 : ((a : Int) == 0) = true := by rw [ea]; rfl
          have q2 : ((b : Int) == 0) = false := beq_false (by omega)
          have hw : whichS a b = 1 := by unfold whichS; rw [if_pos (.inl ea)]
          have HW := Aside0.mk hw
          clear ea hb0 h0 hw
          go_wp2_with (fail)
          go_meet
          case rel => exact ⟨HF, ⟨hst.out.1⟩, ⟨by rw [HW.out]; exact hst.out.2⟩⟩
        · have q1 : ((a : Int) == 0) = false := beq_false (by omega)
          by_cases eb : b = 0
          · have q2 : ((b : Int) != 0) = false := by rw [eb]; rfl
            have hw : whichS a b = 0 := by unfold whichS; rw [if_neg (by omega)]
            have HW := Aside0.mk hw
            clear ea eb h0 hw
            go_wp2_with (fail)
            go_meet
            case rel => exact ⟨HF, HKc, ⟨by rw [HW.out]; exact T.out⟩⟩
          · have q2 : ((b : Int) != 0) = true := by simp [bne, beq_false (show (b : Int) ≠ 0 by omega)]
            by_cases ec : b = a % 3 + 1
            · have q3 : ((b : Int) == ((a % 3 : Nat) : Int) + 1) = true := beq_iff_eq.mpr (by omega)
              have hw : whichS a b = 1 := by unfold whichS; rw [if_pos (.inr ⟨eb, ec⟩)]
              have HW := Aside0.mk hw
              clear ea eb ec h0 hw
              go_wp2_with (fail)
              go_meet
              case rel => exact ⟨HF, ⟨hst.out.1⟩, ⟨by rw [HW.out]; exact hst.out.2⟩⟩
            · have q3 : ((b : Int) == ((a % 3 : Nat) : Int) + 1) = false := beq_false (by omega)
              have hw : whichS a b = 0 := by unfold whichS; rw [if_neg (by omega)]
              have HW := Aside0.mk hw
              clear ea eb ec h0 hw
              go_wp2_with (fail)
              go_meet
              case rel => exact ⟨HF, HKc, ⟨by rw [HW.out]; exact T.out⟩⟩
    case rest =>
    clear HN1 HN2 HKc T
    obtain ⟨HF, HKd, T⟩ := hcut
    obtain ⟨k, hk⟩ : ∃ k, k = whichS a b := ⟨_, rfl⟩
    rw [← hk] at HF T
    have HK01 := Aside0.mk (show k = 0 ∨ k = 1 by rw [hk]; unfold whichS; split <;> first | exact .inr rfl | exact .inl rfl)
    clear hk
    have hSL := slot3_le (t := t) k
    unfold byS at HF
    obtain ⟨⟨n, f, p⟩, hsl⟩ : ∃ x, x = slot3 t k := ⟨_, rfl⟩
    have hC := fun w1 => slotOf.callsK t k w1 HK01.out HS1.out
    rw [← hsl] at HF hSL hC
    simp only at HF hSL hC
    have HC := Aside0.mk hC
    have HSL := Aside0.mk hSL
    clear hsl hC hSL
    obtain ⟨A4, c4, hx4, hr4, hO4, hb4⟩ := T.out.cells
    have HX4 := Aside0.mk hx4
    have HO4 := Aside0.mk (And.intro hO4 hb4)
    have p4 : wc.cell? ⟨gl, 4, none⟩ = some (.int .i64 (k : Int)) := (blk_cell hx4 4).trans rfl
    clear hx4 hr4 hO4 hb4
    go_upto_region 17 with (go_at_call 151; (with_reducible refine (HC.out _).mono ?_); rintro e w5 ⟨rfl, h5⟩; have T5 := Aside0.mk (T.out.below h5.below); have HX5 := Aside0.mk (blk_below HX4.out h5.below); have HK5 := Aside0.mk (below_step HKd.out h5.below); clear h5; have z2 := blk_frozen HX5.out 2; have z3 := blk_frozen HX5.out 3; have z5 := blk_frozen HX5.out 5; have y2 : ∃ v, w5.cell? ⟨gl, 2, none⟩ = some v := ⟨_, (blk_cell HX5.out 2).trans rfl⟩; have y3 : ∃ v, w5.cell? ⟨gl, 3, none⟩ = some v := ⟨_, (blk_cell HX5.out 3).trans rfl⟩; have y5 : ∃ v, w5.cell? ⟨gl, 5, none⟩ = some v := ⟨_, (blk_cell HX5.out 5).trans rfl⟩; obtain ⟨x2_, y2⟩ := y2; obtain ⟨x3_, y3⟩ := y3; obtain ⟨x5_, y5⟩ := y5)
    clear p4 z2 z3 z5 y2 y3 y5
    have hK6 : Kept w5 (((w5.setCell ⟨gl, 5, none⟩ (.int .i64 (n : Int))).setCell ⟨gl, 2, none⟩ (.int .i64 (f : Int))).setCell ⟨gl, 3, none⟩ (.int .i64 (p : Int))) (fun j => j = gl) :=
      ((set_kept (w := w5) (g := gl) (j := 5) (v := .int .i64 (n : Int))).then_ (set_kept (g := gl) (j := 2) (v := .int .i64 (f : Int))) (fun j hj => .inl hj)).then_ (set_kept (g := gl) (j := 3) (v := .int .i64 (p : Int))) (fun j hj => .inl hj)
    have T6 := Aside0.mk (T5.out.upd (g' := ⟨framesOf t 0, f, p, k, n⟩) (((T5.out.hB.setCell (p := ⟨gl, 5, none⟩) HO4.out.2 _).setCell (p := ⟨gl, 2, none⟩) HO4.out.2 _).setCell (p := ⟨gl, 3, none⟩) HO4.out.2 _) hK6 A4 c4 c4 0 (s.s0.size / 1024 : Nat) (k : Int) 0 HX5.out 0 (Nat.le_refl _) rfl (blk_put (blk_put (blk_put HX5.out 5 (.int .i64 (n : Int)) rfl) 2 (.int .i64 (f : Int)) rfl) 3 (.int .i64 (p : Int)) rfl))
    have HB6 := Aside0.mk (((HK5.out.setCell (p := ⟨gl, 5, none⟩) HGW.out (.int .i64 (n : Int))).setCell (p := ⟨gl, 2, none⟩) HGW.out (.int .i64 (f : Int))).setCell (p := ⟨gl, 3, none⟩) HGW.out (.int .i64 (p : Int)))
    clear hK6 T5 HX5 HK5 HX4 T HKd
    generalize ((w5.setCell ⟨gl, 5, none⟩ (.int .i64 (n : Int))).setCell ⟨gl, 2, none⟩ (.int .i64 (f : Int))).setCell ⟨gl, 3, none⟩ (.int .i64 (p : Int)) = w6 at T6 HB6 ⊢
    go_wp2_with (fail)
    go_loopw [9] (fun v9 wr => ∃ (j : Nat), j ≤ f ∧ v9 = .int .i64 (j : Int) ∧ Aside0 (Kept w wr O) ∧ Aside0 (QB w0 wr gr gl (fun k => O k ∨ w.heap.size ≤ k) s ⟨framesOf t j, f, p, k, n⟩)) (fun v9 _ => f - (intOf v9).toNat)
    case atStart => exact ⟨0, Nat.zero_le _, rfl, ⟨Kept.of_below HB6.out O⟩, T6⟩
    case round =>
      clear T6 HB6
      obtain ⟨j, hj, rfl, HKr, T⟩ := hrel
      obtain ⟨A7, c7, hx7, hr7, hO7, hb7⟩ := T.out.cells
      rw [framesOf_len] at hx7 hr7
      have p2 : wr.cell? ⟨gl, 2, none⟩ = some (.int .i64 (f : Int)) := (blk_cell hx7 2).trans rfl
      by_cases hlt : j < f
      · have t_ : decide ((j : Int) < (f : Int)) = true := decide_eq_true (by omega)
        have t2_ : decide (j < f) = true := decide_eq_true (by omega)
        have t3_ : j < f := hlt
        have hts := HS1.out
        have hjb : 64 + 1028 * (j + 1) ≤ t.size := by have := HSL.out.2.2; omega
        have HLT := Aside0.mk hlt
        have v1 : IntKind.i64.wrap (1028 * (j : Int)) = 1028 * (j : Int) := IntWalk.i64_in _ (by omega)
        have v2 : IntKind.i64.wrap (64 + 1028 * (j : Int)) = 64 + 1028 * (j : Int) := IntWalk.i64_in _ (by omega)
        have v3 : IntKind.i64.wrap ((j : Int) + 1) = (j : Int) + 1 := IntWalk.i64_in _ (by omega)
        have v4 : IntKind.i64.wrap (1028 * ((j : Int) + 1)) = 1028 * ((j : Int) + 1) := IntWalk.i64_in _ (by omega)
        have v5 : IntKind.i64.wrap (64 + 1028 * ((j : Int) + 1)) = 64 + 1028 * ((j : Int) + 1) := IntWalk.i64_in _ (by omega)
        have v6 : (64 + 1028 * (j : Int)).toNat = 64 + 1028 * j := by omega
        have v7 : (64 + 1028 * ((j : Int) + 1)).toNat = 64 + 1028 * (j + 1) := by omega
        have v8 : 0 ≤ 64 + 1028 * (j : Int) := by omega
        have v9 : 64 + 1028 * (j : Int) ≤ 64 + 1028 * ((j : Int) + 1) := by omega
        have v10 : 64 + 1028 * ((j : Int) + 1) ≤ (t.size : Int) := by omega
        have p1 : wr.cell? ⟨gl, 1, none⟩ = some (.slice A7 j c7) := (blk_cell hx7 1).trans rfl
        have HX7 := Aside0.mk hx7
        have HB7 := Aside0.mk hb7
        clear hx7 hr7 hO7 hlt hj hb7
        go_upto_region 21 with (fail)
        obtain ⟨u, hu⟩ : ∃ u, u = t.extract (64 + 1028 * j) (64 + 1028 * (j + 1)) := ⟨_, rfl⟩
        rw [← hu]
        have hun := (frame_parts t j (by omega)).1
        have htx := (frame_parts t j (by omega)).2.1
        have husz := (frame_parts t j (by omega)).2.2
        rw [← hu] at hun htx husz
        rw [husz] at htx
        have htn : tn t (64 + 1028 * j) < 4294967296 := u32_lt _ _
        have HFS := Aside0.mk (framesOf_succ t j)
        have HFA := Aside0.mk (show frameAt t j = (tn t (64 + 1028 * j), (frameAt t j).2) from rfl)
        obtain ⟨nm, hnm⟩ : ∃ nm, nm = tn t (64 + 1028 * j) := ⟨_, rfl⟩
        obtain ⟨tx, etx⟩ : ∃ tx, tx = (frameAt t j).2 := ⟨_, rfl⟩
        rw [← hnm] at hun htn HFA
        rw [← etx] at htx HFA
        have HUN := Aside0.mk hun
        have w1_ : IntKind.i64.wrap (nm : Int) = (nm : Int) := IntWalk.i64_in _ (by omega)
        have s1_ : (4 : Int) ≤ (u.size : Int) := by omega
        obtain ⟨O1, O2, hd, ⟨x0, hb0, hg0, hO0, hr0⟩, ho1, ho2, hdis, hbd1, hbd2⟩ := T.out.hD
        obtain rfl : x0 = .slice A7 j c7 := by
          have e0 := hb0.symm.trans HX7.out
          injection e0 with e0
          injection e0 with e0
          have := congrArg (fun c : Array Value => c[1]?) e0
          simp [rlcells] at this
          exact this
        have HR0 := Aside0.mk hr0
        have HSEP := Aside0.mk (And.intro hd (And.intro hg0 (And.intro hO0 (And.intro ho1 (And.intro ho2 (And.intro hdis (And.intro hbd1 hbd2)))))))
        clear hu hun htn hnm etx hd hb0 hg0 hO0 hr0 ho1 ho2 hdis hbd1 hbd2 v1 v2 v4 v5 v6 v7 v8 v9 v10 hjb hts
        have hJ : j ≤ 70000 := by have := HLT.out; have := HSL.out.2.2; have := HS1.out; omega
        have HJJ := Aside0.mk hJ
        clear hJ
        have p1d : wr.drew.cell? ⟨gl, 1, none⟩ = some (.slice A7 j c7) := p1
        refine wp_region_noPanic ?_
        refine start_ (n := 17) (S := fun w' => w'.cell? ⟨gl, 1, none⟩ = some (.slice A7 j c7)) (ds := [16]) #[false, false, false, false, false, false, false, false, false, false, false, false, false, false, false, false, false] (by kernel_rfl) rfl rfl p1d (fun hHeld => ?_)
        have HBd := Aside0.mk (below_drew (Below.refl wr.heap.size wr))
        refine pure_ (i := 0) (N := some 110) (v := ?_) (a' := ?_) #[true, false, false, false, false, false, false, false, false, false, false, false, false, false, false, false, false] rfl rfl (by kernel_rfl) (fun _ _ _ h => h) (Or.inl ⟨by rfl, ?_⟩) ?_ ?_
        rotate_left
        · intro w'
          go_simp
          try (with_reducible rfl)
        rotate_left
        · try simp only [Act.put, List.setIfInBounds_toArray, List.set_cons_zero, List.set_cons_succ]
          rfl
        refine pure_ (i := 1) (N := some 111) (v := ?_) (a' := ?_) #[true, true, false, false, false, false, false, false, false, false, false, false, false, false, false, false, false] rfl rfl (by kernel_rfl) (fun _ _ _ h => h) (Or.inl ⟨by rfl, ?_⟩) ?_ ?_
        rotate_left
        · intro w'
          go_simp
          try (with_reducible rfl)
        rotate_left
        · try simp only [Act.put, List.setIfInBounds_toArray, List.set_cons_zero, List.set_cons_succ]
          rfl
        refine pure_ (i := 2) (N := some 112) (v := ?_) (a' := ?_) #[true, true, true, false, false, false, false, false, false, false, false, false, false, false, false, false, false] rfl rfl (by kernel_rfl) (fun _ _ _ h => h) (Or.inl ⟨by rfl, ?_⟩) ?_ ?_
        rotate_left
        · intro w'
          go_simp
          try (with_reducible rfl)
        rotate_left
        · try simp only [Act.put, List.setIfInBounds_toArray, List.set_cons_zero, List.set_cons_succ]
          rfl
        refine pure_ (i := 3) (N := some 113) (v := ?_) (a' := ?_) #[true, true, true, true, false, false, false, false, false, false, false, false, false, false, false, false, false] rfl rfl (by kernel_rfl) (fun _ _ _ h => h) (Or.inl ⟨by rfl, ?_⟩) ?_ ?_
        rotate_left
        · intro w'
          go_simp
          try (with_reducible rfl)
        rotate_left
        · try simp only [Act.put, List.setIfInBounds_toArray, List.set_cons_zero, List.set_cons_succ]
          rfl
        refine take_ (i := 4) (N := some 114) (v := ?_) (a' := ?_) #[true, true, true, true, true, false, false, false, false, false, false, false, false, false, false, false, false] rfl rfl (by kernel_rfl) (fun _ _ _ h => h) (Or.inl ⟨by rfl, ?_⟩) hHeld ?_ ?_
        rotate_left
        · intro w' s0_
          go_simp
          try (with_reducible rfl)
        rotate_left
        · try simp only [Act.put, List.setIfInBounds_toArray, List.set_cons_zero, List.set_cons_succ]
          rfl
        refine pure_ (i := 5) (N := some 115) (v := ?_) (a' := ?_) #[true, true, true, true, true, true, false, false, false, false, false, false, false, false, false, false, false] rfl rfl (by kernel_rfl) (fun _ _ _ h => h) (Or.inl ⟨by rfl, ?_⟩) ?_ ?_
        rotate_left
        · intro w'
          go_simp
          try (with_reducible rfl)
        rotate_left
        · try simp only [Act.put, List.setIfInBounds_toArray, List.set_cons_zero, List.set_cons_succ]
          rfl
        refine pure_ (i := 6) (N := some 116) (v := ?_) (a' := ?_) #[true, true, true, true, true, true, true, false, false, false, false, false, false, false, false, false, false] rfl rfl (by kernel_rfl) (fun _ _ _ h => h) (Or.inl ⟨by rfl, ?_⟩) ?_ ?_
        rotate_left
        · intro w'
          go_simp
          try (with_reducible rfl)
        rotate_left
        · try simp only [Act.put, List.setIfInBounds_toArray, List.set_cons_zero, List.set_cons_succ]
          rfl
        refine pure_ (i := 9) (N := some 119) (v := ?_) (a' := ?_) #[true, true, true, true, true, true, true, false, false, true, false, false, false, false, false, false, false] rfl rfl (by kernel_rfl) (fun _ _ _ h => h) (Or.inl ⟨by rfl, ?_⟩) ?_ ?_
        rotate_left
        · intro w'
          go_simp
          try (with_reducible rfl)
        rotate_left
        · try simp only [Act.put, List.setIfInBounds_toArray, List.set_cons_zero, List.set_cons_succ]
          rfl
        refine pure_ (i := 10) (N := some 120) (v := ?_) (a' := ?_) #[true, true, true, true, true, true, true, false, false, true, true, false, false, false, false, false, false] rfl rfl (by kernel_rfl) (fun _ _ _ h => h) (Or.inl ⟨by rfl, ?_⟩) ?_ ?_
        rotate_left
        · intro w'
          go_simp
          try (with_reducible rfl)
        rotate_left
        · try simp only [Act.put, List.setIfInBounds_toArray, List.set_cons_zero, List.set_cons_succ]
          rfl
        refine one_ (i := 7) (N := some 117) #[true, true, true, true, true, true, true, true, false, true, true, false, false, false, false, false, false] rfl rfl (by kernel_rfl) (by decide) (fun K hK => ?_)
        refine goes_ Try.func109 (by kernel_rfl) rfl #[.string (u.extract 0 4)] (by rfl) rfl rfl (by (try simp only [List.map_toArray, List.map_cons, List.map_nil]); first | done | rfl) ?_
        refine (relstoreref_unbytes.calls 5 (u.extract 0 4) (nm : Int) _ HUN.out).mono ?_
        rintro e w8 ⟨rfl, h8⟩
        refine ⟨_, rfl, ?_⟩
        have HB8 := Aside0.mk (below_step HBd.out h8.below)
        clear h8
        have HX8 := Aside0.mk (blk_below HX7.out HB8.out)
        have c8_ : w8.cell? ⟨gl, 1, none⟩ = some (.slice A7 j c7) := (blk_cell HX8.out 1).trans rfl
        have c8b_ : ∀ o, (w8.alloc o).cell? ⟨gl, 1, none⟩ = some (.slice A7 j c7) := fun o => (blk_cell (blk_alloc HX8.out o) 1).trans rfl
        refine hK.out _ _ c8_ (fun hHeld => ?_)
        clear hK K
        refine norm_ (a' := ?_) ?_ ?_
        rotate_left
        · first | (show Act.put _ (some 117) _ = _; simp only [Act.put, List.setIfInBounds_toArray, List.set_cons_zero, List.set_cons_succ]; rfl) | rfl
        refine pure_ (i := 8) (N := some 118) (v := ?_) (a' := ?_) #[true, true, true, true, true, true, true, true, true, true, true, false, false, false, false, false, false] rfl rfl (by kernel_rfl) (fun _ _ _ h => h) (Or.inl ⟨by rfl, ?_⟩) ?_ ?_
        rotate_left
        · intro w'
          go_simp
          try (with_reducible rfl)
        rotate_left
        · try simp only [Act.put, List.setIfInBounds_toArray, List.set_cons_zero, List.set_cons_succ]
          rfl
        refine pure_ (i := 11) (N := some 121) (v := ?_) (a' := ?_) #[true, true, true, true, true, true, true, true, true, true, true, true, false, false, false, false, false] rfl rfl (by kernel_rfl) (fun _ _ _ h => h) (Or.inl ⟨by rfl, ?_⟩) ?_ ?_
        rotate_left
        · intro w'
          go_simp
          try (with_reducible rfl)
        rotate_left
        · try simp only [Act.put, List.setIfInBounds_toArray, List.set_cons_zero, List.set_cons_succ]
          rfl
        refine one_ (i := 12) (N := some 122) #[true, true, true, true, true, true, true, true, true, true, true, true, true, false, false, false, false] rfl rfl (by kernel_rfl) (by decide) (fun K hK => ?_)
        go_simp
        refine hK.out _ _ (c8b_ _) (fun hHeld => ?_)
        clear hK K
        refine norm_ (a' := ?_) ?_ ?_
        rotate_left
        · first | (show Act.put _ (some 122) _ = _; simp only [Act.put, List.setIfInBounds_toArray, List.set_cons_zero, List.set_cons_succ]; rfl) | rfl
        refine one_ (i := 13) (N := some 123) #[true, true, true, true, true, true, true, true, true, true, true, true, true, true, false, false, false] rfl rfl (by kernel_rfl) (by decide) (fun K hK => ?_)
        refine Kd.R_append_step (W := w8) kF w0.heap.size rfl (.tmp 114) (.tmp 122) 108 179 (.agg #[.int .i64 0, .string ⟨#[]⟩]) 24 rfl Try.underlying108 info179 rfl (by decide) (by omega) (.slice A7 j c7) (framesOf t j) (nm, tx) _ (fun k => (O2 k ∧ k ≠ gl) ∨ w8.heap.size ≤ k) (fun _ => False) rfl rfl (kF_M _) (fun _ hk => hk.elim) (fun k hk => .inr hk) (Kd.R_mono (Kd.R_below HR0.out HB8.out) (fun k hk => .inl hk)) (below_step T.out.hB HB8.out) (below_size (below_step T.out.hB HB8.out)) (by have := HJJ.out; rw [framesOf_len]; omega) ?_
        intro v1 w9 ho hb hgr hat
        obtain ⟨A9, c9, e9⟩ := Kd.R_slice ho
        rw [List.length_append, List.length_singleton, framesOf_len] at e9
        subst e9
        have HO9 := Aside0.mk ho
        have HB9 := Aside0.mk hb
        have HG9 := Aside0.mk hgr
        have HX9 := Aside0.mk (blk_grown HX8.out hgr (Kd.R_ne HR0.out HX7.out (by decide)))
        have z9 := blk_frozen HX9.out 1
        have c9_ : w9.cell? ⟨gl, 1, none⟩ = some (.slice A7 j c7) := (blk_cell HX9.out 1).trans rfl
        clear ho hb hgr hat
        refine hK.out _ _ c9_ (fun hHeld => ?_)
        clear hK K
        refine norm_ (a' := ?_) ?_ ?_
        rotate_left
        · first | (show Act.put _ (some 123) _ = _; simp only [Act.put, List.setIfInBounds_toArray, List.set_cons_zero, List.set_cons_succ]; rfl) | rfl
        refine pure_ (i := 14) (N := some 124) (v := ?_) (a' := ?_) #[true, true, true, true, true, true, true, true, true, true, true, true, true, true, true, false, false] rfl rfl (by kernel_rfl) (fun _ _ _ h => h) (Or.inl ⟨by rfl, ?_⟩) ?_ ?_
        rotate_left
        · intro w'
          go_simp
          try (with_reducible rfl)
        rotate_left
        · try simp only [Act.put, List.setIfInBounds_toArray, List.set_cons_zero, List.set_cons_succ]
          rfl
        refine pure_ (i := 15) (N := some 125) (v := ?_) (a' := ?_) #[true, true, true, true, true, true, true, true, true, true, true, true, true, true, true, true, false] rfl rfl (by kernel_rfl) (fun _ _ _ h => h) (Or.inl ⟨by rfl, ?_⟩) ?_ ?_
        rotate_left
        · intro w'
          go_simp
          try (with_reducible rfl)
        rotate_left
        · try simp only [Act.put, List.setIfInBounds_toArray, List.set_cons_zero, List.set_cons_succ]
          rfl
        refine last_ (i := 16) (N := none) #[true, true, true, true, true, true, true, true, true, true, true, true, true, true, true, true, true] rfl rfl (by kernel_rfl) (by decide) (fun K hK => ?_)
        go_simp
        refine hK.out _ _ ?_
        refine done_ (by kernel_rfl) ?_
        refine NoPanic.normal ?_
        all_goals
          go_wp2_with (fail)
          go_roundw
          case rel =>
            obtain ⟨hd, hg0, hO0, ho1, ho2, hdis, hbd1, hbd2⟩ := HSEP.out
            have hK : Kept wr w9 (fun k => O2 k ∧ k ≠ gl) := Kept.of_grown HG9.out (Kept.of_below HB8.out _) (fun k hk => .inl (HR0.out.1 k hk))
            have hK2 : Kept wr (w9.setCell ⟨gl, 1, none⟩ (.slice A9 (j + 1) c9)) O2 := (hK.mono (fun k h => h.1)).setCell (p := ⟨gl, 1, none⟩) (.inl hO0) _
            have hx' : (w9.setCell ⟨gl, 1, none⟩ (.slice A9 (j + 1) c9)).heap[gl]? = some (.cells (rlcells gr (.slice A9 (j + 1) c9) (f : Int) (p : Int) (k : Int) (n : Int)) 110 (0, 0)) := blk_put HX9.out 1 _ rfl
            have hwr := HKr.out.1
            have hw8 := HB8.out.size
            have hR : kF.R 179 (w9.setCell ⟨gl, 1, none⟩ (.slice A9 (j + 1) c9)) w0.heap.size (fun k => (O2 k ∧ k ≠ gl) ∨ w8.heap.size ≤ k) (.slice A9 (j + 1) c9) (framesOf t j ++ [(nm, tx)]) := Kd.R_far HO9.out (fun q hq he => by
              have e2 : q = gl := he
              rcases hq with hq | hq
              · exact hq.2 e2
              · have := blk_lt HX8.out; omega) _
            have hlg := blk_lt HX7.out
            refine ⟨j + 1, HLT.out, by go_num, ⟨kept_new ((HKr.out.mono (fun k hk => .inl hk)).then_ hK2 (fun k hk => .inl (ho2 k hk)))⟩, ⟨HB9.out.setCell (p := ⟨gl, 1, none⟩) HB7.out _, O1, fun q => (O2 q ∨ wr.heap.size ≤ q) ∧ q < (w9.setCell ⟨gl, 1, none⟩ (.slice A9 (j + 1) c9)).heap.size, (frR _ _ _).apart hd hK2 (fun q hq h2 => hdis q hq h2), ⟨.slice A9 (j + 1) c9, hx', hg0, ⟨.inl hO0, blk_lt hx'⟩, ?_⟩, ho1, fun q hq => hq.1.elim (ho2 q) (fun h => .inr (Nat.le_trans hwr h)), fun q h1 h2 => h2.1.elim (hdis q h1) (Nat.not_le.mpr (hbd1 q h1).2), fun q hq => ⟨(hbd1 q hq).1, Nat.lt_of_lt_of_le (hbd1 q hq).2 hK2.1⟩, fun q hq => ⟨hq.1.elim (fun h => (hbd2 q h).1) (fun h => Nat.le_trans (Nat.le_trans hg0 (Nat.le_of_lt hlg)) h), hq.2⟩⟩⟩
            show kF.R 179 _ _ _ _ (framesOf t (j + 1))
            rw [HFS.out, HFA.out]
            exact Kd.R_mono (Kd.R_bound hR) (fun q hq => ⟨⟨hq.1.imp (fun h => h.1) (fun h => Nat.le_trans hw8 h), hq.2.2.1⟩, fun he => by
              rcases hq.1 with h | h
              · exact h.2 he
              · rw [he] at h; omega⟩)
          case measure => simp [intOf]; have := HLT.out; omega
      · have t_ : decide ((j : Int) < (f : Int)) = false := decide_eq_false (by omega)
        have t2_ : decide (j < f) = false := decide_eq_false (by omega)
        have t3_ : ¬ j < f := by omega
        have HJ := Aside0.mk (show j = f by omega)
        clear hlt hj hx7 hr7 hO7 hb7
        go_wp2_with (fail)
        go_ret2
        obtain rfl := HJ.out
        rw [HF.out]
        exact ⟨_, rfl, T.out.hB, HKr.out, gl, rfl, T.out⟩
end Go.Proofs.Ythaoaaboempajaa.Log
namespace Go.Proofs.Ythaoaaboempajaa.Disk
open Go.RowKit Go.Proofs.YthaoaaboempajaaW.PrintWords Go.Proofs.YthaoaaboempajaaW.PrintLast Go.Proofs.YthaoaaboempajaaW.PrintMore Go.Proofs.YthaoaaboempajaaX Go.Proofs.Ythaoaaboempajaa.QDiskRuns
set_option linter.unusedVariables false
set_option linter.unusedSimpArgs false
theorem extract_all (b : ByteArray) : b.extract 0 b.size = b := by
  apply bytesOf_inj
  rw [bytesOf_extract, List.drop_zero, Nat.sub_zero, List.take_of_length_le (by rw [bytesOf_length]; exact Nat.le_refl _)]
theorem size_up {s : St} {f : Int} (hf : f = 0 ∨ f = 1) (hd : s.d = false) : s.size f = (((seenOf s f).size : Int), 0) := by
  unfold St.size
  rw [if_pos (by rcases hf with rfl | rfl <;> decide), if_neg (by rw [hd]; decide)]
theorem size_down {s : St} {f : Int} (hf : f = 0 ∨ f = 1) (hd : s.d = true) : s.size f = (0, 2) := by
  unfold St.size
  rw [if_pos (by rcases hf with rfl | rfl <;> decide), if_pos hd]
theorem read_up {s : St} {m : Nat} (hok : s.ok m) {f : Int} (hf : f = 0 ∨ f = 1) (hd : s.d = false) : s.read f 0 ((seenOf s f).size : Int) = (seenOf s f, 0) := by
  have hs := seenOf_size hok f
  unfold maxFile at hs
  unfold St.read
  rw [if_pos (by unfold rightB; rw [decide_eq_true_iff]; omega), if_neg (by rw [hd]; decide), if_neg (by omega), Int.zero_add, Int.toNat_natCast, Int.toNat_zero, extract_all]
set_option maxHeartbeats 8000000 in
set_option maxRecDepth 100000 in
theorem files.calls {w0 w : World} {gd gr : Nat} {X : Nat → Prop} {s : St} {m : Nat} (h : LT w0 w gd gr X s s m) (hm : m ≤ 1000000) :
    Calls Try.prog 62 #[.pointer (some ⟨gd, 0, none⟩), .pointer (some ⟨gr, 0, none⟩)] w fun e w' => e = .returned (.bool true) ∧ Below w.heap.size w w' := by
  have HL := Aside0.mk h
  have HM := Aside0.mk hm
  clear h hm
  go_enter Try.func62, Try.ntmps62
  go_wp2_with (fail)
  go_loopw [5] (fun v5 wr => ∃ (j : Nat), j ≤ 2 ∧ v5 = .int .i64 (j : Int) ∧ Aside0 (Below w.heap.size w wr)) (fun v5 _ => 2 - (intOf v5).toNat)
  case atStart => exact ⟨0, Nat.zero_le _, rfl, ⟨Below.refl _ _⟩⟩
  case round =>
    obtain ⟨j, hj, rfl, HBr⟩ := hrel
    rcases (show j = 0 ∨ j = 1 ∨ j = 2 by omega) with rfl | rfl | rfl
    · go_upto_region 5 with (go_at_call 136; (refine ((HL.out.below HBr.out).seen HM.out 0 (by decide)).mono ?_); rintro e1 w1 ⟨rfl, hb1⟩; have HB1 := Aside0.mk (below_step HBr.out hb1); clear hb1)
      cases hd : s.d with
      | true =>
        have HSZ := Aside0.mk (show s.size 0 = (0, 2) from size_down (by decide) hd)
        have HDD := Aside0.mk hd
        clear hd
        go_upto_region 6 with (go_at_call 129; (refine (((HL.out.below HB1.out).size 0)).mono ?_); rw [HSZ.out]; rintro e2 w2 ⟨rfl, hb2⟩; have HB2 := Aside0.mk (below_step HB1.out hb2.below); clear hb2)
        obtain ⟨A, c, c4, -, -⟩ := (HL.out.below HB2.out).cells
        rw [HDD.out] at c4
        go_wp2_with (go_at_call 15; (refine (relstorelaw_num.calls 2 2 _ rfl).mono ?_); rintro e3 w3 ⟨rfl, hb3⟩; have HB3 := Aside0.mk (below_step HB2.out hb3.below); clear hb3)
        go_ret
        exact ⟨rfl, HB3.out⟩
      | false =>
        have HSZ := Aside0.mk (show s.size 0 = (((seenOf s 0).size : Int), 0) from size_up (by decide) hd)
        have HRD := Aside0.mk (show s.read 0 0 ((seenOf s 0).size : Int) = (seenOf s 0, 0) from read_up HL.out.ok.1 (by decide) hd)
        have HDD := Aside0.mk hd
        clear hd
        go_upto_region 6 with (go_at_call 129; (refine (((HL.out.below HB1.out).size 0)).mono ?_); rw [HSZ.out]; rintro e2 w2 ⟨rfl, hb2⟩; have HB2 := Aside0.mk (below_step HB1.out hb2.below); clear hb2)
        obtain ⟨A, c, c4, -, -⟩ := (HL.out.below HB2.out).cells
        rw [HDD.out] at c4
        go_upto_region 9 with (go_at_call 123; (refine (((HL.out.below HB2.out).read 0 0 ((seenOf s 0).size : Int))).mono ?_); rw [HRD.out]; rintro e3 w3 ⟨rfl, hb3⟩; have HB3 := Aside0.mk (below_step HB2.out hb3.below); clear hb3)
        clear c4
        go_wp2_with (go_at_call 15; (refine (relstorelaw_num.calls 0 0 _ rfl).mono ?_); rintro e4 w4 ⟨rfl, hb4⟩; replace HB3 := Aside0.mk (below_step HB3.out hb4.below); clear hb4)
        go_roundw
        case rel => exact ⟨0 + 1, by omega, by go_num, HB3⟩
        case measure => simp [intOf]
    · go_upto_region 5 with (go_at_call 136; (refine ((HL.out.below HBr.out).seen HM.out 1 (by decide)).mono ?_); rintro e1 w1 ⟨rfl, hb1⟩; have HB1 := Aside0.mk (below_step HBr.out hb1); clear hb1)
      cases hd : s.d with
      | true =>
        have HSZ := Aside0.mk (show s.size 1 = (0, 2) from size_down (by decide) hd)
        have HDD := Aside0.mk hd
        clear hd
        go_upto_region 6 with (go_at_call 129; (refine (((HL.out.below HB1.out).size 1)).mono ?_); rw [HSZ.out]; rintro e2 w2 ⟨rfl, hb2⟩; have HB2 := Aside0.mk (below_step HB1.out hb2.below); clear hb2)
        obtain ⟨A, c, c4, -, -⟩ := (HL.out.below HB2.out).cells
        rw [HDD.out] at c4
        go_wp2_with (go_at_call 15; (refine (relstorelaw_num.calls 2 2 _ rfl).mono ?_); rintro e3 w3 ⟨rfl, hb3⟩; have HB3 := Aside0.mk (below_step HB2.out hb3.below); clear hb3)
        go_ret
        exact ⟨rfl, HB3.out⟩
      | false =>
        have HSZ := Aside0.mk (show s.size 1 = (((seenOf s 1).size : Int), 0) from size_up (by decide) hd)
        have HRD := Aside0.mk (show s.read 1 0 ((seenOf s 1).size : Int) = (seenOf s 1, 0) from read_up HL.out.ok.1 (by decide) hd)
        have HDD := Aside0.mk hd
        clear hd
        go_upto_region 6 with (go_at_call 129; (refine (((HL.out.below HB1.out).size 1)).mono ?_); rw [HSZ.out]; rintro e2 w2 ⟨rfl, hb2⟩; have HB2 := Aside0.mk (below_step HB1.out hb2.below); clear hb2)
        obtain ⟨A, c, c4, -, -⟩ := (HL.out.below HB2.out).cells
        rw [HDD.out] at c4
        go_upto_region 9 with (go_at_call 123; (refine (((HL.out.below HB2.out).read 1 0 ((seenOf s 1).size : Int))).mono ?_); rw [HRD.out]; rintro e3 w3 ⟨rfl, hb3⟩; have HB3 := Aside0.mk (below_step HB2.out hb3.below); clear hb3)
        clear c4
        go_wp2_with (go_at_call 15; (refine (relstorelaw_num.calls 0 0 _ rfl).mono ?_); rintro e4 w4 ⟨rfl, hb4⟩; replace HB3 := Aside0.mk (below_step HB3.out hb4.below); clear hb4)
        go_roundw
        case rel => exact ⟨1 + 1, by omega, by go_num, HB3⟩
        case measure => simp [intOf]
    · go_wp2_with (fail)
      go_ret
      exact ⟨rfl, HBr.out⟩
end Go.Proofs.Ythaoaaboempajaa.Disk
namespace Go.Proofs.Ythaoaaboempajaa.Disk
open Go.RowKit Go.Proofs.YthaoaaboempajaaW.PrintWords Go.Proofs.YthaoaaboempajaaW.PrintLast Go.Proofs.YthaoaaboempajaaW.PrintMore Go.Proofs.YthaoaaboempajaaX Go.Proofs.Ythaoaaboempajaa.QDiskRuns
set_option linter.unusedVariables false
set_option linter.unusedSimpArgs false
def acells (k F A N : Int) (S T : ByteArray) (vk vc : Value) : Array Value := #[.int .i64 k, .int .i64 F, .int .i64 A, .int .i64 N, .string S, .string T, vk, vc]
structure LB (w0 : World) (gd gr gb : Nat) (k F A N : Int) (S T : ByteArray) (vk vc : Value) (s1 s2 : St) (m : Nat) (w : World) : Prop where
  lt : LT w0 w gd gr (fun k => k = gb) s1 s2 m
  bx : w.heap[gb]? = some (.cells (acells k F A N S T vk vc) 77 (0, 0))
section
variable {w0 w w' : World} {gd gr gb m n : Nat} {k F A N : Int} {S T : ByteArray} {vk vc : Value} {s1 s2 s1' s2' : St}
theorem LB.below (h : LB w0 gd gr gb k F A N S T vk vc s1 s2 m w) (hb : Below w.heap.size w w') : LB w0 gd gr gb k F A N S T vk vc s1 s2 m w' := ⟨h.lt.below hb, blk_below h.bx hb⟩
theorem LB.drew (h : LB w0 gd gr gb k F A N S T vk vc s1 s2 m w) : LB w0 gd gr gb k F A N S T vk vc s1 s2 m w.drew := h.below (below_drew (Below.refl _ w))
theorem LB.to (h : LB w0 gd gr gb k F A N S T vk vc s1 s2 m w) (ht : LT w0 w' gd gr (fun k => k = gb) s1' s2' n) (hs : Same (fun k => k = gb) w w') : LB w0 gd gr gb k F A N S T vk vc s1' s2' n w' := ⟨ht, (hs gb rfl).trans h.bx⟩
theorem LB.held (h : LB w0 gd gr gb k F A N S T vk vc s1 s2 m w) : w.cell? ⟨gb, 1, none⟩ = some (.int .i64 F) ∧ w.cell? ⟨gb, 2, none⟩ = some (.int .i64 A) ∧ w.cell? ⟨gb, 3, none⟩ = some (.int .i64 N) ∧ w.cell? ⟨gb, 4, none⟩ = some (.string S) ∧ w.cell? ⟨gb, 6, none⟩ = some vk :=
  ⟨(blk_cell h.bx 1).trans rfl, (blk_cell h.bx 2).trans rfl, (blk_cell h.bx 3).trans rfl, (blk_cell h.bx 4).trans rfl, (blk_cell h.bx 6).trans rfl⟩
end
theorem same_l0 (l : List Int) (hl : l.length ≤ 17592186043904) : ∀ (d j : Nat), j + d = l.length → ∀ k, d < k → relstorelaw_sameInts.l0 k l l (l.length : Int) (j : Int) = some true
  | 0, j, h, k, hk => by
    obtain ⟨k, rfl⟩ : ∃ n, k = n + 1 := ⟨k - 1, by omega⟩
    unfold relstorelaw_sameInts.l0
    rw [if_neg (by omega)]
  | d + 1, j, h, k, hk => by
    obtain ⟨k, rfl⟩ : ∃ n, k = n + 1 := ⟨k - 1, by omega⟩
    unfold relstorelaw_sameInts.l0
    rw [if_pos (by omega), if_pos (by omega), if_pos (by omega), if_pos (by omega), if_pos rfl, show wrap64 ((j : Int) + 1) = ((j + 1 : Nat) : Int) by unfold wrap64; omega]
    exact same_l0 l hl d (j + 1) (by omega) k (by omega)
theorem sameInts_is (l : List Int) (hl : l.length ≤ 17592186043904) : relstorelaw_sameInts.f (l.length + 1) l l = some true := by
  unfold relstorelaw_sameInts.f
  rw [if_pos rfl]
  exact same_l0 l hl l.length 0 (by omega) _ (by omega)
theorem info3 : (Try.prog.info? 3).map (fun i => (i.zero, i.size, i.bytes)) = some (some (.int .i64 0), 1, 8) := by kernel_rfl
set_option maxHeartbeats 8000000 in
set_option maxRecDepth 100000 in
theorem disks.calls1 {w0 w : World} {gd gr : Nat} {s : St} {m : Nat} (k F A N : Int) (S T : ByteArray) (Ak : Option Addr) (ck : Nat) (keep : List Int) (vc : Value) (h : LT w0 w gd gr (fun _ => False) s s m) (hm : m ≤ 100000)
    (hN : N < 9223372036854775808) (hk : (Kd.int .i64).C w0 Ak keep.length keep) (hkc : keep.length ≤ ck) (hkl : keep.length ≤ 17592186043904) :
    Calls Try.prog 61 #[.pointer (some ⟨gd, 0, none⟩), .pointer (some ⟨gr, 0, none⟩), .agg #[.int .i64 1, .int .i64 F, .int .i64 A, .int .i64 N, .string S, .string T, .slice Ak keep.length ck, vc]] w fun e w' => e = .returned (.bool true) ∧ ∃ s', LT w0 w' gd gr (fun _ => False) s' s' (m + 2) := by
  have H := Aside0.mk h
  have HM := Aside0.mk (show m ≤ 1000000 by omega)
  have HM1 := Aside0.mk (show m + 1 ≤ 1000000 by omega)
  have HN := Aside0.mk hN
  have HKP := Aside0.mk hk
  have HKC := Aside0.mk hkc
  have HKL := Aside0.mk hkl
  clear h hm hN hk hkc hkl
  go_enter Try.func61, Try.ntmps61
  go_upto_region 1 with ((with_reducible refine gate_dst (N := 5) rfl ?_); refine box_event ?hg (N := 5) ?hd (cs := acells 1 F A N S T (.slice Ak keep.length ck) vc) (t := 77) ?hr ?_; (case hd => rfl); (case hg => rfl); (case hr => first | (go_simp; done) | (go_simp; rfl)); intro gb hgb w1 hbox hb; have T0 := Aside0.mk (LB.mk (H.out.more hb (Y := fun k => k = gb) (fun k hk => ⟨.inr (by rw [hk, hgb]; exact Nat.le_refl _), by rw [hk]; exact blk_lt hbox⟩)) hbox); clear hgb hbox hb)
  have k0 : w1.cell? ⟨gb, 0, none⟩ = some (.int .i64 1) := (blk_cell T0.out.bx 0).trans rfl
  have k6 : w1.cell? ⟨gb, 6, none⟩ = some (.slice Ak keep.length ck) := T0.out.held.2.2.2.2
  obtain ⟨k1, k2, k3, k4, -⟩ := T0.out.held
  go_upto_region 4 with (go_at_call 123; (refine (T0.out.lt.read F A N).mono ?_); rintro e2 w2 ⟨rfl, hd2⟩; have T1 := Aside0.mk (T0.out.below hd2.below); clear hd2)
  clear k0 k1 k2 k3 k4 k6
  obtain ⟨k1, k2, k3, k4, k6⟩ := T1.out.held
  go_upto_region 5 with (go_at_call 124; (refine (T1.out.lt.rread HM.out F A N).mono ?_); rintro e3 w3 ⟨rfl, hb3⟩; have T2 := Aside0.mk (T1.out.below hb3); clear hb3)
  clear k1 k2 k3 k4 k6
  go_wp2_with (go_at_call 15; (refine (relstorelaw_num.calls (s.read F A N).2 (s.read F A N).2 _ rfl).mono ?_); rintro e4 w4 ⟨rfl, hb4⟩; have T3 := Aside0.mk (T2.out.below hb4.below); clear hb4)
  go_ret
  exact ⟨rfl, s, (T3.out.lt.less (fun _ h => h.elim)).up (Nat.le_add_right m 2)⟩
set_option maxHeartbeats 8000000 in
set_option maxRecDepth 100000 in
theorem disks.calls2 {w0 w : World} {gd gr : Nat} {s : St} {m : Nat} (k F A N : Int) (S T : ByteArray) (Ak : Option Addr) (ck : Nat) (keep : List Int) (vc : Value) (h : LT w0 w gd gr (fun _ => False) s s m) (hm : m ≤ 100000)
    (hN : N < 9223372036854775808) (hk : (Kd.int .i64).C w0 Ak keep.length keep) (hkc : keep.length ≤ ck) (hkl : keep.length ≤ 17592186043904) :
    Calls Try.prog 61 #[.pointer (some ⟨gd, 0, none⟩), .pointer (some ⟨gr, 0, none⟩), .agg #[.int .i64 2, .int .i64 F, .int .i64 A, .int .i64 N, .string S, .string T, .slice Ak keep.length ck, vc]] w fun e w' => e = .returned (.bool true) ∧ ∃ s', LT w0 w' gd gr (fun _ => False) s' s' (m + 2) := by
  have H := Aside0.mk h
  have HM := Aside0.mk (show m ≤ 1000000 by omega)
  have HM1 := Aside0.mk (show m + 1 ≤ 1000000 by omega)
  have HN := Aside0.mk hN
  have HKP := Aside0.mk hk
  have HKC := Aside0.mk hkc
  have HKL := Aside0.mk hkl
  clear h hm hN hk hkc hkl
  go_enter Try.func61, Try.ntmps61
  go_upto_region 1 with ((with_reducible refine gate_dst (N := 5) rfl ?_); refine box_event ?hg (N := 5) ?hd (cs := acells 2 F A N S T (.slice Ak keep.length ck) vc) (t := 77) ?hr ?_; (case hd => rfl); (case hg => rfl); (case hr => first | (go_simp; done) | (go_simp; rfl)); intro gb hgb w1 hbox hb; have T0 := Aside0.mk (LB.mk (H.out.more hb (Y := fun k => k = gb) (fun k hk => ⟨.inr (by rw [hk, hgb]; exact Nat.le_refl _), by rw [hk]; exact blk_lt hbox⟩)) hbox); clear hgb hbox hb)
  have k0 : w1.cell? ⟨gb, 0, none⟩ = some (.int .i64 2) := (blk_cell T0.out.bx 0).trans rfl
  have k6 : w1.cell? ⟨gb, 6, none⟩ = some (.slice Ak keep.length ck) := T0.out.held.2.2.2.2
  obtain ⟨k1, k2, k3, k4, -⟩ := T0.out.held
  go_upto_region 7 with (fail)
  clear k0 k1 k2 k3 k4 k6
  go_region_held3 (fun w' => w'.cell? ⟨gb, 1, none⟩ = some (.int .i64 F) ∧ w'.cell? ⟨gb, 2, none⟩ = some (.int .i64 A) ∧ w'.cell? ⟨gb, 3, none⟩ = some (.int .i64 N) ∧ w'.cell? ⟨gb, 4, none⟩ = some (.string S) ∧ w'.cell? ⟨gb, 6, none⟩ = some (.slice Ak keep.length ck)) (first | exact T3.out.held | exact T2.out.held | exact T1.out.held | exact T0.out.drew.held)
    (first
    | (have T3 := Aside0.mk T2.out; go_at_call 126; (refine (T2.out.lt.rwrite HM1.out F A S).mono ?_); rintro e4 w4 ⟨rfl, ht, hs, hz⟩; replace T3 := Aside0.mk (T2.out.to (ht.up (Nat.le_refl _)) hs); clear ht hs hz)
    | (have T2 := Aside0.mk T1.out; go_at_call 15; (refine (relstorelaw_num.calls (s.write F A S).1 (s.write F A S).1 _ rfl).mono ?_); rintro e3 w3 ⟨rfl, hb3⟩; replace T2 := Aside0.mk (T1.out.below hb3.below); clear hb3)
    | (have T1 := Aside0.mk T0.out.drew; go_at_call 125; (refine (T0.out.drew.lt.write HM.out F A S).mono ?_); rintro e2 w2 ⟨rfl, ht, hs, hz⟩; replace T1 := Aside0.mk (T0.out.drew.to ht hs); clear ht hs hz))
  go_wp2_with (fail)
  go_ret
  exact ⟨rfl, _, T3.out.lt.less (fun _ h => h.elim)⟩
set_option maxHeartbeats 8000000 in
set_option maxRecDepth 100000 in
theorem disks.calls3 {w0 w : World} {gd gr : Nat} {s : St} {m : Nat} (k F A N : Int) (S T : ByteArray) (Ak : Option Addr) (ck : Nat) (keep : List Int) (vc : Value) (h : LT w0 w gd gr (fun _ => False) s s m) (hm : m ≤ 100000)
    (hN : N < 9223372036854775808) (hk : (Kd.int .i64).C w0 Ak keep.length keep) (hkc : keep.length ≤ ck) (hkl : keep.length ≤ 17592186043904) :
    Calls Try.prog 61 #[.pointer (some ⟨gd, 0, none⟩), .pointer (some ⟨gr, 0, none⟩), .agg #[.int .i64 3, .int .i64 F, .int .i64 A, .int .i64 N, .string S, .string T, .slice Ak keep.length ck, vc]] w fun e w' => e = .returned (.bool true) ∧ ∃ s', LT w0 w' gd gr (fun _ => False) s' s' (m + 2) := by
  have H := Aside0.mk h
  have HM := Aside0.mk (show m ≤ 1000000 by omega)
  have HM1 := Aside0.mk (show m + 1 ≤ 1000000 by omega)
  have HN := Aside0.mk hN
  have HKP := Aside0.mk hk
  have HKC := Aside0.mk hkc
  have HKL := Aside0.mk hkl
  clear h hm hN hk hkc hkl
  go_enter Try.func61, Try.ntmps61
  go_upto_region 1 with ((with_reducible refine gate_dst (N := 5) rfl ?_); refine box_event ?hg (N := 5) ?hd (cs := acells 3 F A N S T (.slice Ak keep.length ck) vc) (t := 77) ?hr ?_; (case hd => rfl); (case hg => rfl); (case hr => first | (go_simp; done) | (go_simp; rfl)); intro gb hgb w1 hbox hb; have T0 := Aside0.mk (LB.mk (H.out.more hb (Y := fun k => k = gb) (fun k hk => ⟨.inr (by rw [hk, hgb]; exact Nat.le_refl _), by rw [hk]; exact blk_lt hbox⟩)) hbox); clear hgb hbox hb)
  have k0 : w1.cell? ⟨gb, 0, none⟩ = some (.int .i64 3) := (blk_cell T0.out.bx 0).trans rfl
  have k6 : w1.cell? ⟨gb, 6, none⟩ = some (.slice Ak keep.length ck) := T0.out.held.2.2.2.2
  obtain ⟨k1, k2, k3, k4, -⟩ := T0.out.held
  go_upto_region 9 with (fail)
  clear k0 k1 k2 k3 k4 k6
  go_region_held3 (fun w' => w'.cell? ⟨gb, 1, none⟩ = some (.int .i64 F) ∧ w'.cell? ⟨gb, 2, none⟩ = some (.int .i64 A) ∧ w'.cell? ⟨gb, 3, none⟩ = some (.int .i64 N) ∧ w'.cell? ⟨gb, 4, none⟩ = some (.string S) ∧ w'.cell? ⟨gb, 6, none⟩ = some (.slice Ak keep.length ck)) (first | exact T3.out.held | exact T2.out.held | exact T1.out.held | exact T0.out.drew.held)
    (first
    | (have T3 := Aside0.mk T2.out; go_at_call 128; (refine (T2.out.lt.rcut HM1.out F A).mono ?_); rintro e4 w4 ⟨rfl, ht, hs, hz⟩; replace T3 := Aside0.mk (T2.out.to (ht.up (Nat.le_refl _)) hs); clear ht hs hz)
    | (have T2 := Aside0.mk T1.out; go_at_call 15; (refine (relstorelaw_num.calls (s.cutTo F A).1 (s.cutTo F A).1 _ rfl).mono ?_); rintro e3 w3 ⟨rfl, hb3⟩; replace T2 := Aside0.mk (T1.out.below hb3.below); clear hb3)
    | (have T1 := Aside0.mk T0.out.drew; go_at_call 127; (refine (T0.out.drew.lt.cut HM.out F A).mono ?_); rintro e2 w2 ⟨rfl, ht, hs, hz⟩; replace T1 := Aside0.mk (T0.out.drew.to ht hs); clear ht hs hz))
  go_wp2_with (fail)
  go_ret
  exact ⟨rfl, _, T3.out.lt.less (fun _ h => h.elim)⟩
set_option maxHeartbeats 8000000 in
set_option maxRecDepth 100000 in
theorem disks.calls4 {w0 w : World} {gd gr : Nat} {s : St} {m : Nat} (k F A N : Int) (S T : ByteArray) (Ak : Option Addr) (ck : Nat) (keep : List Int) (vc : Value) (h : LT w0 w gd gr (fun _ => False) s s m) (hm : m ≤ 100000)
    (hN : N < 9223372036854775808) (hk : (Kd.int .i64).C w0 Ak keep.length keep) (hkc : keep.length ≤ ck) (hkl : keep.length ≤ 17592186043904) :
    Calls Try.prog 61 #[.pointer (some ⟨gd, 0, none⟩), .pointer (some ⟨gr, 0, none⟩), .agg #[.int .i64 4, .int .i64 F, .int .i64 A, .int .i64 N, .string S, .string T, .slice Ak keep.length ck, vc]] w fun e w' => e = .returned (.bool true) ∧ ∃ s', LT w0 w' gd gr (fun _ => False) s' s' (m + 2) := by
  have H := Aside0.mk h
  have HM := Aside0.mk (show m ≤ 1000000 by omega)
  have HM1 := Aside0.mk (show m + 1 ≤ 1000000 by omega)
  have HN := Aside0.mk hN
  have HKP := Aside0.mk hk
  have HKC := Aside0.mk hkc
  have HKL := Aside0.mk hkl
  clear h hm hN hk hkc hkl
  go_enter Try.func61, Try.ntmps61
  go_upto_region 1 with ((with_reducible refine gate_dst (N := 5) rfl ?_); refine box_event ?hg (N := 5) ?hd (cs := acells 4 F A N S T (.slice Ak keep.length ck) vc) (t := 77) ?hr ?_; (case hd => rfl); (case hg => rfl); (case hr => first | (go_simp; done) | (go_simp; rfl)); intro gb hgb w1 hbox hb; have T0 := Aside0.mk (LB.mk (H.out.more hb (Y := fun k => k = gb) (fun k hk => ⟨.inr (by rw [hk, hgb]; exact Nat.le_refl _), by rw [hk]; exact blk_lt hbox⟩)) hbox); clear hgb hbox hb)
  have k0 : w1.cell? ⟨gb, 0, none⟩ = some (.int .i64 4) := (blk_cell T0.out.bx 0).trans rfl
  have k6 : w1.cell? ⟨gb, 6, none⟩ = some (.slice Ak keep.length ck) := T0.out.held.2.2.2.2
  obtain ⟨k1, k2, k3, k4, -⟩ := T0.out.held
  go_upto_region 12 with (go_at_call 129; (refine (T0.out.lt.size F).mono ?_); rintro e2 w2 ⟨rfl, hd2⟩; have T1 := Aside0.mk (T0.out.below hd2.below); clear hd2)
  clear k0 k1 k2 k3 k4 k6
  obtain ⟨k1, k2, k3, k4, k6⟩ := T1.out.held
  go_upto_region 13 with (go_at_call 130; (refine (T1.out.lt.rsize HM.out F).mono ?_); rintro e3 w3 ⟨rfl, hb3⟩; have T2 := Aside0.mk (T1.out.below hb3); clear hb3)
  clear k1 k2 k3 k4 k6
  go_wp2_with (go_at_call 15; (refine (relstorelaw_num.calls (s.size F).2 (s.size F).2 _ rfl).mono ?_); rintro e4 w4 ⟨rfl, hb4⟩; have T3 := Aside0.mk (T2.out.below hb4.below); clear hb4)
  go_ret
  exact ⟨rfl, s, (T3.out.lt.less (fun _ h => h.elim)).up (Nat.le_add_right m 2)⟩
set_option maxHeartbeats 8000000 in
set_option maxRecDepth 100000 in
theorem disks.calls5 {w0 w : World} {gd gr : Nat} {s : St} {m : Nat} (k F A N : Int) (S T : ByteArray) (Ak : Option Addr) (ck : Nat) (keep : List Int) (vc : Value) (h : LT w0 w gd gr (fun _ => False) s s m) (hm : m ≤ 100000)
    (hN : N < 9223372036854775808) (hk : (Kd.int .i64).C w0 Ak keep.length keep) (hkc : keep.length ≤ ck) (hkl : keep.length ≤ 17592186043904) :
    Calls Try.prog 61 #[.pointer (some ⟨gd, 0, none⟩), .pointer (some ⟨gr, 0, none⟩), .agg #[.int .i64 5, .int .i64 F, .int .i64 A, .int .i64 N, .string S, .string T, .slice Ak keep.length ck, vc]] w fun e w' => e = .returned (.bool true) ∧ ∃ s', LT w0 w' gd gr (fun _ => False) s' s' (m + 2) := by
  have H := Aside0.mk h
  have HM := Aside0.mk (show m ≤ 1000000 by omega)
  have HM1 := Aside0.mk (show m + 1 ≤ 1000000 by omega)
  have HN := Aside0.mk hN
  have HKP := Aside0.mk hk
  have HKC := Aside0.mk hkc
  have HKL := Aside0.mk hkl
  clear h hm hN hk hkc hkl
  go_enter Try.func61, Try.ntmps61
  go_upto_region 1 with ((with_reducible refine gate_dst (N := 5) rfl ?_); refine box_event ?hg (N := 5) ?hd (cs := acells 5 F A N S T (.slice Ak keep.length ck) vc) (t := 77) ?hr ?_; (case hd => rfl); (case hg => rfl); (case hr => first | (go_simp; done) | (go_simp; rfl)); intro gb hgb w1 hbox hb; have T0 := Aside0.mk (LB.mk (H.out.more hb (Y := fun k => k = gb) (fun k hk => ⟨.inr (by rw [hk, hgb]; exact Nat.le_refl _), by rw [hk]; exact blk_lt hbox⟩)) hbox); clear hgb hbox hb)
  have k0 : w1.cell? ⟨gb, 0, none⟩ = some (.int .i64 5) := (blk_cell T0.out.bx 0).trans rfl
  have k6 : w1.cell? ⟨gb, 6, none⟩ = some (.slice Ak keep.length ck) := T0.out.held.2.2.2.2
  obtain ⟨k1, k2, k3, k4, -⟩ := T0.out.held
  go_upto_region 15 with (fail)
  clear k0 k1 k2 k3 k4 k6
  go_region_held3 (fun w' => w'.cell? ⟨gb, 1, none⟩ = some (.int .i64 F) ∧ w'.cell? ⟨gb, 2, none⟩ = some (.int .i64 A) ∧ w'.cell? ⟨gb, 3, none⟩ = some (.int .i64 N) ∧ w'.cell? ⟨gb, 4, none⟩ = some (.string S) ∧ w'.cell? ⟨gb, 6, none⟩ = some (.slice Ak keep.length ck)) (first | exact T3.out.held | exact T2.out.held | exact T1.out.held | exact T0.out.drew.held)
    (first
    | (have T3 := Aside0.mk T2.out; go_at_call 132; (refine (T2.out.lt.rsync HM1.out F).mono ?_); rintro e4 w4 ⟨rfl, ht, hs, hz⟩; replace T3 := Aside0.mk (T2.out.to (ht.up (Nat.le_refl _)) hs); clear ht hs hz)
    | (have T2 := Aside0.mk T1.out; go_at_call 15; (refine (relstorelaw_num.calls (s.sync F).1 (s.sync F).1 _ rfl).mono ?_); rintro e3 w3 ⟨rfl, hb3⟩; replace T2 := Aside0.mk (T1.out.below hb3.below); clear hb3)
    | (have T1 := Aside0.mk T0.out.drew; go_at_call 131; (refine (T0.out.drew.lt.sync HM.out F).mono ?_); rintro e2 w2 ⟨rfl, ht, hs, hz⟩; replace T1 := Aside0.mk (T0.out.drew.to ht hs); clear ht hs hz))
  go_wp2_with (fail)
  go_ret
  exact ⟨rfl, _, T3.out.lt.less (fun _ h => h.elim)⟩
set_option maxHeartbeats 8000000 in
set_option maxRecDepth 100000 in
theorem disks.calls6 {w0 w : World} {gd gr : Nat} {s : St} {m : Nat} (k F A N : Int) (S T : ByteArray) (Ak : Option Addr) (ck : Nat) (keep : List Int) (vc : Value) (h : LT w0 w gd gr (fun _ => False) s s m) (hm : m ≤ 100000)
    (hN : N < 9223372036854775808) (hk : (Kd.int .i64).C w0 Ak keep.length keep) (hkc : keep.length ≤ ck) (hkl : keep.length ≤ 17592186043904) :
    Calls Try.prog 61 #[.pointer (some ⟨gd, 0, none⟩), .pointer (some ⟨gr, 0, none⟩), .agg #[.int .i64 6, .int .i64 F, .int .i64 A, .int .i64 N, .string S, .string T, .slice Ak keep.length ck, vc]] w fun e w' => e = .returned (.bool true) ∧ ∃ s', LT w0 w' gd gr (fun _ => False) s' s' (m + 2) := by
  have H := Aside0.mk h
  have HM := Aside0.mk (show m ≤ 1000000 by omega)
  have HM1 := Aside0.mk (show m + 1 ≤ 1000000 by omega)
  have HN := Aside0.mk hN
  have HKP := Aside0.mk hk
  have HKC := Aside0.mk hkc
  have HKL := Aside0.mk hkl
  clear h hm hN hk hkc hkl
  go_enter Try.func61, Try.ntmps61
  go_upto_region 1 with ((with_reducible refine gate_dst (N := 5) rfl ?_); refine box_event ?hg (N := 5) ?hd (cs := acells 6 F A N S T (.slice Ak keep.length ck) vc) (t := 77) ?hr ?_; (case hd => rfl); (case hg => rfl); (case hr => first | (go_simp; done) | (go_simp; rfl)); intro gb hgb w1 hbox hb; have T0 := Aside0.mk (LB.mk (H.out.more hb (Y := fun k => k = gb) (fun k hk => ⟨.inr (by rw [hk, hgb]; exact Nat.le_refl _), by rw [hk]; exact blk_lt hbox⟩)) hbox); clear hgb hbox hb)
  have k0 : w1.cell? ⟨gb, 0, none⟩ = some (.int .i64 6) := (blk_cell T0.out.bx 0).trans rfl
  have k6 : w1.cell? ⟨gb, 6, none⟩ = some (.slice Ak keep.length ck) := T0.out.held.2.2.2.2
  obtain ⟨k1, k2, k3, k4, -⟩ := T0.out.held
  go_upto_region 18 with (go_at_call 64; (refine (T0.out.lt.fail N HN.out).mono ?_); rintro e2 w2 ⟨rfl, ht, hs, hz⟩; have T1 := Aside0.mk (T0.out.to ht hs); clear ht hs hz)
  clear k0 k1 k2 k3 k4 k6
  obtain ⟨k1, k2, k3, k4, k6⟩ := T1.out.held
  go_upto_region 25 with (go_at_call 84; (refine (T1.out.lt.rfail N HN.out).mono ?_); rintro e3 w3 ⟨rfl, ht, hs, hz⟩; have T9 := Aside0.mk ht; clear ht hs hz)
  clear k1 k2 k3 k4 k6
  go_upto_region 25 with (fail)
  obtain ⟨A_, c_, p4, p5, p2⟩ := T9.out.cells
  go_quiet (first
    | (go_at_call 72; exact Calls.quiet_of_same ((T9.out.drewN _).down))
    | (go_at_call 134; exact Calls.quiet_of_same ((T9.out.drewN _).count))
    | (go_at_call 135; exact Calls.quiet_of_same ((T9.out.drewN _).waits)))
  go_wp2_with (fail)
  go_ret
  exact ⟨rfl, _, ((T9.out.drewN _).less (fun _ h => h.elim)).up (by omega)⟩
set_option maxHeartbeats 8000000 in
set_option maxRecDepth 100000 in
theorem disks.calls7 {w0 w : World} {gd gr : Nat} {s : St} {m : Nat} (k F A N : Int) (S T : ByteArray) (Ak : Option Addr) (ck : Nat) (keep : List Int) (vc : Value) (h : LT w0 w gd gr (fun _ => False) s s m) (hm : m ≤ 100000)
    (hN : N < 9223372036854775808) (hk : (Kd.int .i64).C w0 Ak keep.length keep) (hkc : keep.length ≤ ck) (hkl : keep.length ≤ 17592186043904) :
    Calls Try.prog 61 #[.pointer (some ⟨gd, 0, none⟩), .pointer (some ⟨gr, 0, none⟩), .agg #[.int .i64 7, .int .i64 F, .int .i64 A, .int .i64 N, .string S, .string T, .slice Ak keep.length ck, vc]] w fun e w' => e = .returned (.bool true) ∧ ∃ s', LT w0 w' gd gr (fun _ => False) s' s' (m + 2) := by
  have H := Aside0.mk h
  have HM := Aside0.mk (show m ≤ 1000000 by omega)
  have HM1 := Aside0.mk (show m + 1 ≤ 1000000 by omega)
  have HN := Aside0.mk hN
  have HKP := Aside0.mk hk
  have HKC := Aside0.mk hkc
  have HKL := Aside0.mk hkl
  clear h hm hN hk hkc hkl
  go_enter Try.func61, Try.ntmps61
  go_upto_region 1 with ((with_reducible refine gate_dst (N := 5) rfl ?_); refine box_event ?hg (N := 5) ?hd (cs := acells 7 F A N S T (.slice Ak keep.length ck) vc) (t := 77) ?hr ?_; (case hd => rfl); (case hg => rfl); (case hr => first | (go_simp; done) | (go_simp; rfl)); intro gb hgb w1 hbox hb; have T0 := Aside0.mk (LB.mk (H.out.more hb (Y := fun k => k = gb) (fun k hk => ⟨.inr (by rw [hk, hgb]; exact Nat.le_refl _), by rw [hk]; exact blk_lt hbox⟩)) hbox); clear hgb hbox hb)
  have k0 : w1.cell? ⟨gb, 0, none⟩ = some (.int .i64 7) := (blk_cell T0.out.bx 0).trans rfl
  have k6 : w1.cell? ⟨gb, 6, none⟩ = some (.slice Ak keep.length ck) := T0.out.held.2.2.2.2
  obtain ⟨k1, k2, k3, k4, -⟩ := T0.out.held
  have hl_ := HKL.out
  have HRC := Aside0.mk (HKC.out)
  have HKR := Aside0.mk (Kd.C_below HKP.out T0.out.lt.hB)
  go_upto_region 21 with ((with_reducible refine gate_builtin (b := .append) (xs := #[.const (.slice none 0 0), .tmp 137]) rfl ?_); at_builtin; refine Kd.R_append_rows (Kd.int .i64) (Rr := (Kd.int .i64).K w1) (W := w1) (w0 := w1) w1.heap.size rfl _ _ 75 3 (.int .i64 0) 8 rfl Try.underlying75 info3 rfl (by decide) (by omega) (.slice none 0 0) [] keep Ak keep.length ck (fun k => w1.heap.size ≤ k) (fun _ => False) rfl rfl (Kd.R_nil _ _ _ _ _) HKR.out (fun _ _ h => h) (fun _ hk => hk.elim) (fun k hk => hk) (Below.refl _ _) (Nat.le_refl _) (by simp; omega) ?_; intro v1 w2 ho hb hgr hat; obtain ⟨A5, c5, e5⟩ := Kd.R_slice ho; rw [List.nil_append] at e5 ho; subst e5; have HV := Aside0.mk (Kd.R_mono (Kd.R_bound ho) (ok' := fun k => k = gb ∨ (w1.heap.size ≤ k ∧ k < w2.heap.size)) (fun k hk => .inr ⟨hk.2.1, hk.2.2.1⟩)); have HB2 := Aside0.mk hb; clear ho hb hgr hat)
  have B2 := Aside0.mk (blk_below T0.out.bx HB2.out)
  have T1 := Aside0.mk (T0.out.lt.more HB2.out (Y := fun k => k = gb ∨ (w1.heap.size ≤ k ∧ k < w2.heap.size)) (fun k hk => by
    rcases hk with hk | hk
    · exact ⟨.inl hk, by rw [hk]; exact Nat.lt_of_lt_of_le (blk_lt T0.out.bx) HB2.out.size⟩
    · exact ⟨.inr hk.1, hk.2⟩))
  have HCK := Aside0.mk (Kd.R_reads' HV.out).2.1
  clear k0 k1 k2 k3 k4 k6 HKR
  go_upto_region 22 with (go_at_call 73; (refine (T1.out.crash HM.out A5 c5 keep (Kd.C_kept_own HV.out (fun k hk hs => hs.2 hk)) (by omega)).mono ?_); rintro e3 w3 ⟨rfl, ht, hs, hz⟩; have T2 := Aside0.mk ht; have B3 := Aside0.mk ((hs gb (.inl rfl)).trans B2.out); have HV3 := Aside0.mk (Kd.R_step HV.out (fun k hk _ => hs k hk)); clear ht hs hz)
  have k6 : w3.cell? ⟨gb, 6, none⟩ = some (.slice Ak keep.length ck) := (blk_cell B3.out 6).trans rfl
  go_upto_region 23 with (go_at_call 85; (refine (T2.out.rcrash HM.out Ak ck keep (Kd.C_kept_came (Kd.heap_int .i64) HKP.out T2.out.hB (fun k hk => hk.1)) (by omega)).mono ?_); rintro e4 w4 ⟨rfl, ht, hs, hz⟩; have T3 := Aside0.mk ht; have B4 := Aside0.mk ((hs gb (.inl rfl)).trans B3.out); have HV4 := Aside0.mk (Kd.R_step HV3.out (fun k hk _ => hs k hk)); clear ht hs hz)
  clear k6
  have k6 : w4.cell? ⟨gb, 6, none⟩ = some (.slice Ak keep.length ck) := (blk_cell B4.out 6).trans rfl
  go_upto_region 25 with (go_at_call 133; (refine (relstorelaw_sameInts.calls (keep.length + 1) A5 c5 keep Ak ck keep true _ (Kd.R_reads' HV4.out).2.2 HCK.out (Kd.C_below HKP.out T3.out.hB) HRC.out (sameInts_is keep (by omega))).mono ?_); rintro e5 w5 ⟨rfl, hd5⟩; have T9 := Aside0.mk (T3.out.below hd5.below); clear hd5)
  clear k6 hl_
  go_upto_region 25 with (fail)
  obtain ⟨A_, c_, p4, p5, p2⟩ := T9.out.cells
  go_quiet (first
    | (go_at_call 72; exact Calls.quiet_of_same ((T9.out.drewN _).down))
    | (go_at_call 134; exact Calls.quiet_of_same ((T9.out.drewN _).count))
    | (go_at_call 135; exact Calls.quiet_of_same ((T9.out.drewN _).waits)))
  go_wp2_with (fail)
  go_ret
  exact ⟨rfl, _, ((T9.out.drewN _).less (fun _ h => h.elim)).up (by omega)⟩
set_option maxHeartbeats 8000000 in
set_option maxRecDepth 100000 in
theorem disks.calls8 {w0 w : World} {gd gr : Nat} {s : St} {m : Nat} (k F A N : Int) (S T : ByteArray) (Ak : Option Addr) (ck : Nat) (keep : List Int) (vc : Value) (h : LT w0 w gd gr (fun _ => False) s s m) (hm : m ≤ 100000)
    (hN : N < 9223372036854775808) (hk : (Kd.int .i64).C w0 Ak keep.length keep) (hkc : keep.length ≤ ck) (hkl : keep.length ≤ 17592186043904) (hkk : k ≠ 1 ∧ k ≠ 2 ∧ k ≠ 3 ∧ k ≠ 4 ∧ k ≠ 5 ∧ k ≠ 6 ∧ k ≠ 7) :
    Calls Try.prog 61 #[.pointer (some ⟨gd, 0, none⟩), .pointer (some ⟨gr, 0, none⟩), .agg #[.int .i64 k, .int .i64 F, .int .i64 A, .int .i64 N, .string S, .string T, .slice Ak keep.length ck, vc]] w fun e w' => e = .returned (.bool true) ∧ ∃ s', LT w0 w' gd gr (fun _ => False) s' s' (m + 2) := by
  have H := Aside0.mk h
  have HM := Aside0.mk (show m ≤ 1000000 by omega)
  have HM1 := Aside0.mk (show m + 1 ≤ 1000000 by omega)
  have HN := Aside0.mk hN
  have HKP := Aside0.mk hk
  have HKC := Aside0.mk hkc
  have HKL := Aside0.mk hkl
  obtain ⟨g1_, g2_, g3_, g4_, g5_, g6_, g7_⟩ := hkk
  have e1_ : (k == 1) = false := beq_false g1_
  have e2_ : (k == 2) = false := beq_false g2_
  have e3_ : (k == 3) = false := beq_false g3_
  have e4_ : (k == 4) = false := beq_false g4_
  have e5_ : (k == 5) = false := beq_false g5_
  have e6_ : (k == 6) = false := beq_false g6_
  have e7_ : (k == 7) = false := beq_false g7_
  clear g1_ g2_ g3_ g4_ g5_ g6_ g7_
  clear h hm hN hk hkc hkl
  go_enter Try.func61, Try.ntmps61
  go_upto_region 1 with ((with_reducible refine gate_dst (N := 5) rfl ?_); refine box_event ?hg (N := 5) ?hd (cs := acells k F A N S T (.slice Ak keep.length ck) vc) (t := 77) ?hr ?_; (case hd => rfl); (case hg => rfl); (case hr => first | (go_simp; done) | (go_simp; rfl)); intro gb hgb w1 hbox hb; have T0 := Aside0.mk (LB.mk (H.out.more hb (Y := fun k => k = gb) (fun k hk => ⟨.inr (by rw [hk, hgb]; exact Nat.le_refl _), by rw [hk]; exact blk_lt hbox⟩)) hbox); clear hgb hbox hb)
  have k0 : w1.cell? ⟨gb, 0, none⟩ = some (.int .i64 k) := (blk_cell T0.out.bx 0).trans rfl
  have k6 : w1.cell? ⟨gb, 6, none⟩ = some (.slice Ak keep.length ck) := T0.out.held.2.2.2.2
  obtain ⟨k1, k2, k3, k4, -⟩ := T0.out.held
  have T9 := Aside0.mk T0.out.lt
  go_upto_region 25 with (fail)
  clear k0 k1 k2 k3 k4 k6
  go_upto_region 25 with (fail)
  obtain ⟨A_, c_, p4, p5, p2⟩ := T9.out.cells
  go_quiet (first
    | (go_at_call 72; exact Calls.quiet_of_same ((T9.out.drewN _).down))
    | (go_at_call 134; exact Calls.quiet_of_same ((T9.out.drewN _).count))
    | (go_at_call 135; exact Calls.quiet_of_same ((T9.out.drewN _).waits)))
  go_wp2_with (fail)
  go_ret
  exact ⟨rfl, _, ((T9.out.drewN _).less (fun _ h => h.elim)).up (by omega)⟩
end Go.Proofs.Ythaoaaboempajaa.Disk
namespace Go.Proofs.Ythaoaaboempajaa.Disk
open Go.RowKit Go.Proofs.YthaoaaboempajaaW.PrintWords Go.Proofs.YthaoaaboempajaaW.PrintLast Go.Proofs.YthaoaaboempajaaW.PrintMore Go.Proofs.YthaoaaboempajaaX Go.Proofs.Ythaoaaboempajaa.QDiskRuns
attribute [local go_sem] max2_int min2_int max_two min_two
set_option linter.unusedVariables false
set_option linter.unusedSimpArgs false
theorem disks.calls {w0 w : World} {gd gr : Nat} {s : St} {m : Nat} (k F A N : Int) (S T : ByteArray) (Ak : Option Addr) (ck : Nat) (keep : List Int) (vc : Value) (h : LT w0 w gd gr (fun _ => False) s s m) (hm : m ≤ 100000)
    (hN : N < 9223372036854775808) (hk : (Kd.int .i64).C w0 Ak keep.length keep) (hkc : keep.length ≤ ck) (hkl : keep.length ≤ 17592186043904) :
    Calls Try.prog 61 #[.pointer (some ⟨gd, 0, none⟩), .pointer (some ⟨gr, 0, none⟩), .agg #[.int .i64 k, .int .i64 F, .int .i64 A, .int .i64 N, .string S, .string T, .slice Ak keep.length ck, vc]] w fun e w' => e = .returned (.bool true) ∧ ∃ s', LT w0 w' gd gr (fun _ => False) s' s' (m + 2) := by
  by_cases h1 : k = 1
  · subst h1; exact disks.calls1 1 F A N S T Ak ck keep vc h hm hN hk hkc hkl
  by_cases h2 : k = 2
  · subst h2; exact disks.calls2 2 F A N S T Ak ck keep vc h hm hN hk hkc hkl
  by_cases h3 : k = 3
  · subst h3; exact disks.calls3 3 F A N S T Ak ck keep vc h hm hN hk hkc hkl
  by_cases h4 : k = 4
  · subst h4; exact disks.calls4 4 F A N S T Ak ck keep vc h hm hN hk hkc hkl
  by_cases h5 : k = 5
  · subst h5; exact disks.calls5 5 F A N S T Ak ck keep vc h hm hN hk hkc hkl
  by_cases h6 : k = 6
  · subst h6; exact disks.calls6 6 F A N S T Ak ck keep vc h hm hN hk hkc hkl
  by_cases h7 : k = 7
  · subst h7; exact disks.calls7 7 F A N S T Ak ck keep vc h hm hN hk hkc hkl
  exact disks.calls8 k F A N S T Ak ck keep vc h hm hN hk hkc hkl ⟨h1, h2, h3, h4, h5, h6, h7⟩
theorem short.calls (A : Option Addr) (n c : Nat) (w : World) (hn : n ≤ 4611686018427387904) (hc : n ≤ c) :
    Calls Try.prog 60 #[.slice A n c] w fun e w' => e = .returned (.slice A (min n 250) c) ∧ w' = w := by
  obtain ⟨i77, hi77⟩ : ∃ i, Try.prog.info? 77 = some i := Option.isSome_iff_exists.1 (by kernel_rfl)
  by_cases h : 250 < n
  · have l_ : (250 : Int) < (n : Int) := by omega
    have sl_ := cut_to (P := Try.prog) 69 77 .i64 Try.underlying69 hi77 A n c 250 (by omega) (by omega) hc
    have HM := Aside0.mk (show min n 250 = 250 by omega)
    clear hi77
    go_enter Try.func60, Try.ntmps60
    go_wp2_with (fail)
    all_goals
      go_ret
      exact ⟨by rw [HM.out]; rfl, rfl⟩
  · have l_ : ¬ (250 : Int) < (n : Int) := by omega
    have sl_ := cut_to (P := Try.prog) 69 77 .i64 Try.underlying69 hi77 A n c (n : Int) (by omega) (by omega) hc
    rw [Int.toNat_natCast] at sl_
    have HM := Aside0.mk (show min n 250 = n by omega)
    clear hi77
    go_enter Try.func60, Try.ntmps60
    go_wp2_with (fail)
    all_goals
      go_ret
      exact ⟨by rw [HM.out]; rfl, rfl⟩
def put8 (W : World) (gb : Nat) (x0 x1 x2 x3 x4 x5 x6 x7 : Value) : World := ((((((((W.setCell ⟨gb, 0, none⟩ x0).setCell ⟨gb, 1, none⟩ x1).setCell ⟨gb, 2, none⟩ x2).setCell ⟨gb, 3, none⟩ x3).setCell ⟨gb, 4, none⟩ x4).setCell ⟨gb, 5, none⟩ x5).setCell ⟨gb, 6, none⟩ x6).setCell ⟨gb, 7, none⟩ x7)
theorem put8_blk {W : World} {gb t : Nat} {y0 y1 y2 y3 y4 y5 y6 y7 x0 x1 x2 x3 x4 x5 x6 x7 : Value} (h : W.heap[gb]? = some (.cells #[y0, y1, y2, y3, y4, y5, y6, y7] t (0, 0))) : (put8 W gb x0 x1 x2 x3 x4 x5 x6 x7).heap[gb]? = some (.cells #[x0, x1, x2, x3, x4, x5, x6, x7] t (0, 0)) := by
  have h0 : (W.setCell ⟨gb, 0, none⟩ x0).heap[gb]? = some (.cells #[x0, y1, y2, y3, y4, y5, y6, y7] t (0, 0)) := blk_put h 0 x0 rfl
  have h1 : ((W.setCell ⟨gb, 0, none⟩ x0).setCell ⟨gb, 1, none⟩ x1).heap[gb]? = some (.cells #[x0, x1, y2, y3, y4, y5, y6, y7] t (0, 0)) := blk_put h0 1 x1 rfl
  have h2 : (((W.setCell ⟨gb, 0, none⟩ x0).setCell ⟨gb, 1, none⟩ x1).setCell ⟨gb, 2, none⟩ x2).heap[gb]? = some (.cells #[x0, x1, x2, y3, y4, y5, y6, y7] t (0, 0)) := blk_put h1 2 x2 rfl
  have h3 : ((((W.setCell ⟨gb, 0, none⟩ x0).setCell ⟨gb, 1, none⟩ x1).setCell ⟨gb, 2, none⟩ x2).setCell ⟨gb, 3, none⟩ x3).heap[gb]? = some (.cells #[x0, x1, x2, x3, y4, y5, y6, y7] t (0, 0)) := blk_put h2 3 x3 rfl
  have h4 : (((((W.setCell ⟨gb, 0, none⟩ x0).setCell ⟨gb, 1, none⟩ x1).setCell ⟨gb, 2, none⟩ x2).setCell ⟨gb, 3, none⟩ x3).setCell ⟨gb, 4, none⟩ x4).heap[gb]? = some (.cells #[x0, x1, x2, x3, x4, y5, y6, y7] t (0, 0)) := blk_put h3 4 x4 rfl
  have h5 : ((((((W.setCell ⟨gb, 0, none⟩ x0).setCell ⟨gb, 1, none⟩ x1).setCell ⟨gb, 2, none⟩ x2).setCell ⟨gb, 3, none⟩ x3).setCell ⟨gb, 4, none⟩ x4).setCell ⟨gb, 5, none⟩ x5).heap[gb]? = some (.cells #[x0, x1, x2, x3, x4, x5, y6, y7] t (0, 0)) := blk_put h4 5 x5 rfl
  have h6 : (((((((W.setCell ⟨gb, 0, none⟩ x0).setCell ⟨gb, 1, none⟩ x1).setCell ⟨gb, 2, none⟩ x2).setCell ⟨gb, 3, none⟩ x3).setCell ⟨gb, 4, none⟩ x4).setCell ⟨gb, 5, none⟩ x5).setCell ⟨gb, 6, none⟩ x6).heap[gb]? = some (.cells #[x0, x1, x2, x3, x4, x5, x6, y7] t (0, 0)) := blk_put h5 6 x6 rfl
  have h7 : ((((((((W.setCell ⟨gb, 0, none⟩ x0).setCell ⟨gb, 1, none⟩ x1).setCell ⟨gb, 2, none⟩ x2).setCell ⟨gb, 3, none⟩ x3).setCell ⟨gb, 4, none⟩ x4).setCell ⟨gb, 5, none⟩ x5).setCell ⟨gb, 6, none⟩ x6).setCell ⟨gb, 7, none⟩ x7).heap[gb]? = some (.cells #[x0, x1, x2, x3, x4, x5, x6, x7] t (0, 0)) := blk_put h6 7 x7 rfl
  exact h7
theorem put8_below {B gb : Nat} {w W : World} {x0 x1 x2 x3 x4 x5 x6 x7 : Value} (h : Below B w W) (hg : B ≤ gb) : Below B w (put8 W gb x0 x1 x2 x3 x4 x5 x6 x7) :=
  (((((((h.setCell (p := ⟨gb, 0, none⟩) hg x0).setCell (p := ⟨gb, 1, none⟩) hg x1).setCell (p := ⟨gb, 2, none⟩) hg x2).setCell (p := ⟨gb, 3, none⟩) hg x3).setCell (p := ⟨gb, 4, none⟩) hg x4).setCell (p := ⟨gb, 5, none⟩) hg x5).setCell (p := ⟨gb, 6, none⟩) hg x6).setCell (p := ⟨gb, 7, none⟩) hg x7
set_option maxHeartbeats 8000000 in
set_option maxRecDepth 100000 in
theorem DiskRuns.calls (A : Option Addr) (c : Nat) (l : List S77) (w : World) (hr : Kd.C k77 w A l.length l) (hc : l.length ≤ c) (hl : l.length ≤ 4611686018427387904) (hx : ∀ x ∈ l, x.f3 < 9223372036854775808 ∧ x.f6.length ≤ 17592186043904) :
    Calls Try.prog 11 #[.slice A l.length c] w fun e w' => e = .returned (.bool true) ∧ Below w.heap.size w w' := by
  have HR := Aside0.mk hr
  have HCC := Aside0.mk hc
  have HL := Aside0.mk hl
  have HXX := Aside0.mk hx
  clear hr hc hl hx
  go_enter Try.func11, Try.ntmps11
  go_upto_region 2 with (first
    | (go_at_call 58; (refine (new.calls w _ (Below.refl _ w)).mono ?_); rintro e1 w1 ⟨gd, rfl, hgd, hD, hb⟩; have D1 := Aside0.mk hD; have B1 := Aside0.mk hb; clear hgd hD hb)
    | (go_at_call 59; (refine (newDisk.calls w _ B1.out).mono ?_); rintro e2 w2 ⟨gr, rfl, hgr, hD, hb⟩; have D2 := Aside0.mk hD; have B2 := Aside0.mk hb; clear hgr hD hb))
  have T0 := Aside0.mk (show LT w w2 gd gr (fun _ => False) St.new St.new 0 from
    ⟨fun k => (w.heap.size ≤ k) ∧ w.heap.size ≤ k ∧ k < w1.heap.size, fun k => (w1.heap.size ≤ k) ∧ w.heap.size ≤ k ∧ k < w2.heap.size,
      DX.apart (DX.narrow2 D1.out) (S := fun _ => False) (Kept.of_below B2.out _) (fun _ _ h => h), RD.narrow2 D2.out,
      fun k hk => ⟨hk.1, Nat.lt_of_lt_of_le hk.2.2 B2.out.size, fun h2 => absurd hk.2.2 (Nat.not_lt.mpr h2.1), fun h => h⟩,
      fun k hk => ⟨hk.2.1, hk.2.2, fun h => h⟩, fun k h => h.elim, below_step B1.out B2.out, St.new_ok, St.new_ok⟩)
  clear D1 B1 D2 B2
  go_wp2_with (go_at_call 60; (refine (short.calls A l.length c _ HL.out HCC.out).mono ?_); rintro e3 w3 ⟨rfl, rfl⟩)
  have HN := Aside0.mk (show min l.length 250 ≤ l.length ∧ min l.length 250 ≤ 250 by omega)
  generalize min l.length 250 = n at HN ⊢
  go_loopw [14] (fun v14 wr => ∃ (j : Nat) (s : St), j ≤ n ∧ v14 = .int .i64 (j : Int) ∧ Aside0 (LT w wr gd gr (fun _ => False) s s (2 * j))) (fun v14 _ => n - (intOf v14).toNat)
  case atStart => exact ⟨0, St.new, Nat.zero_le _, rfl, T0⟩
  case round =>
    clear T0
    obtain ⟨j, s, hj, rfl, T⟩ := hrel
    obtain ⟨hn1, hn2⟩ := HN.out
    by_cases hlt : j < n
    · have t_ : decide ((j : Int) < (n : Int)) = true := decide_eq_true (by omega)
      obtain ⟨ad, A6, c6, A7, c7, hA, f0, f1, f2, f3, f4, f5, f6, f7, l6, g6, l7, g7⟩ := at_T77 HR.out (j : Int) (by omega) (by omega)
      rw [Int.toNat_natCast] at f0 f1 f2 f3 f4 f5 f6 f7
      have HXJ := Aside0.mk (HXX.out (rd_T77 l (j : Int)) (by unfold rd_T77; rw [Int.toNat_natCast, List.getD_eq_getElem?_getD, List.getElem?_eq_getElem (show j < l.length by omega), Option.getD_some]; exact List.getElem_mem _))
      have G6 := Aside0.mk g6
      have L6 := Aside0.mk l6
      clear g6 l6 g7 l7
      generalize rd_T77 l (j : Int) = x at f0 f1 f2 f3 f4 f5 f6 f7 HXJ G6 L6
      subst hA
      replace f0 := (T.out.hB.cell (World.block_lt_of_cell? w _ f0)).trans f0
      replace f1 := (T.out.hB.cell (World.block_lt_of_cell? w _ f1)).trans f1
      replace f2 := (T.out.hB.cell (World.block_lt_of_cell? w _ f2)).trans f2
      replace f3 := (T.out.hB.cell (World.block_lt_of_cell? w _ f3)).trans f3
      replace f4 := (T.out.hB.cell (World.block_lt_of_cell? w _ f4)).trans f4
      replace f5 := (T.out.hB.cell (World.block_lt_of_cell? w _ f5)).trans f5
      replace f6 := (T.out.hB.cell (World.block_lt_of_cell? w _ f6)).trans f6
      replace f7 := (T.out.hB.cell (World.block_lt_of_cell? w _ f7)).trans f7
      clear hn1
      go_upto_region 7 with ((with_reducible refine gate_dst (N := 6) rfl ?_); refine box_event ?hg (N := 6) ?hd (cs := #[.int .i64 0, .int .i64 0, .int .i64 0, .int .i64 0, .string ⟨#[]⟩, .string ⟨#[]⟩, .slice none 0 0, .slice none 0 0]) (t := 77) ?hr ?_; (case hd => rfl); (case hg => rfl); (case hr => first | (go_simp; done) | (go_simp; rfl)); intro gb hgb w7 hbox hb; have HXb := Aside0.mk hbox; have HBb := Aside0.mk hb; have HGb := Aside0.mk hgb; have b0 : w7.cell? ⟨gb, 0, none⟩ = some (.int .i64 0) := (blk_cell hbox 0).trans rfl; have y0 := blk_frozen hbox 0; have b1 : w7.cell? ⟨gb, 1, none⟩ = some (.int .i64 0) := (blk_cell hbox 1).trans rfl; have y1 := blk_frozen hbox 1; have b2 : w7.cell? ⟨gb, 2, none⟩ = some (.int .i64 0) := (blk_cell hbox 2).trans rfl; have y2 := blk_frozen hbox 2; have b3 : w7.cell? ⟨gb, 3, none⟩ = some (.int .i64 0) := (blk_cell hbox 3).trans rfl; have y3 := blk_frozen hbox 3; have b4 : w7.cell? ⟨gb, 4, none⟩ = some (.string ⟨#[]⟩) := (blk_cell hbox 4).trans rfl; have y4 := blk_frozen hbox 4; have b5 : w7.cell? ⟨gb, 5, none⟩ = some (.string ⟨#[]⟩) := (blk_cell hbox 5).trans rfl; have y5 := blk_frozen hbox 5; have b6 : w7.cell? ⟨gb, 6, none⟩ = some (.slice none 0 0) := (blk_cell hbox 6).trans rfl; have y6 := blk_frozen hbox 6; have b7 : w7.cell? ⟨gb, 7, none⟩ = some (.slice none 0 0) := (blk_cell hbox 7).trans rfl; have y7 := blk_frozen hbox 7; clear hgb hbox hb)
      have hput : ((((((((w7.setCell ⟨gb, 0, none⟩ (.int .i64 x.f0)).setCell ⟨gb, 1, none⟩ (.int .i64 x.f1)).setCell ⟨gb, 2, none⟩ (.int .i64 x.f2)).setCell ⟨gb, 3, none⟩ (.int .i64 x.f3)).setCell ⟨gb, 4, none⟩ (.string x.f4)).setCell ⟨gb, 5, none⟩ (.string x.f5)).setCell ⟨gb, 6, none⟩ (.slice A6 x.f6.length c6)).setCell ⟨gb, 7, none⟩ (.slice A7 x.f7.length c7)) = put8 w7 gb (.int .i64 x.f0) (.int .i64 x.f1) (.int .i64 x.f2) (.int .i64 x.f3) (.string x.f4) (.string x.f5) (.slice A6 x.f6.length c6) (.slice A7 x.f7.length c7) := rfl
      rw [hput]
      clear hput
      have HX8 := Aside0.mk (put8_blk (x0 := (.int .i64 x.f0)) (x1 := (.int .i64 x.f1)) (x2 := (.int .i64 x.f2)) (x3 := (.int .i64 x.f3)) (x4 := (.string x.f4)) (x5 := (.string x.f5)) (x6 := (.slice A6 x.f6.length c6)) (x7 := (.slice A7 x.f7.length c7)) HXb.out)
      have HB8 := Aside0.mk (put8_below (x0 := (.int .i64 x.f0)) (x1 := (.int .i64 x.f1)) (x2 := (.int .i64 x.f2)) (x3 := (.int .i64 x.f3)) (x4 := (.string x.f4)) (x5 := (.string x.f5)) (x6 := (.slice A6 x.f6.length c6)) (x7 := (.slice A7 x.f7.length c7)) HBb.out (Nat.le_of_eq HGb.out.symm))
      clear b0 y0 b1 y1 b2 y2 b3 y3 b4 y4 b5 y5 b6 y6 b7 y7 f0 f1 f2 f3 f4 f5 f6 f7 HXb HBb
      generalize put8 w7 gb (.int .i64 x.f0) (.int .i64 x.f1) (.int .i64 x.f2) (.int .i64 x.f3) (.string x.f4) (.string x.f5) (.slice A6 x.f6.length c6) (.slice A7 x.f7.length c7) = w8 at HX8 HB8 ⊢
      have q0 : w8.cell? ⟨gb, 0, none⟩ = some (.int .i64 x.f0) := (blk_cell HX8.out 0).trans rfl
      have q1 : w8.cell? ⟨gb, 1, none⟩ = some (.int .i64 x.f1) := (blk_cell HX8.out 1).trans rfl
      have q2 : w8.cell? ⟨gb, 2, none⟩ = some (.int .i64 x.f2) := (blk_cell HX8.out 2).trans rfl
      have q3 : w8.cell? ⟨gb, 3, none⟩ = some (.int .i64 x.f3) := (blk_cell HX8.out 3).trans rfl
      have q4 : w8.cell? ⟨gb, 4, none⟩ = some (.string x.f4) := (blk_cell HX8.out 4).trans rfl
      have q5 : w8.cell? ⟨gb, 5, none⟩ = some (.string x.f5) := (blk_cell HX8.out 5).trans rfl
      have q6 : w8.cell? ⟨gb, 6, none⟩ = some (.slice A6 x.f6.length c6) := (blk_cell HX8.out 6).trans rfl
      have q7 : w8.cell? ⟨gb, 7, none⟩ = some (.slice A7 x.f7.length c7) := (blk_cell HX8.out 7).trans rfl
      have T8 := Aside0.mk (T.out.below HB8.out)
      clear T
      go_wp2_with (first
        | (go_at_call 61; (refine (disks.calls x.f0 x.f1 x.f2 x.f3 x.f4 x.f5 A6 c6 x.f6 (.slice A7 x.f7.length c7) T8.out (by omega) HXJ.out.1 G6.out L6.out HXJ.out.2).mono ?_); rintro e9 w9 ⟨rfl, s9, ht⟩; have T9 := Aside0.mk ht; clear ht)
        | (go_at_call 62; (refine (files.calls T9.out (by omega)).mono ?_); rintro e10 w10 ⟨rfl, hb⟩; have T10 := Aside0.mk (T9.out.below hb); clear hb))
      go_roundw
      case rel => exact ⟨j + 1, s9, by omega, by go_num, ⟨T10.out.up (by omega)⟩⟩
      case measure => simp [intOf]; omega
    · obtain rfl : j = n := by omega
      clear hlt hj
      go_wp2_with (fail)
      go_ret
      exact ⟨rfl, T.out.hB⟩
end Go.Proofs.Ythaoaaboempajaa.Disk
namespace Go.Proofs.Ythaoaaboempajaa.Log
open Go.RowKit Go.Maps Go.Proofs.Ythaoaaboempajaa.QLogRuns Go.Proofs.Ythaoaaboempajaa.QDiskRuns Go.Proofs.Ythaoaaboempajaa.Disk Go.Proofs.YthaoaaboempajaaW.PrintWords Go.Proofs.YthaoaaboempajaaW.PrintLast Go.Proofs.YthaoaaboempajaaW.PrintMore Go.Proofs.YthaoaaboempajaaX
set_option linter.unusedVariables false
set_option linter.unusedSimpArgs false
theorem size_putB (s : ByteArray) (a : Nat) (t : ByteArray) : (putB s a t).size = max s.size (a + t.size) := by
  rw [← bytesOf_length, bytesOf_putB, putL_length, bytesOf_length]
theorem fill_take (l : List Int) (n y : Nat) (h : y ≤ l.length) : (fill l n).take y = l.take y := by
  unfold fill
  rw [List.take_append_of_le_length h]
theorem putB_low (s : ByteArray) (a : Nat) (t : ByteArray) (x y : Nat) (h1 : y ≤ a) (h2 : y ≤ s.size) : (putB s a t).extract x y = s.extract x y := by
  apply bytesOf_inj
  rw [bytesOf_extract, bytesOf_extract, bytesOf_putB, ← List.drop_take, ← List.drop_take]
  congr 1
  unfold putL
  have hl : ((fill (bytesOf s) (a + t.size)).take a).length = a := by rw [List.length_take, fill_length]; omega
  rw [List.take_append_of_le_length (by rw [hl]; exact h1), List.take_take, Nat.min_eq_left h1, fill_take _ _ _ (by rw [bytesOf_length]; exact h2)]
theorem putB_high (s : ByteArray) (a : Nat) (t : ByteArray) (x y : Nat) (h1 : a + t.size ≤ x) (h2 : y ≤ s.size) : (putB s a t).extract x y = s.extract x y := by
  by_cases hxy : y ≤ x
  · apply bytesOf_inj
    rw [bytesOf_extract, bytesOf_extract, Nat.sub_eq_zero_of_le hxy, List.take_zero, List.take_zero]
  · apply bytesOf_inj
    rw [bytesOf_extract, bytesOf_extract, bytesOf_putB]
    congr 1
    unfold putL
    have hl : ((fill (bytesOf s) (a + t.size)).take a).length = a := by rw [List.length_take, fill_length]; omega
    have hf : fill (bytesOf s) (a + t.size) = bytesOf s := by
      unfold fill
      rw [bytesOf_length, Nat.sub_eq_zero_of_le (by omega)]
      simp
    have hb := bytesOf_length t
    rw [hf] at hl ⊢
    rw [← List.append_assoc, List.drop_append, List.drop_of_length_le (by rw [List.length_append, hl, hb]; exact h1), List.nil_append, List.drop_drop, List.length_append, hl, hb]
    congr 1
    omega
theorem putB_at (s : ByteArray) (a : Nat) (t : ByteArray) : (putB s a t).extract a (a + t.size) = t := by
  apply bytesOf_inj
  rw [bytesOf_extract, bytesOf_putB]
  unfold putL
  have hl : ((fill (bytesOf s) (a + t.size)).take a).length = a := by rw [List.length_take, fill_length]; omega
  have hb := bytesOf_length t
  rw [List.drop_append, List.drop_of_length_le (by omega), List.nil_append, hl, Nat.sub_self, List.drop_zero, show a + t.size - a = t.size by omega, List.take_append_of_le_length (by omega), List.take_of_length_le (by omega)]
theorem frame_ext {t t' : ByteArray} {i : Nat} (h : 64 + 1028 * (i + 1) ≤ t.size) (h' : 64 + 1028 * (i + 1) ≤ t'.size) (he : t'.extract (64 + 1028 * i) (64 + 1028 * (i + 1)) = t.extract (64 + 1028 * i) (64 + 1028 * (i + 1))) : frameAt t' i = frameAt t i := by
  have a1 := tn_drop t (64 + 1028 * i) (64 + 1028 * (i + 1)) (by omega) h
  have a2 := tn_drop t' (64 + 1028 * i) (64 + 1028 * (i + 1)) (by omega) h'
  have b1 := (frame_parts t i h).2.1
  have b2 := (frame_parts t' i h').2.1
  rw [he] at a2 b2
  exact Prod.ext (a2.symm.trans a1) (b2.symm.trans b1)
def Holds (t : ByteArray) (fr : List (Nat × ByteArray)) : Prop := ∀ i, i < fr.length → 64 + 1028 * (i + 1) ≤ t.size ∧ frameAt t i = frD_ fr i
theorem Holds.high {t : ByteArray} {fr : List (Nat × ByteArray)} (h : Holds t fr) (a : Nat) (x : ByteArray) (ha : a + x.size ≤ 64) : Holds (putB t a x) fr := by
  intro i hi
  obtain ⟨h1, h2⟩ := h i hi
  have hs : 64 + 1028 * (i + 1) ≤ (putB t a x).size := by rw [size_putB]; omega
  exact ⟨hs, (frame_ext h1 hs (putB_high t a x _ _ (by omega) h1)).trans h2⟩
theorem frD_last (fr : List (Nat × ByteArray)) (c : Nat × ByteArray) : frD_ (fr ++ [c]) fr.length = c := by
  unfold frD_
  rw [List.getD_eq_getElem?_getD, List.getElem?_append_right (Nat.le_refl _), Nat.sub_self]
  rfl
theorem frD_init (fr : List (Nat × ByteArray)) (c : Nat × ByteArray) (i : Nat) (h : i < fr.length) : frD_ (fr ++ [c]) i = frD_ fr i := by
  unfold frD_
  rw [List.getD_eq_getElem?_getD, List.getD_eq_getElem?_getD, List.getElem?_append_left h]
theorem Holds.snoc {t : ByteArray} {fr : List (Nat × ByteArray)} (h : Holds t fr) (n : Nat) (x : ByteArray) (hn : n < 4294967296) (hx : x.size = 1024) : Holds (putB t (64 + 1028 * fr.length) (fourB n ++ x)) (fr ++ [(n, x)]) := by
  have hsz : (fourB n ++ x).size = 1028 := by rw [ByteArray.size_append, size_four, hx]
  intro i hi
  rw [List.length_append, List.length_singleton] at hi
  by_cases e : i = fr.length
  · subst e
    have hs : 64 + 1028 * (fr.length + 1) ≤ (putB t (64 + 1028 * fr.length) (fourB n ++ x)).size := by rw [size_putB, hsz]; omega
    refine ⟨hs, ?_⟩
    have he := putB_at t (64 + 1028 * fr.length) (fourB n ++ x)
    rw [hsz, show 64 + 1028 * fr.length + 1028 = 64 + 1028 * (fr.length + 1) by omega] at he
    have a2 := tn_drop (putB t (64 + 1028 * fr.length) (fourB n ++ x)) (64 + 1028 * fr.length) (64 + 1028 * (fr.length + 1)) (by omega) hs
    have b2 := (frame_parts _ fr.length hs).2.1
    rw [he] at a2 b2
    rw [frD_last]
    refine Prod.ext (a2.symm.trans ?_) (b2.symm.trans ?_)
    · rw [ByteArray.data_append, Array.toList_append]
      exact u32_four n hn _
    · rw [hsz]
      apply bytes_ext
      rw [extract_list, ByteArray.data_append, Array.toList_append, List.drop_append, List.drop_of_length_le (by rw [data_length, size_four]; exact Nat.le_refl _), List.nil_append, data_length, size_four, Nat.sub_self, List.drop_zero, List.take_of_length_le (by rw [data_length, hx]; exact Nat.le_refl _)]
  · have hi2 : i < fr.length := by omega
    obtain ⟨h1, h2⟩ := h i hi2
    have hs : 64 + 1028 * (i + 1) ≤ (putB t (64 + 1028 * fr.length) (fourB n ++ x)).size := by rw [size_putB]; omega
    rw [frD_init _ _ _ hi2]
    exact ⟨hs, (frame_ext h1 hs (putB_low t _ _ _ _ (by omega) h1)).trans h2⟩
theorem Holds.take {t : ByteArray} {fr : List (Nat × ByteArray)} (h : Holds t fr) (k : Nat) : Holds t (fr.take k) := by
  intro i hi
  rw [List.length_take] at hi
  obtain ⟨h1, h2⟩ := h i (by omega)
  refine ⟨h1, h2.trans ?_⟩
  unfold frD_
  rw [List.getD_eq_getElem?_getD, List.getD_eq_getElem?_getD, List.getElem?_take_of_lt (by omega)]
theorem Holds.nil (t : ByteArray) : Holds t [] := fun i hi => by cases hi
theorem Holds.of_file (t : ByteArray) (f : Nat) (h : f = 0 ∨ 64 + 1028 * f ≤ t.size) : Holds t (framesOf t f) := by
  intro i hi
  rw [framesOf_len] at hi
  refine ⟨by omega, ?_⟩
  unfold frD_ framesOf
  rw [List.getD_eq_getElem?_getD, List.getElem?_map, List.getElem?_range hi]
  rfl
theorem write1_s1 (s : St) (a : Int) (t : ByteArray) : (s.write 1 a t).2.s1 = if (s.write 1 a t).1 = 0 then putB s.s1 a.toNat t else s.s1 := by
  unfold St.write
  split
  · unfold St.changed
    dsimp only
    split
    · unfold St.s1
      rw [seenB_snoc, if_pos rfl]
      rfl
    · rfl
  · rw [if_neg (show ¬ ((1 : Int) = 0) by decide)]
theorem write0_s1 (s : St) (a : Int) (t : ByteArray) : (s.write 0 a t).2.s1 = s.s1 := by
  unfold St.write
  split
  · unfold St.changed
    dsimp only
    split
    · unfold St.s1
      rw [seenB_snoc, if_neg (show ¬ ((0 : Int) = 1) by decide)]
      rfl
    · rfl
  · rfl
theorem cut0_s1 (s : St) (a : Int) : (s.cutTo 0 a).2.s1 = s.s1 := by
  unfold St.cutTo
  split
  · unfold St.changed
    dsimp only
    split
    · unfold St.s1
      rw [seenB_snoc, if_neg (show ¬ ((0 : Int) = 1) by decide)]
      rfl
    · rfl
  · rfl
theorem sync_s1 (s : St) (f : Int) : (s.sync f).2.s1 = s.s1 := by
  unfold St.sync
  split
  · unfold St.synced
    split
    · unfold St.s1
      by_cases h : f = 1
      · subst h
        show seenB 1 (others 1 s.ws) (if (1 : Int) = 1 then s.s1 else s.l1) = _
        rw [if_pos rfl, seenB_others_self]
        rfl
      · show seenB 1 (others f s.ws) (if f = 1 then s.s1 else s.l1) = _
        rw [if_neg h, seenB_others_ne (by omega)]
    · rfl
  · rfl
structure Good (s : St) (g : Lg) : Prop where
  ok : g.ok
  holds : Holds s.s1 g.fr
theorem read_is {s : St} {g : Lg} {m : Nat} (hok : s.ok m) (h : Good s g) (n : Int) : Lg.read s g n = Lg.rread s g n := by
  have hs0 := hok.s0
  have hs1 := hok.s1
  unfold maxFile at hs0 hs1
  unfold Lg.read Lg.rread
  by_cases hb : n < 0 ∨ n ≥ 2147483648
  · rw [if_pos hb, if_pos hb]
  · rw [if_neg hb, if_neg hb]
    by_cases hi : idx g.fr n > 0
    · rw [if_pos hi, if_pos hi]
      have hle := (idx_le g.fr n).2
      obtain ⟨i, hix⟩ : ∃ i : Nat, idx g.fr n = (i : Int) + 1 := ⟨(idx g.fr n).toNat - 1, by omega⟩
      rw [hix] at hle ⊢
      obtain ⟨h1, h2⟩ := h.holds i (by omega)
      have hr : rightB 1 (64 + ((i : Int) + 1 - 1) * 1028 + 4) 1024 = true := by unfold rightB; exact decide_eq_true (by omega)
      unfold St.read
      rw [if_pos hr]
      by_cases hd : s.d = true
      · rw [if_pos hd, if_pos hd]
      · rw [if_neg hd, if_neg hd, seenOf1, if_neg (by omega)]
        unfold textAt
        rw [show (((i : Int) + 1).toNat - 1) = i by omega, ← h2, show (64 + ((i : Int) + 1 - 1) * 1028 + 4).toNat = 68 + 1028 * i by omega, show (64 + ((i : Int) + 1 - 1) * 1028 + 4 + 1024).toNat = 64 + 1028 * (i + 1) by omega]
        rfl
    · rw [if_neg hi, if_neg hi]
      by_cases hd : s.d = true
      · rw [size_down (by decide) hd, if_pos hd]
        rfl
      · rw [size_up (by decide) (by simpa using hd), if_neg hd, seenOf0, if_neg (show ¬ ((0 : Int) ≠ 0) by decide)]
        by_cases hm : n ≥ (s.s0.size : Int) / 1024
        · rw [if_pos hm, if_pos hm]
        · rw [if_neg hm, if_neg hm]
          unfold St.read
          rw [if_pos (by unfold rightB; exact decide_eq_true (by omega)), if_neg hd, seenOf0, if_neg (by omega), show n * 1024 = 1024 * n by omega]
theorem Good.s1 {s s' : St} {g : Lg} (h : Good s g) (e : s'.s1 = s.s1) : Good s' g := ⟨h.ok, by rw [e]; exact h.holds⟩
theorem Good.append {s : St} {g : Lg} (h : Good s g) (n : Int) (t : ByteArray) : Good (Lg.append s g n t).2.1 (Lg.append s g n t).2.2 := by
  have hok := h.ok.append s n t
  refine ⟨hok, ?_⟩
  unfold Lg.append at hok ⊢
  split
  · exact h.holds
  · rename_i hb
    split
    · exact h.holds
    · have hw := write1_s1 s ((64 + 1028 * g.fr.length : Nat) : Int) (fourB n.toNat ++ t)
      split
      · rename_i he
        rw [if_pos he] at hw
        show Holds _ (g.fr ++ [(n.toNat, t)])
        rw [show (0, (s.write 1 ((64 + 1028 * g.fr.length : Nat) : Int) (fourB n.toNat ++ t)).2, { g with fr := g.fr ++ [(n.toNat, t)] }).2.1.s1 = _ from hw, Int.toNat_natCast]
        exact h.holds.snoc n.toNat t (by omega) (by omega)
      · rename_i he
        rw [if_neg he] at hw
        show Holds _ g.fr
        rw [show ((s.write 1 ((64 + 1028 * g.fr.length : Nat) : Int) (fourB n.toNat ++ t)).1, (s.write 1 ((64 + 1028 * g.fr.length : Nat) : Int) (fourB n.toNat ++ t)).2, g).2.1.s1 = _ from hw]
        exact h.holds
theorem Good.write_low {s : St} {g : Lg} (h : Good s g) (a : Nat) (t : ByteArray) (ha : a + t.size ≤ 64) : Good (s.write 1 (a : Int) t).2 g := by
  refine ⟨h.ok, ?_⟩
  rw [write1_s1]
  split
  · rw [Int.toNat_natCast]
    exact h.holds.high a t ha
  · exact h.holds
theorem Good.sync {s : St} {g : Lg} (h : Good s g) (f : Int) : Good (s.sync f).2 g := h.s1 (sync_s1 s f)
theorem Good.tell {s : St} {g : Lg} (h : Good s g) (f p : Nat) : Good (Lg.tell s g f p).2.1 (Lg.tell s g f p).2.2 := by
  have hf := (Lg.tell_fr s g f p).1
  have hs := h.ok.slot
  have h1 := h.write_low (16 + 24 * (1 - g.slot)) (slotB (g.number % 3 + 1) f p) (by rw [size_slot]; omega)
  refine ⟨h.ok.tell s f p, ?_⟩
  rw [hf]
  unfold Lg.tell
  simp only
  split
  · exact h1.holds
  · split
    · exact (h1.sync 1).holds
    · exact (h1.sync 1).holds
theorem tell_cases (s : St) (g : Lg) (f p : Nat) : ∃ (c : Int) (s' : St), (c ≠ 0 ∧ Lg.tell s g f p = (c, s', g) ∧ Lg.rtell s g f p = (c, s', g)) ∨
    (c = 0 ∧ Lg.tell s g f p = (0, s', { g with slot := 1 - g.slot, number := g.number % 3 + 1 }) ∧ Lg.rtell s g f p = (0, s', { g with slot := 1 - g.slot, number := g.number % 3 + 1, kept := f, pages := p })) := by
  unfold Lg.tell Lg.rtell
  simp only
  generalize s.write 1 ((16 + 24 * (1 - g.slot) : Nat) : Int) (slotB (g.number % 3 + 1) f p) = a
  by_cases h1 : a.1 = 0
  · generalize a.2.sync 1 = b
    by_cases h2 : b.1 = 0
    · exact ⟨0, b.2, .inr ⟨rfl, by rw [if_neg (fun h => h h1), if_neg (fun h => h h2)], by rw [if_neg (fun h => h h1), if_neg (fun h => h h2)]⟩⟩
    · exact ⟨b.1, b.2, .inl ⟨h2, by rw [if_neg (fun h => h h1), if_pos h2], by rw [if_neg (fun h => h h1), if_pos h2]⟩⟩
  · exact ⟨a.1, a.2, .inl ⟨h1, by rw [if_pos h1], by rw [if_pos h1]⟩⟩
theorem andThen_ok {r : Run} (h : r.c = 0) (f : St → Lg → Run) : r.andThen f = f r.s r.g := by unfold Run.andThen; rw [if_neg (fun e => e h)]
theorem andThen_no {r : Run} (h : r.c ≠ 0) (f : St → Lg → Run) : r.andThen f = r := by unfold Run.andThen; rw [if_pos h]
theorem commit_is (s : St) (g : Lg) (n : Int) (t : ByteArray) (p : Int) : Lg.commit s g n t p = Lg.rcommit s g n t p := by
  unfold Lg.commit Lg.rcommit
  by_cases hp : p < 1 ∨ p > 65536
  · rw [if_pos hp, if_pos hp]
  · rw [if_neg hp, if_neg hp]
    generalize (rAppend n t s g).andThen (rSync 1) = X
    by_cases hX : X.c = 0
    · rw [andThen_ok hX, andThen_ok hX]
      simp only
      unfold rTell rrTell
      obtain ⟨c, s', ⟨hc, e1, e2⟩ | ⟨hc, e1, e2⟩⟩ := tell_cases X.s X.g X.g.fr.length p.toNat
      · rw [e1, e2]
        simp only [if_neg hc]
      · rw [e1, e2]
        simp only [if_true]
    · rw [andThen_no hX, andThen_no hX]
      simp only [if_neg hX]
theorem Good.commit {s : St} {g : Lg} (h : Good s g) (n : Int) (t : ByteArray) (p : Int) : Good (Lg.commit s g n t p).s (Lg.commit s g n t p).g := by
  refine ⟨h.ok.commit s n t p, ?_⟩
  unfold Lg.commit
  split
  · exact h.holds
  · have hA := h.append n t
    have hX : Good ((rAppend n t s g).andThen (rSync 1)).s ((rAppend n t s g).andThen (rSync 1)).g := by
      unfold Run.andThen
      split
      · exact hA
      · exact hA.sync 1
    generalize (rAppend n t s g).andThen (rSync 1) = X at hX
    have hT : Good (X.andThen (fun s g => rTell g.fr.length p.toNat s g)).s (X.andThen (fun s g => rTell g.fr.length p.toNat s g)).g := by
      unfold Run.andThen
      split
      · exact hX
      · exact hX.tell _ _
    simp only
    split
    · exact hT.holds
    · exact hT.holds
theorem Good.back {s : St} {g : Lg} (h : Good s g) : Good s g.back := ⟨h.ok.back, h.holds.take _⟩
theorem turn_up {f : Int} {d : Bool} {c : Int} (h : (turn f d c).1 = 0) : (turn f d c).2.2.1 = false := by
  unfold turn at h ⊢
  split at h
  · simp at h
  · rename_i hn
    rw [if_neg hn]
    simp only
    first | (simpa using fun e => hn (.inl e)) | rfl
theorem write_up {s : St} {f a : Int} {t : ByteArray} (h : (s.write f a t).1 = 0) : (s.write f a t).2.d = false := by
  unfold St.write at h ⊢
  split
  · rename_i hr
    rw [if_pos hr] at h
    unfold St.changed
    dsimp only at h ⊢
    rw [if_pos h]
    exact turn_up h
  · rename_i hr
    rw [if_neg hr] at h
    exact absurd h (show ¬ ((1 : Int) = 0) by decide)
theorem move1_is {s : St} {g : Lg} {m : Nat} (hok : s.ok m) (h : Good s g) (hd : s.d = false) (n : Nat) : move1 g n s = rmove1 g n s := by
  unfold move1 rmove1
  by_cases hi : idx g.fr (n : Int) = 0
  · rw [if_pos hi, if_pos hi]
  · have hle := idx_le g.fr (n : Int)
    rw [if_neg hi, if_neg hi, if_neg (show ¬ (s.d = true) by rw [hd]; decide), read_is hok h]
    unfold Lg.rread
    by_cases hb : (n : Int) < 0 ∨ (n : Int) ≥ 2147483648
    · rw [if_pos hb, if_pos (show ((1 : Int) ≠ 0) by decide)]
      unfold St.write
      rw [if_neg (by unfold rightB; rw [decide_eq_true_iff]; omega)]
    · rw [if_neg hb, if_neg (show ¬ (s.d = true) by rw [hd]; decide), if_pos (show idx g.fr (n : Int) > 0 by omega), if_neg (show ¬ ((0 : Int) ≠ 0) by decide), show (n : Int) * 1024 = 1024 * (n : Int) by omega]
theorem move1_good {s : St} {g : Lg} (h : Good s g) (n : Nat) : Good (move1 g n s).2 g := by
  unfold move1
  split
  · exact h
  · split
    · exact h
    · exact h.s1 (write0_s1 _ _ _)
theorem move1_up {s : St} {g : Lg} (n : Nat) (hd : s.d = false) (h : (move1 g n s).1 = 0) : (move1 g n s).2.d = false := by
  unfold move1 at h ⊢
  split
  · exact hd
  · rename_i hi
    rw [if_neg hi] at h
    split
    · rename_i h2
      rw [if_pos h2] at h
      exact absurd h h2
    · rename_i h2
      rw [if_neg h2] at h
      exact write_up h
theorem moveN_is {s : St} {g : Lg} {m : Nat} (hok : s.ok m) (h : Good s g) (hd : s.d = false) : ∀ k, moveN g k s = rmoveN g k s ∧ Good (moveN g k s).2 g ∧ ((moveN g k s).1 = 0 → (moveN g k s).2.d = false)
  | 0 => ⟨rfl, h, fun _ => hd⟩
  | k + 1 => by
    obtain ⟨e1, h1, h2⟩ := moveN_is hok h hd k
    rw [moveN, rmoveN, ← e1]
    by_cases hc : (moveN g k s).1 = 0
    · rw [if_neg (fun h => h hc), if_neg (fun h => h hc)]
      exact ⟨move1_is (moveN_ok hok g k) h1 (h2 hc) k, move1_good h1 k, move1_up k (h2 hc)⟩
    · rw [if_pos hc, if_pos hc]
      exact ⟨rfl, h1, h2⟩
theorem cut_sync_g (a : Int) (s : St) (g : Lg) : ((rCut 0 a s g).andThen (rSync 0)).g = g := by
  unfold Run.andThen
  split <;> rfl
theorem checkpoint_is {s : St} {g : Lg} {m : Nat} (hok : s.ok m) (h : Good s g) (hd : s.d = false) : Lg.checkpoint s g = Lg.rcheckpoint s g := by
  unfold Lg.checkpoint Lg.rcheckpoint
  by_cases h1 : g.fr.length ≠ g.kept
  · rw [if_pos h1, if_pos h1]
  · rw [if_neg h1, if_neg h1]
    have h1' : g.fr.length = g.kept := by omega
    rw [h1']
    by_cases h2 : g.kept = 0
    · rw [if_pos h2, if_pos h2]
    · rw [if_neg h2, if_neg h2, ← (moveN_is hok h hd g.pages).1, show (g.pages : Int) * 1024 = 1024 * (g.pages : Int) by omega]
      by_cases h3 : (moveN g g.pages s).1 ≠ 0
      · rw [if_pos h3, if_pos h3]
      · rw [if_neg h3, if_neg h3]
        have hXg : ((rCut 0 (1024 * (g.pages : Int)) (moveN g g.pages s).2 g).andThen (rSync 0)).g = g := cut_sync_g _ _ _
        generalize (rCut 0 (1024 * (g.pages : Int)) (moveN g g.pages s).2 g).andThen (rSync 0) = X at hXg
        by_cases hX : X.c = 0
        · rw [andThen_ok hX, andThen_ok hX]
          simp only
          unfold rTell rrTell
          obtain ⟨c, s', ⟨hc, e1, e2⟩ | ⟨hc, e1, e2⟩⟩ := tell_cases X.s X.g 0 g.pages
          · rw [e1, e2]
            simp only [if_neg hc]
          · rw [e1, e2]
            simp only [if_true]
            rw [hXg]
        · rw [andThen_no hX, andThen_no hX]
          simp only [if_neg hX]
theorem Good.checkpoint {s : St} {g : Lg} {m : Nat} (hok : s.ok m) (h : Good s g) (hd : s.d = false) : Good (Lg.checkpoint s g).s (Lg.checkpoint s g).g ∧ (Lg.checkpoint s g).s.ok (m + 65300) := by
  have hn := h.ok.n
  unfold Lg.checkpoint
  by_cases h1 : g.fr.length ≠ g.kept
  · rw [if_pos h1]; exact ⟨h, hok.mono (by omega)⟩
  · rw [if_neg h1]
    by_cases h2 : g.fr.length = 0
    · rw [if_pos h2]; exact ⟨h, hok.mono (by omega)⟩
    · rw [if_neg h2]
      have hm := (moveN_is hok h hd g.pages).2.1
      have hk := moveN_ok hok g g.pages
      have hh := hits_le g.fr g.pages
      by_cases h3 : (moveN g g.pages s).1 ≠ 0
      · rw [if_pos h3]; exact ⟨hm, hk.mono (by omega)⟩
      · rw [if_neg h3]
        have hA : Good (rCut 0 ((g.pages : Int) * 1024) (moveN g g.pages s).2 g).s (rCut 0 ((g.pages : Int) * 1024) (moveN g g.pages s).2 g).g ∧ (rCut 0 ((g.pages : Int) * 1024) (moveN g g.pages s).2 g).s.ok (m + hits g.fr g.pages + 1) := ⟨hm.s1 (cut0_s1 _ _), hk.cutTo _ _⟩
        generalize rCut 0 ((g.pages : Int) * 1024) (moveN g g.pages s).2 g = A at hA
        have hB : Good (A.andThen (rSync 0)).s (A.andThen (rSync 0)).g ∧ (A.andThen (rSync 0)).s.ok (m + hits g.fr g.pages + 2) := by
          unfold Run.andThen
          split
          · exact ⟨hA.1, hA.2.mono (by omega)⟩
          · exact ⟨hA.1.sync 0, hA.2.sync 0⟩
        generalize A.andThen (rSync 0) = B at hB
        have hC : Good (B.andThen (rTell 0 g.pages)).s (B.andThen (rTell 0 g.pages)).g ∧ (B.andThen (rTell 0 g.pages)).s.ok (m + hits g.fr g.pages + 4) := by
          unfold Run.andThen
          split
          · exact ⟨hB.1, hB.2.mono (by omega)⟩
          · exact ⟨hB.1.tell _ _, St.ok.told hB.2 _ _ _⟩
        generalize B.andThen (rTell 0 g.pages) = C at hC
        simp only
        split
        · refine ⟨⟨⟨Nat.zero_le _, Nat.zero_le _, hC.1.ok.pages, hC.1.ok.slot, hC.1.ok.number, fun c hc => by cases hc⟩, Holds.nil _⟩, hC.2.mono (by omega)⟩
        · exact ⟨hC.1, hC.2.mono (by omega)⟩
theorem begin1_up {s : St} (hf : s.f = -1) (hd : s.d = false) (p : Nat) : (begin1 s p).1 = 0 := by
  have w1 : ∀ x : St, x.f = -1 → x.d = false → (turn x.f x.d x.c).1 = 0 ∧ (turn x.f x.d x.c).2.1 = -1 ∧ (turn x.f x.d x.c).2.2.1 = false := by
    intro x h1 h2
    unfold turn
    rw [h1, h2, if_neg (by decide), if_neg (by decide)]
    exact ⟨rfl, rfl, rfl⟩
  have c1 : (s.cutTo 1 0).1 = 0 ∧ (s.cutTo 1 0).2.f = -1 ∧ (s.cutTo 1 0).2.d = false := by
    unfold St.cutTo St.changed
    rw [if_pos (by decide), if_pos (w1 s hf hd).1]
    exact w1 s hf hd
  have c2 : ∀ x : St, x.f = -1 → x.d = false → (x.sync 1).1 = 0 ∧ (x.sync 1).2.f = -1 ∧ (x.sync 1).2.d = false := by
    intro x h1 h2
    unfold St.sync St.synced
    rw [if_pos (by decide), if_pos (w1 x h1 h2).1]
    exact w1 x h1 h2
  have c3 : ∀ (x : St) (t : ByteArray), t.size = 40 → x.f = -1 → x.d = false → (x.write 1 0 t).1 = 0 ∧ (x.write 1 0 t).2.f = -1 ∧ (x.write 1 0 t).2.d = false := by
    intro x t ht h1 h2
    unfold St.write St.changed
    rw [if_pos (by unfold rightB; exact decide_eq_true (by omega)), if_pos (w1 x h1 h2).1]
    exact w1 x h1 h2
  have hs : (markB ++ slotB 1 0 p).size = 40 := by rw [ByteArray.size_append, size_slot]; rfl
  have a2 := c2 _ c1.2.1 c1.2.2
  have a3 := c3 _ _ hs a2.2.1 a2.2.2
  have a4 := c2 _ a3.2.1 a3.2.2
  unfold begin1
  simp only
  rw [if_neg (fun h => h c1.1), if_neg (fun h => h a2.1), if_neg (fun h => h a3.1)]
  exact a4.1
theorem which_01 (a b : Nat) : whichS a b = 0 ∨ whichS a b = 1 := by
  unfold whichS
  split
  · exact .inr rfl
  · exact .inl rfl
theorem byS_ok {t : ByteArray} (ht : t.size ≤ 67108864) {k : Nat} (hk : k = 0 ∨ k = 1) (hn : 0 < (slot3 t k).1) : (byS t k).ok := by
  have h := slot3_le (t := t) k
  refine ⟨?_, ?_, h.2.1, hk, ⟨hn, h.1⟩, ?_⟩
  · show (framesOf t (slot3 t k).2.1).length ≤ _
    rw [framesOf_len]
    omega
  · show (slot3 t k).2.1 ≤ (framesOf t (slot3 t k).2.1).length
    rw [framesOf_len]
    exact Nat.le_refl _
  · intro c hc
    obtain ⟨i, hi, rfl⟩ := List.mem_map.1 hc
    have hi := List.mem_range.1 hi
    refine ⟨u32_lt _ _, ?_⟩
    show (t.extract (68 + 1028 * i) (64 + 1028 * (i + 1))).size = 1024
    rw [size_extract _ _ _ (by omega)]
    omega
theorem open_good {s : St} {m : Nat} (hok : s.ok m) : (openP s).2.1.ok (m + 4) ∧ ∀ g, (openP s).2.2 = some g → Good (openP s).2.1 g := by
  have hs1 := hok.s1
  have hs0 := hok.s0
  unfold maxFile at hs0 hs1
  cases hd : s.d with
  | true =>
    have h : openP s = (2, s, none) := by unfold openP; rw [if_pos hd]
    rw [h]
    exact ⟨hok.mono (by omega), fun g hg => by cases hg⟩
  | false =>
    by_cases h : slotA s.s1 0 = 0 ∧ slotA s.s1 1 = 0
    · rw [openP_none hd h]
      split
      · exact ⟨begin1_ok hok _, fun g hg => by cases hg⟩
      · refine ⟨begin1_ok hok _, fun g hg => ?_⟩
        injection hg with hg
        subst hg
        exact ⟨⟨Nat.zero_le _, Nat.zero_le _, by show s.s0.size / 1024 ≤ _; omega, .inl rfl, ⟨Nat.le_refl _, show 1 ≤ 3 by decide⟩, fun c hc => by cases hc⟩, Holds.nil _⟩
    · rw [openP_some hd h]
      refine ⟨hok.mono (by omega), fun g hg => ?_⟩
      injection hg with hg
      subst hg
      exact ⟨byS_ok hs1 (which_01 _ _) (which_pos h), Holds.of_file _ _ (slot3_le _).2.2⟩
theorem open_up {s : St} (hf : s.f = -1) (hd : s.d = false) : ∃ g, openP s = (0, (openP s).2.1, some g) := by
  by_cases h : slotA s.s1 0 = 0 ∧ slotA s.s1 1 = 0
  · rw [openP_none hd h, if_neg (fun e => e (begin1_up hf hd _))]
    exact ⟨_, rfl⟩
  · rw [openP_some hd h]
    exact ⟨_, rfl⟩
end Go.Proofs.Ythaoaaboempajaa.Log
namespace Go.Proofs.Ythaoaaboempajaa.Log
open Go.RowKit Go.Maps Go.Proofs.Ythaoaaboempajaa.QLogRuns Go.Proofs.Ythaoaaboempajaa.QDiskRuns Go.Proofs.Ythaoaaboempajaa.Disk Go.Proofs.YthaoaaboempajaaW.PrintWords Go.Proofs.YthaoaaboempajaaW.PrintLast Go.Proofs.YthaoaaboempajaaW.PrintMore Go.Proofs.YthaoaaboempajaaX
set_option linter.unusedVariables false
set_option linter.unusedSimpArgs false
abbrev Part := World → (Nat → Prop) → Prop
structure Bd (w0 w : World) (P Q : Part) (bx : List (Nat × Obj)) : Prop where
  hB : Below w0.heap.size w0 w
  hD : ∃ O, Sep w0.heap.size P Q w O ∧ ∀ x ∈ bx, w.heap[x.1]? = some x.2 ∧ ¬ O x.1
section
variable {w0 w w' : World} {P P' Q Q' : Part} {bx : List (Nat × Obj)}
theorem Bd.below (h : Bd w0 w P Q bx) (hP : Fr w0.heap.size P) (hQ : Fr w0.heap.size Q) (hb : Below w.heap.size w w') : Bd w0 w' P Q bx := by
  obtain ⟨O, hs, hx⟩ := h.hD
  exact ⟨below_step h.hB hb, O, (frSep hP hQ).apart hs (S := fun _ => False) (Kept.of_below hb _) (fun _ _ h => h), fun x hm => ⟨(Kept.of_below hb (fun _ => False)).2 x.1 ((Array.getElem?_eq_some_iff.mp (hx x hm).1).1) (fun h => h) |>.trans (hx x hm).1, (hx x hm).2⟩⟩
theorem Bd.mono {bx' : List (Nat × Obj)} (h : Bd w0 w P Q bx) (hs : ∀ x ∈ bx', x ∈ bx) : Bd w0 w P Q bx' := by
  obtain ⟨O, h1, h2⟩ := h.hD
  exact ⟨h.hB, O, h1, fun x hx => h2 x (hs x hx)⟩
theorem Bd.imp (h : Bd w0 w P Q bx) (hP : ∀ O, P w O → P' w O) (hQ : ∀ O, Q w O → Q' w O) : Bd w0 w P' Q' bx := by
  obtain ⟨O, ⟨O1, O2, a, b, c⟩, h2⟩ := h.hD
  exact ⟨h.hB, O, ⟨O1, O2, hP _ a, hQ _ b, c⟩, h2⟩
theorem Bd.more (h : Bd w0 w P Q bx) (hP : Fr w0.heap.size P) (hQ : Fr w0.heap.size Q) (hb : Below w.heap.size w w') {x : Nat × Obj} (hx : w'.heap[x.1]? = some x.2) (hn : w.heap.size ≤ x.1) : Bd w0 w' P Q (x :: bx) := by
  obtain ⟨O, hs, hbx⟩ := h.hD
  have h2 := (frSep hP hQ).narrow hs
  refine ⟨below_step h.hB hb, _, (frSep hP hQ).apart h2 (S := fun _ => False) (Kept.of_below hb _) (fun _ _ h => h), fun y hy => ?_⟩
  rcases List.mem_cons.1 hy with e | hy
  · subst e
    exact ⟨hx, fun ho => Nat.not_le.mpr ho.2.2 hn⟩
  · exact ⟨(Kept.of_below hb (fun _ => False)).2 y.1 ((Array.getElem?_eq_some_iff.mp (hbx y hy).1).1) (fun h => h) |>.trans (hbx y hy).1, fun ho => (hbx y hy).2 ho.1⟩
theorem Bd.box (h : Bd w0 w P Q bx) (b : Nat) (cs : Array Value) (t : TypeId) (hx : (b, Obj.cells cs t (0, 0)) ∈ bx) (i : Nat) : w.cell? ⟨b, i, none⟩ = cs[i]? := by
  obtain ⟨O, hs, hb⟩ := h.hD
  exact blk_cell (hb _ hx).1 i
theorem Bd.onP {X : Type} {f : FuncId} {args : Array Value} {V : X → Value} {PP : X → Part} (h : Bd w0 w P Q bx) (hP' : ∀ x, Fr w0.heap.size (PP x)) (hQ : Fr w0.heap.size Q)
    (hc : ∀ O1, P w O1 → (∀ k, O1 k → w0.heap.size ≤ k) → Calls Try.prog f args w fun e w' => ∃ x, e = .returned (V x) ∧ PP x w' (fun k => O1 k ∨ w.heap.size ≤ k) ∧ Below w0.heap.size w0 w' ∧ Kept w w' O1) :
    Calls Try.prog f args w fun e w' => ∃ x, e = .returned (V x) ∧ Bd w0 w' (PP x) Q bx := by
  obtain ⟨O, hs, hb⟩ := h.hD
  obtain ⟨O1, O2, h1, h2, h3, h4, h5, h6, h7⟩ := hs
  refine (hc O1 h1 (fun k hk => (h6 k hk).1)).mono ?_
  rintro e w' ⟨x, rfl, hp, hb', hk⟩
  have hlt : ∀ y ∈ bx, y.1 < w.heap.size := fun y hy => (Array.getElem?_eq_some_iff.mp (hb y hy).1).1
  refine ⟨x, rfl, hb', _, ⟨_, O2, (hP' x).narrow hp, hQ.apart h2 hk (fun k a b => h5 k b a), fun k a => a.1.imp (h3 k) id, fun k a => .inl (h4 k a), fun k a b => ?_, fun k a => a.2, fun k a => ⟨(h7 k a).1, Nat.lt_of_lt_of_le (h7 k a).2 hk.1⟩⟩, fun y hy => ⟨(hk.2 y.1 (hlt y hy) (fun ho => (hb y hy).2 (h3 _ ho))).trans (hb y hy).1, fun ho => ho.elim (hb y hy).2 (Nat.not_le.mpr (hlt y hy))⟩⟩
  rcases a.1 with a1 | a1
  · exact h5 k a1 b
  · exact Nat.not_le.mpr (h7 k b).2 a1
theorem Bd.swap (h : Bd w0 w P Q bx) : Bd w0 w Q P bx := by
  obtain ⟨O, hs, hb⟩ := h.hD
  exact ⟨h.hB, O, hs.swap, hb⟩
theorem Bd.onQ {X : Type} {f : FuncId} {args : Array Value} {V : X → Value} {QQ : X → Part} (h : Bd w0 w P Q bx) (hP : Fr w0.heap.size P) (hQ' : ∀ x, Fr w0.heap.size (QQ x))
    (hc : ∀ O1, Q w O1 → (∀ k, O1 k → w0.heap.size ≤ k) → Calls Try.prog f args w fun e w' => ∃ x, e = .returned (V x) ∧ QQ x w' (fun k => O1 k ∨ w.heap.size ≤ k) ∧ Below w0.heap.size w0 w' ∧ Kept w w' O1) :
    Calls Try.prog f args w fun e w' => ∃ x, e = .returned (V x) ∧ Bd w0 w' P (QQ x) bx := by
  refine (h.swap.onP hQ' hP hc).mono ?_
  rintro e w' ⟨x, rfl, hb⟩
  exact ⟨x, rfl, hb.swap⟩
end
def pP (base gd gl : Nat) (s : St) (g : Lg) : Part := fun w O => PL w base gd gl O s g
def pQ (base gr gm : Nat) (s : St) (g : Lg) : Part := fun w O => QL w base gr gm O s g
def pD (base gd : Nat) (s : St) : Part := fun w O => DD w base gd O s
def pR (base gr : Nat) (s : St) : Part := fun w O => RD w base gr O s
theorem fpP (base gd gl : Nat) (s : St) (g : Lg) : Fr base (pP base gd gl s g) := frPL _ _ _ _ _
theorem fpQ (base gr gm : Nat) (s : St) (g : Lg) : Fr base (pQ base gr gm s g) := frQL _ _ _ _ _
theorem fpD (base gd : Nat) (s : St) : Fr base (pD base gd s) := frD _ _ _
theorem fpR (base gr : Nat) (s : St) : Fr base (pR base gr s) := frR _ _ _
theorem pP_D {w : World} {base gd gl : Nat} {s : St} {g : Lg} (O : Nat → Prop) (h : pP base gd gl s g w O) : pD base gd s w O := by
  obtain ⟨O1, O2, a, -, c, -⟩ := h
  exact (frD _ _ _).mono a c
theorem pQ_R {w : World} {base gr gm : Nat} {s : St} {g : Lg} (O : Nat → Prop) (h : pQ base gr gm s g w O) : pR base gr s w O := by
  obtain ⟨O1, O2, a, -, c, -⟩ := h
  exact (frR _ _ _).mono a c
abbrev LS (w0 w : World) (gd gl gr gm : Nat) (s1 : St) (g1 : Lg) (s2 : St) (g2 : Lg) (bx : List (Nat × Obj)) : Prop := Bd w0 w (pP w0.heap.size gd gl s1 g1) (pQ w0.heap.size gr gm s2 g2) bx
abbrev LD (w0 w : World) (gd gr : Nat) (s1 s2 : St) (bx : List (Nat × Obj)) : Prop := Bd w0 w (pD w0.heap.size gd s1) (pR w0.heap.size gr s2) bx
section
variable {w0 w w' : World} {gd gl gr gm : Nat} {s1 s2 s : St} {g1 g2 g : Lg} {bx : List (Nat × Obj)} {m : Nat}
theorem LS.below (h : LS w0 w gd gl gr gm s1 g1 s2 g2 bx) (hb : Below w.heap.size w w') : LS w0 w' gd gl gr gm s1 g1 s2 g2 bx := Bd.below h (fpP _ _ _ _ _) (fpQ _ _ _ _ _) hb
theorem LS.drew (h : LS w0 w gd gl gr gm s1 g1 s2 g2 bx) : LS w0 w.drew gd gl gr gm s1 g1 s2 g2 bx := LS.below h (below_drew (Below.refl _ w))
theorem LD.below (h : LD w0 w gd gr s1 s2 bx) (hb : Below w.heap.size w w') : LD w0 w' gd gr s1 s2 bx := Bd.below h (fpD _ _ _) (fpR _ _ _) hb
theorem LS.disks (h : LS w0 w gd gl gr gm s1 g1 s2 g2 bx) : LD w0 w gd gr s1 s2 bx := Bd.imp h pP_D pQ_R
theorem LD.lt (h : LD w0 w gd gr s1 s2 bx) (h1 : s1.ok m) (h2 : s2.ok m) : LT w0 w gd gr (fun _ => False) s1 s2 m := by
  obtain ⟨O, ⟨O1, O2, a, b, c1, c2, c3, c4, c5⟩, -⟩ := h.hD
  exact ⟨O1, O2, a, b, fun k hk => ⟨(c4 k hk).1, (c4 k hk).2, c3 k hk, fun h => h⟩, fun k hk => ⟨(c5 k hk).1, (c5 k hk).2, fun h => h⟩, fun _ h => h.elim, h.hB, h1, h2⟩
theorem LS.append (h : LS w0 w gd gl gr gm s1 g1 s2 g2 bx) (hok : s1.ok m) (hm : m ≤ 500000000) (hg : g1.ok) (n : Int) (t : ByteArray) (hn : -9223372036854775808 ≤ n ∧ n < 9223372036854775808) :
    Calls Try.prog 67 #[pv gl, .int .i64 n, .string t] w fun e w' => e = .returned (.int .i64 (Lg.append s1 g1 n t).1) ∧ LS w0 w' gd gl gr gm (Lg.append s1 g1 n t).2.1 (Lg.append s1 g1 n t).2.2 s2 g2 bx := by
  refine (Bd.onP (X := Unit) (V := fun _ => .int .i64 (Lg.append s1 g1 n t).1) (PP := fun _ => pP w0.heap.size gd gl (Lg.append s1 g1 n t).2.1 (Lg.append s1 g1 n t).2.2) h (fun _ => fpP _ _ _ _ _) (fpQ _ _ _ _ _) (fun O1 h1 _ => (append.calls gd gl O1 s1 g1 m n t w0 w h.hB h1 hok (by omega) hg hn).mono (fun e w' hw => ⟨(), hw⟩))).mono ?_
  rintro e w' ⟨-, rfl, hb⟩
  exact ⟨rfl, hb⟩
theorem LS.rappend (h : LS w0 w gd gl gr gm s1 g1 s2 g2 bx) (hok : s2.ok m) (hm : m ≤ 500000000) (hg : g2.ok) (n : Int) (t : ByteArray) (hn : -9223372036854775808 ≤ n ∧ n < 9223372036854775808) :
    Calls Try.prog 80 #[pv gm, .int .i64 n, .string t] w fun e w' => e = .returned (.int .i64 (Lg.append s2 g2 n t).1) ∧ LS w0 w' gd gl gr gm s1 g1 (Lg.append s2 g2 n t).2.1 (Lg.append s2 g2 n t).2.2 bx := by
  refine (Bd.onQ (X := Unit) (V := fun _ => .int .i64 (Lg.append s2 g2 n t).1) (QQ := fun _ => pQ w0.heap.size gr gm (Lg.append s2 g2 n t).2.1 (Lg.append s2 g2 n t).2.2) h (fpP _ _ _ _ _) (fun _ => fpQ _ _ _ _ _) (fun O1 h1 _ => (rappend.calls gr gm O1 s2 g2 m n t w0 w ⟨h.hB, h1⟩ hok (by omega) hg hn).mono (fun e w' hw => ⟨(), hw.1, hw.2.1.hD, hw.2.1.hB, hw.2.2⟩))).mono ?_
  rintro e w' ⟨-, rfl, hb⟩
  exact ⟨rfl, hb⟩
theorem LS.commit (h : LS w0 w gd gl gr gm s1 g1 s2 g2 bx) (hok : s1.ok m) (hm : m ≤ 500000000) (hg : g1.ok) (n : Int) (t : ByteArray) (p : Int) (hn : -9223372036854775808 ≤ n ∧ n < 9223372036854775808) :
    Calls Try.prog 69 #[pv gl, .int .i64 n, .string t, .int .i64 p] w fun e w' => e = .returned (.int .i64 (Lg.commit s1 g1 n t p).c) ∧ LS w0 w' gd gl gr gm (Lg.commit s1 g1 n t p).s (Lg.commit s1 g1 n t p).g s2 g2 bx := by
  refine (Bd.onP (X := Unit) (V := fun _ => .int .i64 (Lg.commit s1 g1 n t p).c) (PP := fun _ => pP w0.heap.size gd gl (Lg.commit s1 g1 n t p).s (Lg.commit s1 g1 n t p).g) h (fun _ => fpP _ _ _ _ _) (fpQ _ _ _ _ _) (fun O1 h1 _ => (commit.calls gd gl O1 s1 g1 m n t p w0 w h.hB h1 hok (by omega) hg hn).mono (fun e w' hw => ⟨(), hw⟩))).mono ?_
  rintro e w' ⟨-, rfl, hb⟩
  exact ⟨rfl, hb⟩
theorem LS.rcommit (h : LS w0 w gd gl gr gm s1 g1 s2 g2 bx) (hok : s2.ok m) (hm : m ≤ 500000000) (hg : g2.ok) (n : Int) (t : ByteArray) (p : Int) (hn : -9223372036854775808 ≤ n ∧ n < 9223372036854775808) :
    Calls Try.prog 81 #[pv gm, .int .i64 n, .string t, .int .i64 p] w fun e w' => e = .returned (.int .i64 (Lg.commit s2 g2 n t p).c) ∧ LS w0 w' gd gl gr gm s1 g1 (Lg.commit s2 g2 n t p).s (Lg.commit s2 g2 n t p).g bx := by
  rw [commit_is]
  refine (Bd.onQ (X := Unit) (V := fun _ => .int .i64 (Lg.rcommit s2 g2 n t p).c) (QQ := fun _ => pQ w0.heap.size gr gm (Lg.rcommit s2 g2 n t p).s (Lg.rcommit s2 g2 n t p).g) h (fpP _ _ _ _ _) (fun _ => fpQ _ _ _ _ _) (fun O1 h1 _ => (rcommit.calls gr gm O1 s2 g2 m n t p w0 w ⟨h.hB, h1⟩ hok (by omega) hg hn).mono (fun e w' hw => ⟨(), hw.1, hw.2.1.hD, hw.2.1.hB, hw.2.2⟩))).mono ?_
  rintro e w' ⟨-, rfl, hb⟩
  exact ⟨rfl, hb⟩
theorem LS.back (h : LS w0 w gd gl gr gm s1 g1 s2 g2 bx) (hg : g1.ok) : Calls Try.prog 70 #[pv gl] w fun e w' => e = .returned (.tuple #[]) ∧ LS w0 w' gd gl gr gm s1 g1.back s2 g2 bx := by
  refine (Bd.onP (X := Unit) (V := fun _ => .tuple #[]) (PP := fun _ => pP w0.heap.size gd gl s1 g1.back) h (fun _ => fpP _ _ _ _ _) (fpQ _ _ _ _ _) (fun O1 h1 _ => (back.calls gd gl O1 s1 g1 w0 w h.hB h1 hg).mono (fun e w' hw => ⟨(), hw⟩))).mono ?_
  rintro e w' ⟨-, rfl, hb⟩
  exact ⟨rfl, hb⟩
theorem LS.rback (h : LS w0 w gd gl gr gm s1 g1 s2 g2 bx) (hg : g2.ok) : Calls Try.prog 82 #[pv gm] w fun e w' => e = .returned (.tuple #[]) ∧ LS w0 w' gd gl gr gm s1 g1 s2 g2.back bx := by
  refine (Bd.onQ (X := Unit) (V := fun _ => .tuple #[]) (QQ := fun _ => pQ w0.heap.size gr gm s2 g2.back) h (fpP _ _ _ _ _) (fun _ => fpQ _ _ _ _ _) (fun O1 h1 _ => (rback.calls gr gm O1 s2 g2 w0 w ⟨h.hB, h1⟩ hg).mono (fun e w' hw => ⟨(), hw.1, (frQL _ _ _ _ _).mono hw.2.1.hD (fun k hk => .inl hk), hw.2.1.hB, hw.2.2⟩))).mono ?_
  rintro e w' ⟨-, rfl, hb⟩
  exact ⟨rfl, hb⟩
theorem LS.checkpoint (h : LS w0 w gd gl gr gm s1 g1 s2 g2 bx) (hok : s1.ok m) (hm : m ≤ 500000000) (hg : g1.ok) :
    Calls Try.prog 71 #[pv gl] w fun e w' => e = .returned (.int .i64 (Lg.checkpoint s1 g1).c) ∧ LS w0 w' gd gl gr gm (Lg.checkpoint s1 g1).s (Lg.checkpoint s1 g1).g s2 g2 bx := by
  refine (Bd.onP (X := Unit) (V := fun _ => .int .i64 (Lg.checkpoint s1 g1).c) (PP := fun _ => pP w0.heap.size gd gl (Lg.checkpoint s1 g1).s (Lg.checkpoint s1 g1).g) h (fun _ => fpP _ _ _ _ _) (fpQ _ _ _ _ _) (fun O1 h1 _ => (checkpoint.calls gd gl O1 s1 g1 m w0 w h.hB h1 hok (by omega) hg).mono (fun e w' hw => ⟨(), hw⟩))).mono ?_
  rintro e w' ⟨-, rfl, hb⟩
  exact ⟨rfl, hb⟩
theorem LS.rcheckpoint (h : LS w0 w gd gl gr gm s1 g1 s2 g2 bx) (hok : s2.ok m) (hm : m ≤ 500000000) (hg : Good s2 g2) (hd : s2.d = false) :
    Calls Try.prog 83 #[pv gm] w fun e w' => e = .returned (.int .i64 (Lg.checkpoint s2 g2).c) ∧ LS w0 w' gd gl gr gm s1 g1 (Lg.checkpoint s2 g2).s (Lg.checkpoint s2 g2).g bx := by
  rw [checkpoint_is hok hg hd]
  refine (Bd.onQ (X := Unit) (V := fun _ => .int .i64 (Lg.rcheckpoint s2 g2).c) (QQ := fun _ => pQ w0.heap.size gr gm (Lg.rcheckpoint s2 g2).s (Lg.rcheckpoint s2 g2).g) h (fpP _ _ _ _ _) (fun _ => fpQ _ _ _ _ _) (fun O1 h1 _ => (rcheckpoint.calls gr gm O1 s2 g2 m w0 w ⟨h.hB, h1⟩ hok (by omega) hg.ok).mono (fun e w' hw => ⟨(), hw.1, hw.2.1.hD, hw.2.1.hB, hw.2.2⟩))).mono ?_
  rintro e w' ⟨-, rfl, hb⟩
  exact ⟨rfl, hb⟩
theorem LS.read (h : LS w0 w gd gl gr gm s1 g1 s2 g2 bx) (hok : s1.ok m) (hg : g1.ok) (n : Int) (hn : -9223372036854775808 ≤ n ∧ n < 9223372036854775808) :
    Calls Try.prog 77 #[pv gl, .int .i64 n] w fun e w' => e = .returned (.tuple #[.string (Lg.read s1 g1 n).1, .int .i64 (Lg.read s1 g1 n).2]) ∧ Below w.heap.size w w' := by
  obtain ⟨O, ⟨O1, O2, a, -⟩, -⟩ := h.hD
  refine (lread.calls gd gl O1 s1 g1 m n w0 w a hok hg hn).mono ?_
  rintro e w' ⟨rfl, hd⟩
  exact ⟨rfl, hd.below⟩
theorem LS.rread (h : LS w0 w gd gl gr gm s1 g1 s2 g2 bx) (hok : s2.ok m) (hm : m ≤ 500000000) (hg : Good s2 g2) (n : Int) :
    Calls Try.prog 78 #[pv gm, .int .i64 n] w fun e w' => e = .returned (.tuple #[.string (Lg.read s2 g2 n).1, .int .i64 (Lg.read s2 g2 n).2]) ∧ Below w.heap.size w w' := by
  obtain ⟨O, ⟨O1, O2, -, a, -⟩, -⟩ := h.hD
  rw [read_is hok hg]
  exact rread_.calls gr gm O2 s2 g2 m n w0 w ⟨h.hB, a⟩ hok (by omega) hg.ok
theorem LS.down (h : LS w0 w gd gl gr gm s1 g1 s2 g2 bx) : Calls Try.prog 72 #[pv gd] w fun e w' => e = .returned (.bool s1.d) ∧ w' = w := by
  obtain ⟨O, ⟨O1, O2, ⟨O3, O4, a, -⟩, -⟩, -⟩ := h.hD
  obtain ⟨lab, x0, x1, x2, x3, x4, hb, -⟩ := a
  exact down.calls gd x0 x1 x2 x3 x4 s1.f s1.d s1.c w hb
theorem LS.pages (h : LS w0 w gd gl gr gm s1 g1 s2 g2 bx) : Calls Try.prog 86 #[pv gl] w fun e w' => e = .returned (.int .i64 g1.pages) ∧ w' = w := by
  obtain ⟨O, ⟨O1, O2, a, -⟩, -⟩ := h.hD
  exact pages.calls gd gl O1 s1 g1 w0 w a
theorem LS.frames (h : LS w0 w gd gl gr gm s1 g1 s2 g2 bx) : Calls Try.prog 88 #[pv gl] w fun e w' => e = .returned (.int .i64 g1.fr.length) ∧ w' = w := by
  obtain ⟨O, ⟨O1, O2, a, -⟩, -⟩ := h.hD
  exact frames.calls gd gl O1 s1 g1 w0 w a
theorem LS.rpages (h : LS w0 w gd gl gr gm s1 g1 s2 g2 bx) : Calls Try.prog 87 #[pv gm] w fun e w' => e = .returned (.int .i64 g2.pages) ∧ w' = w := by
  obtain ⟨O, ⟨O1, O2, -, a, -⟩, -⟩ := h.hD
  exact rpages.calls gr gm O2 s2 g2 w0 w ⟨h.hB, a⟩
theorem fail_D {O : Nat → Prop} (hB : Below w0.heap.size w0 w) (h : DD w w0.heap.size gd O s) (n : Int) : Calls Try.prog 64 #[pv gd, .int .i64 n] w fun e w' => e = .returned (.tuple #[]) ∧ DD w' w0.heap.size gd (fun k => O k ∨ w.heap.size ≤ k) (s.failed n) ∧ Below w0.heap.size w0 w' ∧ Kept w w' O := by
  obtain ⟨lab, x0, x1, x2, x3, x4, hb, hg, hO, hl, hr⟩ := h
  refine (fail.calls gd x0 x1 x2 x3 x4 s.f s.d s.c n w0 w hB hg hb).mono ?_
  rintro e w' ⟨rfl, hx, hb', hk, hs⟩
  exact ⟨rfl, ⟨lab, x0, x1, x2, x3, x4, hx, hg, .inl hO, hl, (hr.only hk hl).mono (fun k hk => .inl hk)⟩, hb', hk.mono (fun k hk => by rw [hk]; exact hO)⟩
theorem fail_R {O : Nat → Prop} (hB : Below w0.heap.size w0 w) (h : RD w w0.heap.size gr O s) (n : Int) : Calls Try.prog 84 #[pv gr, .int .i64 n] w fun e w' => e = .returned (.tuple #[]) ∧ RD w' w0.heap.size gr (fun k => O k ∨ w.heap.size ≤ k) (s.failed n) ∧ Below w0.heap.size w0 w' ∧ Kept w w' O := by
  obtain ⟨x2, hb, hg, hO, hr⟩ := h
  refine (rfail.calls gr _ _ x2 s.f s.d s.c n w0 w hB hg hb).mono ?_
  rintro e w' ⟨rfl, hx, hb', hk, hs⟩
  exact ⟨rfl, ⟨x2, hx, hg, .inl hO, Kd.R_mono (Kd.R_kept hr hk (fun k h1 he => h1.2 he)) (fun k hk => ⟨.inl hk.1, hk.2⟩)⟩, hb', hk.mono (fun k hk => by rw [hk]; exact hO)⟩
theorem LS.fail (h : LS w0 w gd gl gr gm s1 g1 s2 g2 bx) (n : Int) : Calls Try.prog 64 #[pv gd, .int .i64 n] w fun e w' => e = .returned (.tuple #[]) ∧ LS w0 w' gd gl gr gm (s1.failed n) g1 s2 g2 bx := by
  refine (Bd.onP (X := Unit) (V := fun _ => .tuple #[]) (PP := fun _ => pP w0.heap.size gd gl (s1.failed n) g1) h (fun _ => fpP _ _ _ _ _) (fpQ _ _ _ _ _) (fun O1 h1 _ => ?_)).mono ?_
  · have h1' : Sep w0.heap.size (fun w O => DD w w0.heap.size gd O s1) (LX w0.heap.size gl gd g1) w O1 := h1
    obtain ⟨O3, a, -, -, back⟩ := Sep.onL h1' (frD _ _ (s1.failed n)) (frL _ _ _ _)
    refine (fail_D h.hB a n).mono ?_
    rintro e w' ⟨rfl, hd, hb, hk⟩
    exact ⟨(), rfl, (back _ hd hk).1, hb, (back _ hd hk).2⟩
  · rintro e w' ⟨-, rfl, hb⟩
    exact ⟨rfl, hb⟩
theorem LS.rfail (h : LS w0 w gd gl gr gm s1 g1 s2 g2 bx) (n : Int) : Calls Try.prog 84 #[pv gr, .int .i64 n] w fun e w' => e = .returned (.tuple #[]) ∧ LS w0 w' gd gl gr gm s1 g1 (s2.failed n) g2 bx := by
  refine (Bd.onQ (X := Unit) (V := fun _ => .tuple #[]) (QQ := fun _ => pQ w0.heap.size gr gm (s2.failed n) g2) h (fpP _ _ _ _ _) (fun _ => fpQ _ _ _ _ _) (fun O1 h1 _ => ?_)).mono ?_
  · have h1' : Sep w0.heap.size (fun w O => RD w w0.heap.size gr O s2) (RL w0.heap.size gm gr g2) w O1 := h1
    obtain ⟨O3, a, -, -, back⟩ := Sep.onL h1' (frR _ _ (s2.failed n)) (frRL _ _ _ _)
    refine (fail_R h.hB a n).mono ?_
    rintro e w' ⟨rfl, hd, hb, hk⟩
    exact ⟨(), rfl, (back _ hd hk).1, hb, (back _ hd hk).2⟩
  · rintro e w' ⟨-, rfl, hb⟩
    exact ⟨rfl, hb⟩
theorem LD.crash (h : LD w0 w gd gr s1 s2 bx) (hok : s1.ok m) (hm : m ≤ 500000000) (Ak : Option Addr) (ck : Nat) (keep : List Int) (hk : (Kd.int .i64).C w0 Ak keep.length keep) (hkl : keep.length ≤ 9223372036854775807) :
    Calls Try.prog 73 #[pv gd, .slice Ak keep.length ck] w fun e w' => e = .returned (.tuple #[]) ∧ LD w0 w' gd gr (s1.crashed keep) s2 bx := by
  refine (Bd.onP (X := Unit) (V := fun _ => .tuple #[]) (PP := fun _ => pD w0.heap.size gd (s1.crashed keep)) h (fun _ => fpD _ _ _) (fpR _ _ _) (fun O1 h1 hO => (crash.calls gd O1 s1 m Ak ck keep w0 w h.hB h1 hok (by omega) (Kd.C_kept_came (Kd.heap_int .i64) hk h.hB hO) hkl).mono (fun e w' hw => ⟨(), hw⟩))).mono ?_
  rintro e w' ⟨-, rfl, hb⟩
  exact ⟨rfl, hb⟩
theorem LD.rcrash (h : LD w0 w gd gr s1 s2 bx) (hok : s2.ok m) (hm : m ≤ 500000000) (Ak : Option Addr) (ck : Nat) (keep : List Int) (hk : (Kd.int .i64).C w0 Ak keep.length keep) (hkl : keep.length ≤ 9223372036854775807) :
    Calls Try.prog 85 #[pv gr, .slice Ak keep.length ck] w fun e w' => e = .returned (.tuple #[]) ∧ LD w0 w' gd gr s1 (s2.crashed keep) bx := by
  refine (Bd.onQ (X := Unit) (V := fun _ => .tuple #[]) (QQ := fun _ => pR w0.heap.size gr (s2.crashed keep)) h (fpD _ _ _) (fun _ => fpR _ _ _) (fun O1 h1 hO => (rcrash.calls gr O1 s2 m Ak ck keep w0 w h.hB h1 hok (by omega) (Kd.C_kept_came (Kd.heap_int .i64) hk h.hB hO) hkl).mono (fun e w' hw => ⟨(), hw⟩))).mono ?_
  rintro e w' ⟨-, rfl, hb⟩
  exact ⟨rfl, hb⟩
abbrev LO (w0 w : World) (gd gl gr : Nat) (s1 : St) (g1 : Lg) (s2 : St) (bx : List (Nat × Obj)) : Prop := Bd w0 w (pP w0.heap.size gd gl s1 g1) (pR w0.heap.size gr s2) bx
theorem LD.open_ (h : LD w0 w gd gr s1 s2 bx) (hok : s1.ok m) (hm : m ≤ 500000000) (ho : openP s1 = (0, (openP s1).2.1, some g)) :
    Calls Try.prog 63 #[pv gd] w fun e w' => ∃ gl, e = .returned (.tuple #[pv gl, .int .i64 0]) ∧ LO w0 w' gd gl gr (openP s1).2.1 g s2 bx := by
  refine Bd.onP (X := Nat) (V := fun gl => .tuple #[pv gl, .int .i64 0]) (PP := fun gl => pP w0.heap.size gd gl (openP s1).2.1 g) h (fun _ => fpP _ _ _ _ _) (fpR _ _ _) (fun O1 h1 _ => (open.calls gd O1 s1 m w0 w h.hB h1 hok (by omega)).mono (fun e w' hw => ?_))
  obtain ⟨v, e1, e2, e3, e4⟩ := hw
  rw [ho] at e1 e4
  obtain ⟨gl, rfl, e5⟩ := e4
  exact ⟨gl, e1, e5, e2, e3⟩
theorem LO.ropen (h : LO w0 w gd gl gr s1 g1 s2 bx) (hok : s2.ok m) (hm : m ≤ 500000000) (ho : openP s2 = (0, (openP s2).2.1, some g)) :
    Calls Try.prog 76 #[pv gr] w fun e w' => ∃ gm, e = .returned (.tuple #[pv gm, .int .i64 0]) ∧ LS w0 w' gd gl gr gm s1 g1 (openP s2).2.1 g bx := by
  refine Bd.onQ (X := Nat) (V := fun gm => .tuple #[pv gm, .int .i64 0]) (QQ := fun gm => pQ w0.heap.size gr gm (openP s2).2.1 g) h (fpP _ _ _ _ _) (fun _ => fpQ _ _ _ _ _) (fun O1 h1 _ => (ropen.calls gr O1 s2 m w0 w h.hB h1 hok (by omega)).mono (fun e w' hw => ?_))
  obtain ⟨v, e1, e2, e3, e4⟩ := hw
  rw [ho] at e1 e4
  obtain ⟨gm, rfl, e5⟩ := e4
  exact ⟨gm, e1, e5.hD, e2, e3⟩
end
theorem seen2 {w0 w : World} {gd gr : Nat} {X : Nat → Prop} {s1 s2 : St} {m : Nat} (h : LT w0 w gd gr X s1 s2 m) (hm : m ≤ 100000000) (f : Int) (hf : f = 0 ∨ f = 1) :
    Calls Try.prog 136 #[.pointer (some ⟨gr, 0, none⟩), .int .i64 f] w fun e w' => e = .returned (.string (seenOf s2 f)) ∧ Below w.heap.size w w' := by
  obtain ⟨O1, O2, h1, h2, h3, h4, h5, h6, h7, h8⟩ := h
  rcases hf with rfl | rfl
  · rw [seenOf0]
    exact seen.calls0 gr O2 s2 m w0.heap.size w h2 h8 (by omega)
  · rw [seenOf1]
    exact seen.calls1 gr O2 s2 m w0.heap.size w h2 h8 (by omega)
set_option maxHeartbeats 8000000 in
set_option maxRecDepth 100000 in
theorem files2.calls {w0 w : World} {gd gr : Nat} {X : Nat → Prop} {s : St} {m : Nat} (h : LT w0 w gd gr X s s m) (hm : m ≤ 100000000) :
    Calls Try.prog 62 #[.pointer (some ⟨gd, 0, none⟩), .pointer (some ⟨gr, 0, none⟩)] w fun e w' => e = .returned (.bool true) ∧ Below w.heap.size w w' := by
  have HL := Aside0.mk h
  have HM := Aside0.mk hm
  clear h hm
  go_enter Try.func62, Try.ntmps62
  go_wp2_with (fail)
  go_loopw [5] (fun v5 wr => ∃ (j : Nat), j ≤ 2 ∧ v5 = .int .i64 (j : Int) ∧ Aside0 (Below w.heap.size w wr)) (fun v5 _ => 2 - (intOf v5).toNat)
  case atStart => exact ⟨0, Nat.zero_le _, rfl, ⟨Below.refl _ _⟩⟩
  case round =>
    obtain ⟨j, hj, rfl, HBr⟩ := hrel
    rcases (show j = 0 ∨ j = 1 ∨ j = 2 by omega) with rfl | rfl | rfl
    · go_upto_region 5 with (go_at_call 136; (refine (seen2 (HL.out.below HBr.out) HM.out 0 (by decide)).mono ?_); rintro e1 w1 ⟨rfl, hb1⟩; have HB1 := Aside0.mk (below_step HBr.out hb1); clear hb1)
      cases hd : s.d with
      | true =>
        have HSZ := Aside0.mk (show s.size 0 = (0, 2) from size_down (by decide) hd)
        have HDD := Aside0.mk hd
        clear hd
        go_upto_region 6 with (go_at_call 129; (refine (((HL.out.below HB1.out).size 0)).mono ?_); rw [HSZ.out]; rintro e2 w2 ⟨rfl, hb2⟩; have HB2 := Aside0.mk (below_step HB1.out hb2.below); clear hb2)
        obtain ⟨A, c, c4, -, -⟩ := (HL.out.below HB2.out).cells
        rw [HDD.out] at c4
        go_wp2_with (go_at_call 15; (refine (relstorelaw_num.calls 2 2 _ rfl).mono ?_); rintro e3 w3 ⟨rfl, hb3⟩; have HB3 := Aside0.mk (below_step HB2.out hb3.below); clear hb3)
        go_ret
        exact ⟨rfl, HB3.out⟩
      | false =>
        have HSZ := Aside0.mk (show s.size 0 = (((seenOf s 0).size : Int), 0) from size_up (by decide) hd)
        have HRD := Aside0.mk (show s.read 0 0 ((seenOf s 0).size : Int) = (seenOf s 0, 0) from read_up HL.out.ok.1 (by decide) hd)
        have HDD := Aside0.mk hd
        clear hd
        go_upto_region 6 with (go_at_call 129; (refine (((HL.out.below HB1.out).size 0)).mono ?_); rw [HSZ.out]; rintro e2 w2 ⟨rfl, hb2⟩; have HB2 := Aside0.mk (below_step HB1.out hb2.below); clear hb2)
        obtain ⟨A, c, c4, -, -⟩ := (HL.out.below HB2.out).cells
        rw [HDD.out] at c4
        go_upto_region 9 with (go_at_call 123; (refine (((HL.out.below HB2.out).read 0 0 ((seenOf s 0).size : Int))).mono ?_); rw [HRD.out]; rintro e3 w3 ⟨rfl, hb3⟩; have HB3 := Aside0.mk (below_step HB2.out hb3.below); clear hb3)
        clear c4
        go_wp2_with (go_at_call 15; (refine (relstorelaw_num.calls 0 0 _ rfl).mono ?_); rintro e4 w4 ⟨rfl, hb4⟩; replace HB3 := Aside0.mk (below_step HB3.out hb4.below); clear hb4)
        go_roundw
        case rel => exact ⟨0 + 1, by omega, by go_num, HB3⟩
        case measure => simp [intOf]
    · go_upto_region 5 with (go_at_call 136; (refine (seen2 (HL.out.below HBr.out) HM.out 1 (by decide)).mono ?_); rintro e1 w1 ⟨rfl, hb1⟩; have HB1 := Aside0.mk (below_step HBr.out hb1); clear hb1)
      cases hd : s.d with
      | true =>
        have HSZ := Aside0.mk (show s.size 1 = (0, 2) from size_down (by decide) hd)
        have HDD := Aside0.mk hd
        clear hd
        go_upto_region 6 with (go_at_call 129; (refine (((HL.out.below HB1.out).size 1)).mono ?_); rw [HSZ.out]; rintro e2 w2 ⟨rfl, hb2⟩; have HB2 := Aside0.mk (below_step HB1.out hb2.below); clear hb2)
        obtain ⟨A, c, c4, -, -⟩ := (HL.out.below HB2.out).cells
        rw [HDD.out] at c4
        go_wp2_with (go_at_call 15; (refine (relstorelaw_num.calls 2 2 _ rfl).mono ?_); rintro e3 w3 ⟨rfl, hb3⟩; have HB3 := Aside0.mk (below_step HB2.out hb3.below); clear hb3)
        go_ret
        exact ⟨rfl, HB3.out⟩
      | false =>
        have HSZ := Aside0.mk (show s.size 1 = (((seenOf s 1).size : Int), 0) from size_up (by decide) hd)
        have HRD := Aside0.mk (show s.read 1 0 ((seenOf s 1).size : Int) = (seenOf s 1, 0) from read_up HL.out.ok.1 (by decide) hd)
        have HDD := Aside0.mk hd
        clear hd
        go_upto_region 6 with (go_at_call 129; (refine (((HL.out.below HB1.out).size 1)).mono ?_); rw [HSZ.out]; rintro e2 w2 ⟨rfl, hb2⟩; have HB2 := Aside0.mk (below_step HB1.out hb2.below); clear hb2)
        obtain ⟨A, c, c4, -, -⟩ := (HL.out.below HB2.out).cells
        rw [HDD.out] at c4
        go_upto_region 9 with (go_at_call 123; (refine (((HL.out.below HB2.out).read 1 0 ((seenOf s 1).size : Int))).mono ?_); rw [HRD.out]; rintro e3 w3 ⟨rfl, hb3⟩; have HB3 := Aside0.mk (below_step HB2.out hb3.below); clear hb3)
        clear c4
        go_wp2_with (go_at_call 15; (refine (relstorelaw_num.calls 0 0 _ rfl).mono ?_); rintro e4 w4 ⟨rfl, hb4⟩; replace HB3 := Aside0.mk (below_step HB3.out hb4.below); clear hb4)
        go_roundw
        case rel => exact ⟨1 + 1, by omega, by go_num, HB3⟩
        case measure => simp [intOf]
    · go_wp2_with (fail)
      go_ret
      exact ⟨rfl, HBr.out⟩
theorem LD.files {w0 w : World} {gd gr : Nat} {s : St} {bx : List (Nat × Obj)} {m : Nat} (h : LD w0 w gd gr s s bx) (hok : s.ok m) (hm : m ≤ 100000000) : Calls Try.prog 62 #[pv gd, pv gr] w fun e w' => e = .returned (.bool true) ∧ Below w.heap.size w w' := files2.calls (LD.lt h hok hok) hm
end Go.Proofs.Ythaoaaboempajaa.Log
namespace Go.Proofs.Ythaoaaboempajaa.Log
open Go.RowKit Go.Maps Go.Proofs.Ythaoaaboempajaa.QLogRuns Go.Proofs.Ythaoaaboempajaa.QDiskRuns Go.Proofs.Ythaoaaboempajaa.Disk Go.Proofs.YthaoaaboempajaaW.PrintWords Go.Proofs.YthaoaaboempajaaW.PrintLast Go.Proofs.YthaoaaboempajaaW.PrintMore Go.Proofs.YthaoaaboempajaaX
set_option linter.unusedVariables false
set_option linter.unusedSimpArgs false
theorem sheet_l0 (a : Int) : ∀ (d j : Nat) (xs : List Int), j + d = 1024 → xs.length = 1024 → ∀ k, d < k → ∃ r, relstorelaw_sheet.l0 k a xs 1024 (j : Int) = some r ∧ r.size = 1024
  | 0, j, xs, h, hx, k, hk => by
    obtain ⟨k, rfl⟩ : ∃ n, k = n + 1 := ⟨k - 1, by omega⟩
    unfold relstorelaw_sheet.l0
    rw [if_neg (by omega)]
    exact ⟨_, rfl, by rw [nums_size, hx]⟩
  | d + 1, j, xs, h, hx, k, hk => by
    obtain ⟨k, rfl⟩ : ∃ n, k = n + 1 := ⟨k - 1, by omega⟩
    unfold relstorelaw_sheet.l0
    rw [if_pos (by omega), if_pos (by omega), if_pos (by omega), show wrap64 ((j : Int) + 1) = ((j + 1 : Nat) : Int) by unfold wrap64; omega]
    exact sheet_l0 a d (j + 1) _ (by omega) (by rw [List.length_set, hx]) k (by omega)
theorem sheet_ex (a : Int) : ∃ r, relstorelaw_sheet.f 1025 a = some r ∧ r.size = 1024 := by
  unfold relstorelaw_sheet.f
  rw [if_pos (by decide), Option.bind_some, List.length_replicate]
  exact sheet_l0 a 1024 0 _ rfl (by rw [List.length_replicate]) 1025 (by decide)
theorem sync_up {s : St} {f : Int} (h : (s.sync f).1 = 0) : (s.sync f).2.d = false := by
  unfold St.sync at h ⊢
  split
  · rename_i hr
    rw [if_pos hr] at h
    unfold St.synced
    dsimp only at h ⊢
    rw [if_pos h]
    exact turn_up h
  · rename_i hr
    rw [if_neg hr] at h
    exact absurd h (show ¬ ((1 : Int) = 0) by decide)
theorem begin1_d {s : St} {p : Nat} (h : (begin1 s p).1 = 0) : (begin1 s p).2.d = false := by
  rw [begin1_is s p _ _ _ _ rfl rfl rfl rfl] at h ⊢
  split
  · rename_i h1
    rw [if_pos h1] at h
    exact absurd h h1
  · rename_i h1
    rw [if_neg h1] at h
    split
    · rename_i h2
      rw [if_pos h2] at h
      exact absurd h h2
    · rename_i h2
      rw [if_neg h2] at h
      split
      · rename_i h3
        rw [if_pos h3] at h
        exact absurd h h3
      · rename_i h3
        rw [if_neg h3] at h
        exact sync_up h
theorem open_d {s : St} {g : Lg} (hd : s.d = false) (h : (openP s).2.2 = some g) : (openP s).2.1.d = false := by
  by_cases hs : slotA s.s1 0 = 0 ∧ slotA s.s1 1 = 0
  · rw [openP_none hd hs] at h ⊢
    split
    · rename_i hc
      rw [if_pos hc] at h
      cases h
    · rename_i hc
      exact begin1_d (by simpa using hc)
  · rw [openP_some hd hs]
    exact hd
theorem opened {s : St} {m : Nat} (hok : s.ok m) (hf : s.f = -1) (hd : s.d = false) : ∃ g, openP s = (0, (openP s).2.1, some g) ∧ Good (openP s).2.1 g ∧ (openP s).2.1.ok (m + 4) ∧ (openP s).2.1.d = false := by
  obtain ⟨g, hg⟩ := open_up hf hd
  have h2 : (openP s).2.2 = some g := by rw [hg]
  exact ⟨g, hg, (open_good hok).2 g h2, (open_good hok).1, open_d hd h2⟩
end Go.Proofs.Ythaoaaboempajaa.Log
namespace Go.Proofs.Ythaoaaboempajaa.Log
open Go.RowKit Go.Maps Go.Proofs.Ythaoaaboempajaa.QLogRuns Go.Proofs.Ythaoaaboempajaa.QDiskRuns Go.Proofs.Ythaoaaboempajaa.Disk Go.Proofs.YthaoaaboempajaaW.PrintWords Go.Proofs.YthaoaaboempajaaW.PrintLast Go.Proofs.YthaoaaboempajaaW.PrintMore Go.Proofs.YthaoaaboempajaaX
set_option linter.unusedVariables false
set_option linter.unusedSimpArgs false
def bAt (l : ByteArray) (i : Nat) : Nat := u8 l.data.toList i
theorem bAt_out {l : ByteArray} {i : Nat} (h : l.size ≤ i) : bAt l i = 0 := by
  unfold bAt u8
  rw [List.getD_eq_getElem?_getD, List.getElem?_eq_none (by rw [data_length]; exact h)]
  rfl
theorem bAt_append (a b : ByteArray) (i : Nat) : bAt (a ++ b) i = if i < a.size then bAt a i else bAt b (i - a.size) := by
  unfold bAt u8
  rw [ByteArray.data_append, Array.toList_append, List.getD_eq_getElem?_getD, List.getD_eq_getElem?_getD, List.getD_eq_getElem?_getD]
  split
  · rename_i h
    rw [List.getElem?_append_left (by rw [data_length]; exact h)]
  · rename_i h
    rw [List.getElem?_append_right (by rw [data_length]; omega), data_length]
theorem bAt_extract (s : ByteArray) (a b i : Nat) (hb : b ≤ s.size) : bAt (s.extract a b) i = if i < b - a then bAt s (a + i) else 0 := by
  unfold bAt u8
  rw [extract_list, List.getD_eq_getElem?_getD, List.getD_eq_getElem?_getD, List.getElem?_take, List.getElem?_drop]
  split <;> rfl
theorem bAt_zeros (n i : Nat) : bAt (zerosB n) i = 0 := by
  unfold bAt u8 zerosB
  rw [List.getD_eq_getElem?_getD]
  show (((List.replicate n (0 : UInt8))[i]?).getD 0).toNat = 0
  rw [List.getElem?_replicate]
  split <;> rfl
theorem bAt_fill (s : ByteArray) (n i : Nat) : bAt (fillB s n) i = bAt s i := by
  unfold fillB
  split
  · rfl
  · rw [bAt_append]
    split
    · rfl
    · rename_i h
      rw [bAt_zeros, bAt_out (by omega)]
theorem bAt_put (s : ByteArray) (a : Nat) (t : ByteArray) (i : Nat) : bAt (putB s a t) i = if a ≤ i ∧ i < a + t.size then bAt t (i - a) else bAt s i := by
  have hf := size_fillB s (a + t.size)
  have h1 : ((fillB s (a + t.size)).extract 0 a).size = a := by rw [size_extract _ _ _ (by omega)]; omega
  unfold putB
  rw [bAt_append, ByteArray.size_append, h1, bAt_append, h1, bAt_extract _ _ _ _ (by omega), bAt_extract _ _ _ _ (Nat.le_refl _), bAt_fill, bAt_fill]
  by_cases c1 : i < a
  · rw [if_pos (by omega), if_pos c1, if_pos (by omega), if_neg (by omega), Nat.zero_add]
  · by_cases c2 : i < a + t.size
    · rw [if_pos c2, if_neg c1, if_pos ⟨by omega, c2⟩]
    · rw [if_neg c2, if_neg (by omega : ¬ (a ≤ i ∧ i < a + t.size))]
      split
      · congr 1; omega
      · rename_i c3
        rw [bAt_out (by omega)]
theorem bytes_at {a b : ByteArray} (hs : a.size = b.size) (h : ∀ i, i < a.size → bAt a i = bAt b i) : a = b := by
  apply bytes_ext
  apply List.ext_getElem
  · rw [data_length, data_length, hs]
  · intro i h1 h2
    have e := h i (by rw [data_length] at h1; exact h1)
    unfold bAt u8 at e
    rw [List.getD_eq_getElem?_getD, List.getD_eq_getElem?_getD, List.getElem?_eq_getElem h1, List.getElem?_eq_getElem h2] at e
    exact UInt8.toNat_inj.1 e
theorem u32_bytes (l l' : ByteArray) (a b : Nat) (h : ∀ i, i < 4 → bAt l (a + i) = bAt l' (b + i)) : u32 l.data.toList a = u32 l'.data.toList b := by
  have h0 := h 0 (by omega)
  have h1 := h 1 (by omega)
  have h2 := h 2 (by omega)
  have h3 := h 3 (by omega)
  unfold bAt at h0 h1 h2 h3
  rw [Nat.add_zero, Nat.add_zero] at h0
  unfold u32
  rw [h0, h1, h2, h3]
theorem extract_at {s s' : ByteArray} {a b : Nat} (hb : b ≤ s.size) (hb' : b ≤ s'.size) (h : ∀ i, a ≤ i → i < b → bAt s' i = bAt s i) : s'.extract a b = s.extract a b := by
  apply bytes_at
  · rw [size_extract _ _ _ hb, size_extract _ _ _ hb']
  · intro i hi
    rw [size_extract _ _ _ hb'] at hi
    rw [bAt_extract _ _ _ _ hb, bAt_extract _ _ _ _ hb', if_pos hi, if_pos hi]
    exact h _ (by omega) (by omega)
def o12 (l : ByteArray) (k : Nat) : Nat := u32 l.data.toList (28 + 24 * k)
structure Tells (l : ByteArray) (g : Lg) : Prop where
  slot01 : g.slot = 0 ∨ g.slot = 1
  num : 1 ≤ g.number ∧ g.number ≤ 3
  kept : g.kept ≤ 65280
  pages : g.pages ≤ 4294967295
  size : 40 + 24 * g.slot ≤ l.size
  mark : (l.extract 0 16).toList = markL
  slot : slotT l g.slot = slotB g.number g.kept g.pages
  room : g.kept = 0 ∨ 64 + 1028 * g.kept ≤ l.size
  other : o12 l (1 - g.slot) = 0 ∨ o12 l (1 - g.slot) % 3 + 1 = g.number
theorem o12_slot {l : ByteArray} {k : Nat} (hs : 40 + 24 * k ≤ l.size) : tn (slotT l k) 12 = o12 l k := by
  unfold tn o12 slotT
  refine u32_bytes _ _ _ _ (fun i hi => ?_)
  rw [bAt_extract _ _ _ _ hs, if_pos (by omega)]
  congr 1
  omega
theorem other_of {l : ByteArray} {g : Lg} (h : o12 l (1 - g.slot) = 0 ∨ o12 l (1 - g.slot) % 3 + 1 = g.number) : ∀ x, slotOfB l (1 - g.slot) = some x → x.1 % 3 + 1 = g.number := by
  intro x hx
  unfold slotOfB at hx
  split at hx
  · simp at hx
  · rename_i hs
    split at hx
    · rename_i hok
      injection hx with hx
      subst hx
      have hz : (slotT l (1 - g.slot)).size = 24 := by unfold slotT; rw [size_extract _ _ _ (by omega)]; omega
      have a1 := tn_drop (slotT l (1 - g.slot)) 0 12 (by omega) (by omega)
      have a2 := tn_drop (slotT l (1 - g.slot)) 12 24 (by omega) (by omega)
      have e12 : tn (slotT l (1 - g.slot)) 12 = tn (slotT l (1 - g.slot)) 0 := by rw [← a1, ← a2, hok.1]
      rw [o12_slot (by omega)] at e12
      have := hok.2.1
      show tn (slotT l (1 - g.slot)) 0 % 3 + 1 = _
      omega
    · simp at hx
theorem slotB_tn (n f p : Nat) (hn : n < 4294967296) (hf : f < 4294967296) (hp : p < 4294967296) : tn (slotB n f p) 0 = n ∧ tn (slotB n f p) 4 = f ∧ tn (slotB n f p) 8 = p := by
  have hs : (slotB n f p).size = 24 := size_slot n f p
  have e0 : ∀ a, a + 4 ≤ 24 → tn (slotB n f p) a = u32 ((slotB n f p).extract a (a + 4)).data.toList 0 := fun a ha => (tn_drop (slotB n f p) a (a + 4) (Nat.le_refl _) (by omega)).symm
  have l1 : (slotB n f p).data.toList = (fourB n).data.toList ++ ((fourB f).data.toList ++ ((fourB p).data.toList ++ (twelve n f p).data.toList)) := by
    unfold slotB
    rw [ByteArray.data_append, Array.toList_append]
    conv => lhs; arg 1; unfold twelve; rw [ByteArray.data_append, Array.toList_append, ByteArray.data_append, Array.toList_append]
    simp only [List.append_assoc]
  have s4 : ∀ x, (fourB x).data.toList.length = 4 := fun x => by rw [data_length, size_four]
  refine ⟨?_, ?_, ?_⟩
  · rw [e0 0 (by omega), extract_list, l1, List.drop_zero, List.take_append_of_le_length (by rw [s4]; omega), List.take_of_length_le (by rw [s4]; omega)]
    have := u32_four n hn []
    rwa [List.append_nil] at this
  · rw [e0 4 (by omega), extract_list, l1, List.drop_append, List.drop_of_length_le (by rw [s4]; omega), List.nil_append, s4, Nat.sub_self, List.drop_zero, List.take_append_of_le_length (by rw [s4]; omega), List.take_of_length_le (by rw [s4]; omega)]
    have := u32_four f hf []
    rwa [List.append_nil] at this
  · rw [e0 8 (by omega), extract_list, l1, List.drop_append, List.drop_of_length_le (by rw [s4]; omega), List.nil_append, s4, List.drop_append, List.drop_of_length_le (by rw [s4]; omega), List.nil_append, s4, show 8 - 4 - 4 = 0 by rfl, List.drop_zero, List.take_append_of_le_length (by rw [s4]; omega), List.take_of_length_le (by rw [s4]; omega)]
    have := u32_four p hp []
    rwa [List.append_nil] at this
theorem slotB_12 (n f p : Nat) (hn : n < 4294967296) (hf : f < 4294967296) (hp : p < 4294967296) : tn (slotB n f p) 12 = n := by
  have hz : (slotB n f p).size = 24 := size_slot n f p
  have hh : (slotB n f p).extract 0 12 = (slotB n f p).extract 12 24 := (slot_text _ hz).1 (by obtain ⟨t0, t1, t2⟩ := slotB_tn n f p hn hf hp; rw [t0, t1, t2])
  have a1 := tn_drop (slotB n f p) 0 12 (by omega) (by omega)
  have a2 := tn_drop (slotB n f p) 12 24 (by omega) (by omega)
  rw [← a2, ← hh, a1]
  exact (slotB_tn n f p hn hf hp).1
theorem Tells.at_ {l : ByteArray} {g : Lg} (h : Tells l g) : slotOfB l g.slot = some (g.number, g.kept, g.pages) := by
  have h1 := h.size
  have h2 := h.slot
  have hk := h.kept
  have hp := h.pages
  have hn := h.num
  obtain ⟨t0, t1, t2⟩ := slotB_tn g.number g.kept g.pages (by omega) (by omega) (by omega)
  have hok : slotOk l (slotB g.number g.kept g.pages) := by
    refine ⟨?_, by rw [t0]; exact hn.1, by rw [t0]; exact hn.2, ?_⟩
    · exact (slot_text _ (size_slot _ _ _)).1 (by rw [t0, t1, t2])
    · rw [t1]; exact h.room
  unfold slotOfB
  rw [if_neg (by omega), h2, if_pos hok, t0, t1, t2]
theorem Tells.opens {s : St} {g : Lg} (h : Tells s.s1 g) (hd : s.d = false) : openP s = (0, s, some ⟨framesOf s.s1 g.kept, g.kept, g.pages, g.slot, g.number⟩) := by
  have h1 := h.size
  have hn := h.num
  have hm : ¬ (s.s1.size < 16 ∨ (s.s1.extract 0 16).toList ≠ markL) := fun e => e.elim (by omega) (fun e => e h.mark)
  have hA : ∀ k, slotA s.s1 k = (slot3 s.s1 k).1 := fun k => by unfold slotA; rw [if_neg hm]
  have hg := slot3_some h.at_
  have ho : (slot3 s.s1 (1 - g.slot)).1 = 0 ∨ (slot3 s.s1 (1 - g.slot)).1 % 3 + 1 = g.number := by
    cases e : slotOfB s.s1 (1 - g.slot) with
    | none => rw [slot3_none e]; exact .inl rfl
    | some x => rw [slot3_some e]; exact .inr (other_of h.other x e)
  have hw : whichS (slotA s.s1 0) (slotA s.s1 1) = g.slot := by
    rw [hA, hA]
    unfold whichS
    rcases h.slot01 with e | e
    · have h3 := (slot3_le (t := s.s1) 1).1
      rw [e] at hg ho ⊢
      rw [Nat.sub_zero] at ho
      rw [hg]
      simp only at ho ⊢
      rw [if_neg (by omega)]
    · rw [e] at hg ho ⊢
      rw [Nat.sub_self] at ho
      rw [hg]
      simp only at ho ⊢
      rw [if_pos (by omega)]
  have hne : ¬ (slotA s.s1 0 = 0 ∧ slotA s.s1 1 = 0) := by
    rw [hA, hA]
    rcases h.slot01 with e | e
    · rw [e] at hg
      rw [hg]
      simp only
      omega
    · rw [e] at hg
      rw [hg]
      simp only
      omega
  rw [openP_some hd hne, hw]
  unfold byS
  rw [hg]
theorem o12_put (l : ByteArray) (a : Nat) (x : ByteArray) (k : Nat) (h : a + x.size ≤ 28 + 24 * k ∨ 32 + 24 * k ≤ a) : o12 (putB l a x) k = o12 l k := by
  unfold o12
  refine u32_bytes _ _ _ _ (fun i hi => ?_)
  rw [bAt_put, if_neg (by omega)]
theorem Tells.behind {l : ByteArray} {g : Lg} (h : Tells l g) (a : Nat) (x : ByteArray) (ha : 64 ≤ a) : Tells (putB l a x) g := by
  have hs := h.size
  have hz := size_putB l a x
  have h01 := h.slot01
  refine ⟨h.slot01, h.num, h.kept, h.pages, by omega, ?_, ?_, ?_, ?_⟩
  · rw [extract_at (s := l) (by omega) (by omega) (fun i _ hi => by rw [bAt_put, if_neg (by omega)])]
    exact h.mark
  · unfold slotT
    rw [extract_at (s := l) (by omega) (by omega) (fun i _ hi => by rw [bAt_put, if_neg (by omega)])]
    exact h.slot
  · have := h.room; omega
  · rw [o12_put _ _ _ _ (by omega)]
    exact h.other
theorem Tells.half {l : ByteArray} {g : Lg} (h : Tells l g) (x : ByteArray) (hx : x.size = 12) : Tells (putB l (16 + 24 * (1 - g.slot)) x) g := by
  have hs := h.size
  have hz := size_putB l (16 + 24 * (1 - g.slot)) x
  have h01 := h.slot01
  refine ⟨h.slot01, h.num, h.kept, h.pages, by omega, ?_, ?_, ?_, ?_⟩
  · rw [extract_at (s := l) (by omega) (by omega) (fun i _ hi => by rw [bAt_put, if_neg (by omega)])]
    exact h.mark
  · unfold slotT
    rw [extract_at (s := l) (by omega) (by omega) (fun i _ hi => by rw [bAt_put, if_neg (by omega)])]
    exact h.slot
  · have := h.room; omega
  · rw [o12_put _ _ _ _ (by omega)]
    exact h.other
theorem Tells.full {l : ByteArray} {g : Lg} (h : Tells l g) (f p : Nat) (hf : f ≤ 65280) (hp : p ≤ 4294967295) (hr : f = 0 ∨ 64 + 1028 * f ≤ l.size) (fr : List (Nat × ByteArray)) :
    Tells (putB l (16 + 24 * (1 - g.slot)) (slotB (g.number % 3 + 1) f p)) ⟨fr, f, p, 1 - g.slot, g.number % 3 + 1⟩ := by
  have hs := h.size
  have hn := h.num
  have hk := h.kept
  have hpp := h.pages
  have hz := size_putB l (16 + 24 * (1 - g.slot)) (slotB (g.number % 3 + 1) f p)
  have hx : (slotB (g.number % 3 + 1) f p).size = 24 := size_slot _ _ _
  have h01 := h.slot01
  have hsl : slotT l g.slot = slotB g.number g.kept g.pages := h.slot
  refine ⟨?_, ?_, hf, hp, ?_, ?_, ?_, ?_, ?_⟩
  · show 1 - g.slot = 0 ∨ 1 - g.slot = 1
    omega
  · show 1 ≤ g.number % 3 + 1 ∧ g.number % 3 + 1 ≤ 3
    omega
  · show 40 + 24 * (1 - g.slot) ≤ _
    omega
  · rw [extract_at (s := l) (by omega) (by omega) (fun i _ hi => by rw [bAt_put, if_neg (by omega)])]
    exact h.mark
  · show (putB l (16 + 24 * (1 - g.slot)) (slotB (g.number % 3 + 1) f p)).extract (16 + 24 * (1 - g.slot)) (40 + 24 * (1 - g.slot)) = _
    have := putB_at l (16 + 24 * (1 - g.slot)) (slotB (g.number % 3 + 1) f p)
    rw [hx, show 16 + 24 * (1 - g.slot) + 24 = 40 + 24 * (1 - g.slot) by omega] at this
    exact this
  · show f = 0 ∨ 64 + 1028 * f ≤ _
    omega
  · show o12 _ (1 - (1 - g.slot)) = 0 ∨ o12 _ (1 - (1 - g.slot)) % 3 + 1 = g.number % 3 + 1
    rw [show 1 - (1 - g.slot) = g.slot by omega, o12_put _ _ _ _ (by omega), ← o12_slot (by omega), hsl, slotB_12 _ _ _ (by omega) (by omega) (by omega)]
    exact .inr rfl
end Go.Proofs.Ythaoaaboempajaa.Log
namespace Go.Proofs.Ythaoaaboempajaa.Log
open Go.RowKit Go.Maps Go.Proofs.Ythaoaaboempajaa.QLogRuns Go.Proofs.Ythaoaaboempajaa.QDiskRuns Go.Proofs.Ythaoaaboempajaa.Disk Go.Proofs.YthaoaaboempajaaW.PrintWords Go.Proofs.YthaoaaboempajaaW.PrintLast Go.Proofs.YthaoaaboempajaaW.PrintMore Go.Proofs.YthaoaaboempajaaX
set_option linter.unusedVariables false
set_option linter.unusedSimpArgs false
theorem Holds.behind {t : ByteArray} {fr : List (Nat × ByteArray)} (h : Holds t fr) (a : Nat) (x : ByteArray) (ha : 64 + 1028 * fr.length ≤ a) : Holds (putB t a x) fr := by
  intro i hi
  obtain ⟨h1, h2⟩ := h i hi
  have hs : 64 + 1028 * (i + 1) ≤ (putB t a x).size := by rw [size_putB]; omega
  exact ⟨hs, (frame_ext h1 hs (putB_low t a x _ _ (by omega) h1)).trans h2⟩
theorem Holds.frames {t : ByteArray} {fr : List (Nat × ByteArray)} (h : Holds t fr) : framesOf t fr.length = fr := by
  apply List.ext_getElem
  · rw [framesOf_len]
  · intro i h1 h2
    obtain ⟨-, e⟩ := h i h2
    simp only [framesOf, List.getElem_map, List.getElem_range, e]
    unfold frD_
    rw [List.getD_eq_getElem?_getD, List.getElem?_eq_getElem h2, Option.getD_some]
theorem kept1_put (h : Int) (c : Chg) (f : Int) (s : ByteArray) (hc : c.cut = false) : kept1 h c f s = s ∨ ∃ x : ByteArray, kept1 h c f s = putB s c.at_ x ∧ x.size ≤ c.text.size := by
  unfold kept1
  split
  · right
    unfold onB
    split
    · refine ⟨(halved c).text, ?_, (halved_le c).2.1⟩
      rw [if_neg (by unfold halved; rw [if_neg (by rw [hc]; decide)]; rw [hc]; decide), (halved_le c).1]
    · exact ⟨c.text, by rw [if_neg (by rw [hc]; decide)], Nat.le_refl _⟩
  · exact .inl rfl
def Behind (ws : List Chg) (k : Nat) : Prop := ∀ c ∈ ws, c.file = 1 → c.cut = false ∧ 64 + 1028 * k ≤ c.at_
theorem crash_behind {g : Lg} {fr : List (Nat × ByteArray)} (keep : List Int) : ∀ (ws : List Chg) (i : Nat) (l : ByteArray), Tells l g → Holds l fr → fr.length = g.kept → Behind ws g.kept → Tells (crashB 1 keep i ws l) g ∧ Holds (crashB 1 keep i ws l) fr
  | [], _, l, ht, hh, _, _ => ⟨ht, hh⟩
  | c :: ws, i, l, ht, hh, hk, hb => by
    have hb2 : Behind ws g.kept := fun c' hc' => hb c' (by simp [hc'])
    by_cases hf : c.file = 1
    · obtain ⟨hc, ha⟩ := hb c (by simp) hf
      rcases kept1_put (howOf keep i) c 1 l hc with e | ⟨x, e, -⟩
      · show Tells (crashB 1 keep (i + 1) ws (kept1 (howOf keep i) c 1 l)) g ∧ _
        rw [crashB, e]
        exact crash_behind keep ws (i + 1) l ht hh hk hb2
      · rw [crashB, e]
        exact crash_behind keep ws (i + 1) _ (ht.behind _ _ (by omega)) (hh.behind _ _ (by omega)) hk hb2
    · have e : kept1 (howOf keep i) c 1 l = l := by unfold kept1; rw [if_neg (fun h => hf h.1)]
      rw [crashB, e]
      exact crash_behind keep ws (i + 1) l ht hh hk hb2
theorem seen_behind {g : Lg} : ∀ (ws : List Chg) (l : ByteArray), Tells l g → Behind ws g.kept → Tells (seenB 1 ws l) g
  | [], l, ht, _ => ht
  | c :: ws, l, ht, hb => by
    have hb2 : Behind ws g.kept := fun c' hc' => hb c' (by simp [hc'])
    by_cases hf : c.file = 1
    · obtain ⟨hc, ha⟩ := hb c (by simp) hf
      have e : seenB 1 (c :: ws) l = seenB 1 ws (putB l c.at_ c.text) := by
        unfold seenB
        rw [List.foldl_cons, if_pos hf]
        unfold onB
        rw [if_neg (by rw [hc]; decide)]
      rw [e]
      exact seen_behind ws _ (ht.behind _ _ (by omega)) hb2
    · have e : seenB 1 (c :: ws) l = seenB 1 ws l := by
        unfold seenB
        rw [List.foldl_cons, if_neg hf]
      rw [e]
      exact seen_behind ws l ht hb2
theorem crash_none (f : Int) (keep : List Int) : ∀ (ws : List Chg) (i : Nat) (l : ByteArray), (∀ c ∈ ws, c.file ≠ f) → crashB f keep i ws l = l
  | [], _, _, _ => rfl
  | c :: ws, i, l, h => by
    have e : kept1 (howOf keep i) c f l = l := by unfold kept1; rw [if_neg (fun h2 => h c (by simp) h2.1)]
    rw [crashB, e]
    exact crash_none f keep ws (i + 1) l (fun c' hc' => h c' (by simp [hc']))
def PgAt (b : ByteArray) (fr : List (Nat × ByteArray)) (M : Nat → Option ByteArray) (n : Nat) : Prop :=
  match M n with
  | some t => (idx fr (n : Int) = 0 → 1024 * (n + 1) ≤ b.size ∧ b.extract (1024 * n) (1024 * (n + 1)) = t) ∧ (idx fr (n : Int) ≠ 0 → textAt fr (idx fr (n : Int)) = t)
  | none => idx fr (n : Int) = 0 ∧ ∀ i, 1024 * n ≤ i → i < 1024 * (n + 1) → bAt b i = 0
def Pg (b : ByteArray) (fr : List (Nat × ByteArray)) (M : Nat → Option ByteArray) : Prop := ∀ n, n < 6 → PgAt b fr M n
theorem Pg.same {b b' : ByteArray} {fr : List (Nat × ByteArray)} {M : Nat → Option ByteArray} (h : Pg b fr M) (hb : ∀ n : Nat, n < 6 → idx fr (n : Int) = 0 → (∀ i, 1024 * n ≤ i → i < 1024 * (n + 1) → bAt b' i = bAt b i) ∧ (1024 * (n + 1) ≤ b.size → 1024 * (n + 1) ≤ b'.size)) : Pg b' fr M := by
  intro n hn
  have h1 := h n hn
  unfold PgAt at h1 ⊢
  cases hm : M n with
  | none =>
    rw [hm] at h1
    obtain ⟨h2, h3⟩ := h1
    exact ⟨h2, fun i a c => by rw [(hb n hn h2).1 i a c]; exact h3 i a c⟩
  | some t =>
    rw [hm] at h1
    obtain ⟨h2, h3⟩ := h1
    refine ⟨fun hi => ?_, h3⟩
    obtain ⟨h4, h5⟩ := h2 hi
    obtain ⟨h6, h7⟩ := hb n hn hi
    exact ⟨h7 h4, (extract_at h4 (h7 h4) (fun i a c => h6 i a c)).trans h5⟩
theorem Pg.put {b : ByteArray} {fr : List (Nat × ByteArray)} {M : Nat → Option ByteArray} (h : Pg b fr M) (k : Nat) (hk : idx fr (k : Int) ≠ 0) (x : ByteArray) (hx : x.size ≤ 1024) : Pg (putB b (1024 * k) x) fr M := by
  refine h.same (fun n hn hi => ⟨fun i a c => ?_, fun hs => by rw [size_putB]; omega⟩)
  have hne : n ≠ k := fun e => hk (by rw [← e]; exact hi)
  rw [bAt_put, if_neg (by omega)]
theorem Pg.cut {b : ByteArray} {fr : List (Nat × ByteArray)} {M : Nat → Option ByteArray} (h : Pg b fr M) (N : Nat) (hN : 6144 ≤ N) : Pg ((fillB b N).extract 0 N) fr M := by
  have hf := size_fillB b N
  refine h.same (fun n hn hi => ⟨fun i a c => ?_, fun hs => by rw [size_extract _ _ _ (by omega)]; omega⟩)
  rw [bAt_extract _ _ _ _ (by omega), if_pos (by omega), Nat.zero_add, bAt_fill]
end Go.Proofs.Ythaoaaboempajaa.Log
namespace Go.Proofs.Ythaoaaboempajaa.Log
open Go.RowKit Go.Maps Go.Proofs.Ythaoaaboempajaa.QLogRuns Go.Proofs.Ythaoaaboempajaa.QDiskRuns Go.Proofs.Ythaoaaboempajaa.Disk Go.Proofs.YthaoaaboempajaaW.PrintWords Go.Proofs.YthaoaaboempajaaW.PrintLast Go.Proofs.YthaoaaboempajaaW.PrintMore Go.Proofs.YthaoaaboempajaaX
set_option linter.unusedVariables false
set_option linter.unusedSimpArgs false
abbrev PM := Nat → Option ByteArray
def withM (M : PM) (n : Nat) (t : ByteArray) : PM := fun m => if m = n then some t else M m
theorem turn_two {f : Int} {d : Bool} {c : Int} (hd : d = false) : ((turn f d c).1 = 0 ∧ (turn f d c).2.2.1 = false) ∨ ((turn f d c).1 = 2 ∧ (turn f d c).2.2.1 = true) := by
  subst hd
  unfold turn
  split
  · exact .inr ⟨rfl, rfl⟩
  · exact .inl ⟨rfl, rfl⟩
structure Is (s : St) (l0 l1 : ByteArray) (ws : List Chg) (d : Bool) : Prop where
  l0 : s.l0 = l0
  l1 : s.l1 = l1
  ws : s.ws = ws
  d : s.d = d
theorem write_two {s : St} {f a : Int} {t : ByteArray} (hr : rightB f a t.size = true) (hd : s.d = false) :
    ((s.write f a t).1 = 0 ∧ Is (s.write f a t).2 s.l0 s.l1 (s.ws ++ [⟨f, a.toNat, t, false⟩]) false) ∨ ((s.write f a t).1 = 2 ∧ Is (s.write f a t).2 s.l0 s.l1 s.ws true) := by
  unfold St.write
  rw [if_pos hr]
  unfold St.changed
  rcases turn_two (f := s.f) (c := s.c) hd with ⟨e0, e1⟩ | ⟨e0, e1⟩
  · left
    refine ⟨e0, ?_⟩
    dsimp only
    rw [if_pos e0]
    exact ⟨rfl, rfl, rfl, e1⟩
  · right
    refine ⟨e0, ?_⟩
    dsimp only
    rw [if_neg (by rw [e0]; decide)]
    exact ⟨rfl, rfl, rfl, e1⟩
theorem cut_two {s : St} {f a : Int} (hr : rightB f a 0 = true) (hd : s.d = false) :
    ((s.cutTo f a).1 = 0 ∧ Is (s.cutTo f a).2 s.l0 s.l1 (s.ws ++ [⟨f, a.toNat, ByteArray.empty, true⟩]) false) ∨ ((s.cutTo f a).1 = 2 ∧ Is (s.cutTo f a).2 s.l0 s.l1 s.ws true) := by
  unfold St.cutTo
  rw [if_pos hr]
  unfold St.changed
  rcases turn_two (f := s.f) (c := s.c) hd with ⟨e0, e1⟩ | ⟨e0, e1⟩
  · left
    refine ⟨e0, ?_⟩
    dsimp only
    rw [if_pos e0]
    exact ⟨rfl, rfl, rfl, e1⟩
  · right
    refine ⟨e0, ?_⟩
    dsimp only
    rw [if_neg (by rw [e0]; decide)]
    exact ⟨rfl, rfl, rfl, e1⟩
theorem sync_two {s : St} {f : Int} (hr : rightB f 0 0 = true) (hd : s.d = false) :
    ((s.sync f).1 = 0 ∧ Is (s.sync f).2 (if f = 0 then s.s0 else s.l0) (if f = 1 then s.s1 else s.l1) (others f s.ws) false) ∨ ((s.sync f).1 = 2 ∧ Is (s.sync f).2 s.l0 s.l1 s.ws true) := by
  unfold St.sync
  rw [if_pos hr]
  unfold St.synced
  rcases turn_two (f := s.f) (c := s.c) hd with ⟨e0, e1⟩ | ⟨e0, e1⟩
  · left
    refine ⟨e0, ?_⟩
    dsimp only
    rw [if_pos e0]
    exact ⟨rfl, rfl, rfl, e1⟩
  · right
    refine ⟨e0, ?_⟩
    dsimp only
    rw [if_neg (by rw [e0]; decide)]
    exact ⟨rfl, rfl, rfl, e1⟩
def Fin (s : St) (M : PM) : Prop := ∃ (g : Lg) (fr : List (Nat × ByteArray)), s.ws = [] ∧ s.d = false ∧ Tells s.l1 g ∧ Holds s.l1 fr ∧ fr.length = g.kept ∧ Pg s.l0 fr M
theorem fin_of {s : St} {g : Lg} {fr : List (Nat × ByteArray)} {M : PM} (hw : s.ws = []) (hd : s.d = false) (ht : Tells s.l1 g) (hh : Holds s.l1 fr) (hk : fr.length = g.kept) (hp : Pg s.l0 fr M) : Fin s M :=
  ⟨g, fr, hw, hd, ht, hh, hk, hp⟩
theorem Fin.of {s s' : St} {M : PM} (h : Fin s M) (h0 : s'.l0 = s.l0) (h1 : s'.l1 = s.l1) (hw : s'.ws = []) (hd : s'.d = false) : Fin s' M := by
  obtain ⟨g, fr, -, -, a, b, c, d⟩ := h
  exact ⟨g, fr, hw, hd, by rw [h1]; exact a, by rw [h1]; exact b, c, by rw [h0]; exact d⟩
theorem Fin.opens {s : St} {M : PM} (h : Fin s M) : ∃ g', openP s = (0, s, some g') ∧ Pg s.s0 g'.fr M := by
  obtain ⟨g, fr, hw, hd, ht, hh, hk, hp⟩ := h
  have e0 : s.s0 = s.l0 := by unfold St.s0; rw [hw]; rfl
  have e1 : s.s1 = s.l1 := by unfold St.s1; rw [hw]; rfl
  refine ⟨_, Tells.opens (g := g) (by rw [e1]; exact ht) hd, ?_⟩
  rw [e0, e1, ← hk, hh.frames]
  exact hp
theorem Fin.failed {s : St} {M : PM} (h : Fin s M) (n : Int) : Fin (s.failed n) M := by
  obtain ⟨g, fr, hw, hd, r⟩ := h
  exact ⟨g, fr, hw, hd, r⟩
theorem Fin.crashed {s : St} {M : PM} (h : Fin s M) (keep : List Int) : Fin (s.crashed keep) M := by
  obtain ⟨g, fr, hw, hd, r⟩ := h
  have e0 : (s.crashed keep).l0 = s.l0 := by show crashB 0 keep 0 s.ws s.l0 = _; rw [hw]; rfl
  have e1 : (s.crashed keep).l1 = s.l1 := by show crashB 1 keep 0 s.ws s.l1 = _; rw [hw]; rfl
  exact Fin.of ⟨g, fr, hw, hd, r⟩ e0 e1 rfl rfl
structure Stored (s : St) (g : Lg) (KM : PM) : Prop where
  tells : Tells s.l1 g
  held : Holds s.l1 (g.fr.take g.kept)
  ws : ∀ c ∈ s.ws, c.file = 1 ∧ c.cut = false ∧ 64 + 1028 * g.kept ≤ c.at_
  pg : Pg s.l0 (g.fr.take g.kept) KM
  le : g.kept ≤ g.fr.length
theorem Stored.crash {s : St} {g : Lg} {KM : PM} (h : Stored s g KM) (keep : List Int) : Fin (s.crashed keep) KM := by
  have hk : (g.fr.take g.kept).length = g.kept := by rw [List.length_take]; have := h.le; omega
  have hc := crash_behind keep s.ws 0 s.l1 h.tells h.held hk (fun c hc _ => (h.ws c hc).2)
  have h0 : crashB 0 keep 0 s.ws s.l0 = s.l0 := crash_none 0 keep s.ws 0 s.l0 (fun c hc e => by have := (h.ws c hc).1; omega)
  refine fin_of (g := g) (fr := g.fr.take g.kept) rfl rfl hc.1 hc.2 hk ?_
  show Pg (crashB 0 keep 0 s.ws s.l0) _ _
  rw [h0]
  exact h.pg
theorem Stored.of {s s' : St} {g : Lg} {KM : PM} {d : Bool} (h : Stored s g KM) (hi : Is s' s.l0 s.l1 s.ws d) : Stored s' g KM :=
  ⟨by rw [hi.l1]; exact h.tells, by rw [hi.l1]; exact h.held, by rw [hi.ws]; exact h.ws, by rw [hi.l0]; exact h.pg, h.le⟩
structure Clean (s : St) (g : Lg) (KM NM : PM) : Prop where
  d : s.d = false
  good : Good s g
  st : Stored s g KM
  now : Pg s.l0 g.fr NM
  pages : 0 < g.kept → g.pages = 6
  same : g.fr.length = g.kept → NM = KM
theorem take_append_self {α : Type} (l m : List α) (k : Nat) (h : k ≤ l.length) : (l ++ m).take k = l.take k := by
  rw [List.take_append_of_le_length h]
theorem textAt_old (fr : List (Nat × ByteArray)) (c : Nat × ByteArray) (i : Int) (h : 0 < i) (hi : i ≤ fr.length) : textAt (fr ++ [c]) i = textAt fr i := by
  unfold textAt
  rw [frD_init _ _ _ (by omega)]
theorem Pg.snoc {b : ByteArray} {fr : List (Nat × ByteArray)} {M : PM} (h : Pg b fr M) (n : Nat) (t : ByteArray) : Pg b (fr ++ [(n, t)]) (withM M n t) := by
  intro m hm
  have h1 := h m hm
  have hle := idx_le fr (m : Int)
  unfold PgAt at h1 ⊢
  unfold withM
  rw [idx_snoc]
  by_cases e : m = n
  · subst e
    rw [if_pos rfl]
    simp only [if_true]
    refine ⟨fun h => by omega, fun _ => ?_⟩
    unfold textAt
    rw [show (((fr.length + 1 : Nat) : Int).toNat - 1) = fr.length by omega, frD_last]
  · rw [if_neg e, if_neg (show ¬ ((n : Int) = (m : Int)) by omega)]
    cases hm2 : M m with
    | none => rw [hm2] at h1; exact h1
    | some u =>
      rw [hm2] at h1
      refine ⟨h1.1, fun hi => ?_⟩
      rw [textAt_old _ _ _ (by omega) (by omega)]
      exact h1.2 hi
theorem Clean.append {s : St} {g : Lg} {KM NM : PM} (h : Clean s g KM NM) (n : Nat) (hn : n < 6) (t : ByteArray) (ht : t.size = 1024) (hl : g.fr.length < 60000) :
    ((Lg.append s g (n : Int) t).1 = 0 ∧ Clean (Lg.append s g (n : Int) t).2.1 (Lg.append s g (n : Int) t).2.2 KM (withM NM n t) ∧ (Lg.append s g (n : Int) t).2.2.fr.length = g.fr.length + 1) ∨
    ((Lg.append s g (n : Int) t).1 ≠ 0 ∧ (Lg.append s g (n : Int) t).2.1.d = true ∧ Stored (Lg.append s g (n : Int) t).2.1 (Lg.append s g (n : Int) t).2.2 KM) := by
  have hg := h.good.append (n : Int) t
  have e : Lg.append s g (n : Int) t = if (s.write 1 ((64 + 1028 * g.fr.length : Nat) : Int) (fourB n ++ t)).1 = 0 then (0, (s.write 1 ((64 + 1028 * g.fr.length : Nat) : Int) (fourB n ++ t)).2, { g with fr := g.fr ++ [(n, t)] }) else ((s.write 1 ((64 + 1028 * g.fr.length : Nat) : Int) (fourB n ++ t)).1, (s.write 1 ((64 + 1028 * g.fr.length : Nat) : Int) (fourB n ++ t)).2, g) := by
    unfold Lg.append
    rw [if_neg (by omega), if_neg (by omega), Int.toNat_natCast]
  have hz : (fourB n ++ t).size = 1028 := by rw [ByteArray.size_append, size_four, ht]
  rcases write_two (s := s) (f := 1) (a := ((64 + 1028 * g.fr.length : Nat) : Int)) (t := fourB n ++ t) (by unfold rightB; rw [hz]; exact decide_eq_true (by omega)) h.d with ⟨e0, hi⟩ | ⟨e0, hi⟩
  · left
    rw [e, if_pos e0] at hg ⊢
    have hle := h.st.le
    refine ⟨rfl, ⟨hi.d, hg, ⟨?_, ?_, ?_, ?_, ?_⟩, ?_, h.pages, fun e => by rw [List.length_append, List.length_singleton] at e; simp only at e; omega⟩, by simp⟩
    · show Tells _ _
      rw [hi.l1]
      exact ⟨h.st.tells.slot01, h.st.tells.num, h.st.tells.kept, h.st.tells.pages, h.st.tells.size, h.st.tells.mark, h.st.tells.slot, h.st.tells.room, h.st.tells.other⟩
    · show Holds _ ((g.fr ++ [(n, t)]).take g.kept)
      rw [hi.l1, take_append_self _ _ _ hle]
      exact h.st.held
    · intro c hc
      rw [hi.ws] at hc
      rcases List.mem_append.1 hc with hc | hc
      · exact h.st.ws c hc
      · rw [List.mem_singleton.1 hc]
        refine ⟨rfl, rfl, ?_⟩
        show 64 + 1028 * g.kept ≤ (((64 + 1028 * g.fr.length : Nat) : Int)).toNat
        omega
    · show Pg _ ((g.fr ++ [(n, t)]).take g.kept) KM
      rw [hi.l0, take_append_self _ _ _ hle]
      exact h.st.pg
    · show g.kept ≤ (g.fr ++ [(n, t)]).length
      rw [List.length_append]
      omega
    · show Pg _ (g.fr ++ [(n, t)]) _
      rw [hi.l0]
      exact h.now.snoc n t
  · right
    have hne : ¬ ((s.write 1 ((64 + 1028 * g.fr.length : Nat) : Int) (fourB n ++ t)).1 = 0) := by rw [e0]; decide
    rw [e, if_neg hne]
    exact ⟨hne, hi.d, h.st.of hi⟩
theorem Clean.back {s : St} {g : Lg} {KM NM : PM} (h : Clean s g KM NM) : Clean s g.back KM KM := by
  have e : g.back.fr.take g.back.kept = g.fr.take g.kept := by
    show (g.fr.take g.kept).take g.kept = _
    rw [List.take_take, Nat.min_self]
  refine ⟨h.d, h.good.back, ⟨?_, ?_, h.st.ws, ?_, ?_⟩, h.st.pg, h.pages, fun _ => rfl⟩
  · exact ⟨h.st.tells.slot01, h.st.tells.num, h.st.tells.kept, h.st.tells.pages, h.st.tells.size, h.st.tells.mark, h.st.tells.slot, h.st.tells.room, h.st.tells.other⟩
  · rw [e]; exact h.st.held
  · rw [e]; exact h.st.pg
  · show g.kept ≤ (g.fr.take g.kept).length
    rw [List.length_take]
    have := h.st.le
    omega
end Go.Proofs.Ythaoaaboempajaa.Log
namespace Go.Proofs.Ythaoaaboempajaa.Log
open Go.RowKit Go.Maps Go.Proofs.Ythaoaaboempajaa.QLogRuns Go.Proofs.Ythaoaaboempajaa.QDiskRuns Go.Proofs.Ythaoaaboempajaa.Disk Go.Proofs.YthaoaaboempajaaW.PrintWords Go.Proofs.YthaoaaboempajaaW.PrintLast Go.Proofs.YthaoaaboempajaaW.PrintMore Go.Proofs.YthaoaaboempajaaX
set_option linter.unusedVariables false
set_option linter.unusedSimpArgs false
theorem Holds.room {t : ByteArray} {fr : List (Nat × ByteArray)} (h : Holds t fr) : fr.length = 0 ∨ 64 + 1028 * fr.length ≤ t.size := by
  by_cases e : fr.length = 0
  · exact .inl e
  · right
    have := (h (fr.length - 1) (by omega)).1
    omega
theorem others_all {ws : List Chg} (f : Int) (h : ∀ c ∈ ws, c.file = f) : others f ws = [] := by
  unfold others
  rw [List.filter_eq_nil_iff]
  intro c hc
  rw [h c hc]
  simp
theorem tell_two {s : St} {g : Lg} {frO frN : List (Nat × ByteArray)} {KM NM : PM} (p : Nat) (hd : s.d = false) (hw : ∀ c ∈ s.ws, c.file = 1 ∧ c.cut = false ∧ 64 + 1028 * g.kept ≤ c.at_) (ht : Tells s.l1 g) (hO : Holds s.l1 frO) (hk : frO.length = g.kept) (hpO : Pg s.l0 frO KM)
    (hN : ∀ keep, Holds (crashB 1 keep 0 s.ws s.l1) frN) (hpN : Pg s.l0 frN NM) (hf : frN.length ≤ 65280) (hp : p ≤ 4294967295) :
    ((Lg.tell s g frN.length p).1 = 0 ∧ Is (Lg.tell s g frN.length p).2.1 s.l0 (putB s.s1 (16 + 24 * (1 - g.slot)) (slotB (g.number % 3 + 1) frN.length p)) [] false ∧ (Lg.tell s g frN.length p).2.2 = { g with slot := 1 - g.slot, number := g.number % 3 + 1 }) ∨
    ((Lg.tell s g frN.length p).1 = 2 ∧ (Lg.tell s g frN.length p).2.1.d = true ∧ ∀ keep, Fin ((Lg.tell s g frN.length p).2.1.crashed keep) KM ∨ Fin ((Lg.tell s g frN.length p).2.1.crashed keep) NM) := by
  have h01 := ht.slot01
  have hz : (slotB (g.number % 3 + 1) frN.length p).size = 24 := size_slot _ _ _
  have hcb : ∀ keep, Tells (crashB 1 keep 0 s.ws s.l1) g ∧ Holds (crashB 1 keep 0 s.ws s.l1) frO := fun keep => crash_behind keep s.ws 0 s.l1 ht hO hk (fun c hc _ => (hw c hc).2)
  have h0 : ∀ c ∈ s.ws, c.file ≠ 0 := fun c hc e => by have := (hw c hc).1; omega
  have e0 : Lg.tell s g frN.length p = if (s.write 1 ((16 + 24 * (1 - g.slot) : Nat) : Int) (slotB (g.number % 3 + 1) frN.length p)).1 ≠ 0 then ((s.write 1 ((16 + 24 * (1 - g.slot) : Nat) : Int) (slotB (g.number % 3 + 1) frN.length p)).1, (s.write 1 ((16 + 24 * (1 - g.slot) : Nat) : Int) (slotB (g.number % 3 + 1) frN.length p)).2, g) else
      if ((s.write 1 ((16 + 24 * (1 - g.slot) : Nat) : Int) (slotB (g.number % 3 + 1) frN.length p)).2.sync 1).1 ≠ 0 then (((s.write 1 ((16 + 24 * (1 - g.slot) : Nat) : Int) (slotB (g.number % 3 + 1) frN.length p)).2.sync 1).1, ((s.write 1 ((16 + 24 * (1 - g.slot) : Nat) : Int) (slotB (g.number % 3 + 1) frN.length p)).2.sync 1).2, g) else (0, ((s.write 1 ((16 + 24 * (1 - g.slot) : Nat) : Int) (slotB (g.number % 3 + 1) frN.length p)).2.sync 1).2, { g with slot := 1 - g.slot, number := g.number % 3 + 1 }) := rfl
  rw [e0]
  rcases write_two (s := s) (f := 1) (a := ((16 + 24 * (1 - g.slot) : Nat) : Int)) (t := slotB (g.number % 3 + 1) frN.length p) (by unfold rightB; rw [hz]; exact decide_eq_true (by omega)) hd with ⟨c1, i1⟩ | ⟨c1, i1⟩
  · generalize s.write 1 ((16 + 24 * (1 - g.slot) : Nat) : Int) (slotB (g.number % 3 + 1) frN.length p) = W at c1 i1
    rw [if_neg (fun h => h c1)]
    rw [Int.toNat_natCast] at i1
    have es1 : W.2.s1 = putB s.s1 (16 + 24 * (1 - g.slot)) (slotB (g.number % 3 + 1) frN.length p) := by
      unfold St.s1
      rw [i1.ws, i1.l1, seenB_snoc, if_pos rfl]
      rfl
    have hall : ∀ c ∈ W.2.ws, c.file = 1 := by
      intro c hc
      rw [i1.ws] at hc
      rcases List.mem_append.1 hc with hc | hc
      · exact (hw c hc).1
      · rw [List.mem_singleton.1 hc]
    rcases sync_two (s := W.2) (f := 1) (by decide) i1.d with ⟨c2, i2⟩ | ⟨c2, i2⟩
    · left
      generalize W.2.sync 1 = Y at c2 i2
      rw [if_neg (fun h => h c2)]
      refine ⟨rfl, ?_, rfl⟩
      rw [if_neg (by decide), if_pos rfl, es1, i1.l0, others_all 1 hall] at i2
      exact i2
    · right
      generalize W.2.sync 1 = Y at c2 i2
      have hc : Y.1 ≠ 0 := by rw [c2]; decide
      rw [if_pos hc]
      refine ⟨c2, i2.d, fun keep => ?_⟩
      have ew : Y.2.ws = s.ws ++ [⟨1, 16 + 24 * (1 - g.slot), slotB (g.number % 3 + 1) frN.length p, false⟩] := by rw [i2.ws, i1.ws]
      have el1 : Y.2.l1 = s.l1 := by rw [i2.l1, i1.l1]
      have el0 : Y.2.l0 = s.l0 := by rw [i2.l0, i1.l0]
      obtain ⟨hT, hH⟩ := hcb keep
      have hN2 := hN keep
      have k1 : (Y.2.crashed keep).l1 = kept1 (howOf keep (0 + s.ws.length)) ⟨1, 16 + 24 * (1 - g.slot), slotB (g.number % 3 + 1) frN.length p, false⟩ 1 (crashB 1 keep 0 s.ws s.l1) := by
        show crashB 1 keep 0 Y.2.ws Y.2.l1 = _
        rw [ew, el1, crashB_snoc]
      have k0 : (Y.2.crashed keep).l0 = s.l0 := by
        show crashB 0 keep 0 Y.2.ws Y.2.l0 = _
        rw [ew, el0]
        refine crash_none 0 keep _ 0 _ (fun c hc e => ?_)
        rcases List.mem_append.1 hc with hc | hc
        · exact h0 c hc e
        · rw [List.mem_singleton.1 hc] at e
          exact absurd e (show ¬ ((1 : Int) = 0) by decide)
      generalize crashB 1 keep 0 s.ws s.l1 = L at hT hH hN2 k1
      by_cases how1 : howOf keep (0 + s.ws.length) = 1
      · right
        have k2 : (Y.2.crashed keep).l1 = putB L (16 + 24 * (1 - g.slot)) (slotB (g.number % 3 + 1) frN.length p) := by
          rw [k1, how1]
          rfl
        refine fin_of (g := ⟨frN, frN.length, p, 1 - g.slot, g.number % 3 + 1⟩) (fr := frN) rfl rfl ?_ ?_ rfl ?_
        · rw [k2]; exact hT.full frN.length p hf hp hN2.room frN
        · rw [k2]; exact hN2.high _ _ (by rw [hz]; omega)
        · rw [k0]; exact hpN
      · left
        by_cases how2 : howOf keep (0 + s.ws.length) = 2
        · have k2 : (Y.2.crashed keep).l1 = putB L (16 + 24 * (1 - g.slot)) ((slotB (g.number % 3 + 1) frN.length p).extract 0 12) := by
            rw [k1, how2]
            unfold kept1
            rw [if_pos ⟨rfl, .inr rfl⟩, if_pos rfl]
            unfold halved
            rw [if_neg (show ¬ (false = true) by decide)]
            unfold onB
            rw [if_neg (show ¬ (false = true) by decide)]
            show putB L _ ((slotB (g.number % 3 + 1) frN.length p).extract 0 ((slotB (g.number % 3 + 1) frN.length p).size / 2)) = _
            rw [hz]
          have hx : ((slotB (g.number % 3 + 1) frN.length p).extract 0 12).size = 12 := by rw [size_extract _ _ _ (by omega)]
          refine fin_of (g := g) (fr := frO) rfl rfl ?_ ?_ hk ?_
          · rw [k2]; exact hT.half _ hx
          · rw [k2]; exact hH.high _ _ (by omega)
          · rw [k0]; exact hpO
        · have k2 : (Y.2.crashed keep).l1 = L := by
            rw [k1]
            unfold kept1
            rw [if_neg (by omega)]
          refine fin_of (g := g) (fr := frO) rfl rfl ?_ ?_ hk ?_
          · rw [k2]; exact hT
          · rw [k2]; exact hH
          · rw [k0]; exact hpO
  · right
    generalize s.write 1 ((16 + 24 * (1 - g.slot) : Nat) : Int) (slotB (g.number % 3 + 1) frN.length p) = W at c1 i1
    have hc : W.1 ≠ 0 := by rw [c1]; decide
    rw [if_pos hc]
    refine ⟨c1, i1.d, fun keep => .inl ?_⟩
    obtain ⟨hT, hH⟩ := hcb keep
    refine fin_of (g := g) (fr := frO) rfl rfl ?_ ?_ hk ?_
    · show Tells (crashB 1 keep 0 W.2.ws W.2.l1) g
      rw [i1.ws, i1.l1]; exact hT
    · show Holds (crashB 1 keep 0 W.2.ws W.2.l1) frO
      rw [i1.ws, i1.l1]; exact hH
    · show Pg (crashB 0 keep 0 W.2.ws W.2.l0) frO KM
      rw [i1.ws, i1.l0, crash_none 0 keep s.ws 0 s.l0 h0]; exact hpO
theorem Clean.commit {s : St} {g : Lg} {KM NM : PM} (h : Clean s g KM NM) (n : Nat) (hn : n < 6) (t : ByteArray) (ht : t.size = 1024) (hl : g.fr.length < 60000) :
    ((Lg.commit s g (n : Int) t 6).c = 0 ∧ Clean (Lg.commit s g (n : Int) t 6).s (Lg.commit s g (n : Int) t 6).g (withM NM n t) (withM NM n t) ∧ (Lg.commit s g (n : Int) t 6).g.fr.length = g.fr.length + 1) ∨
    ((Lg.commit s g (n : Int) t 6).c ≠ 0 ∧ (Lg.commit s g (n : Int) t 6).s.d = true ∧ ∀ keep, Fin ((Lg.commit s g (n : Int) t 6).s.crashed keep) KM ∨ Fin ((Lg.commit s g (n : Int) t 6).s.crashed keep) (withM NM n t)) := by
  have hgood := h.good.commit (n : Int) t 6
  have e0 : Lg.commit s g (n : Int) t 6 = (let r := ((rAppend (n : Int) t s g).andThen (rSync 1)).andThen (fun s g => rTell g.fr.length 6 s g); if r.c = 0 then { r with g := { r.g with pages := 6, kept := r.g.fr.length } } else r) := by
    unfold Lg.commit
    rw [if_neg (by omega)]
    rfl
  rw [e0] at hgood ⊢
  rcases h.append n hn t ht hl with ⟨c1, hc, hlen⟩ | ⟨c1, hd1, hs1⟩
  · have eA : rAppend (n : Int) t s g = ⟨(Lg.append s g (n : Int) t).1, (Lg.append s g (n : Int) t).2.1, (Lg.append s g (n : Int) t).2.2⟩ := rfl
    rw [eA] at hgood ⊢
    generalize Lg.append s g (n : Int) t = A at c1 hc hlen hgood ⊢
    obtain ⟨ac, as_, ag⟩ := A
    simp only at c1 hc hlen hgood ⊢
    subst c1
    have eB : (Run.mk 0 as_ ag).andThen (rSync 1) = ⟨(as_.sync 1).1, (as_.sync 1).2, ag⟩ := andThen_ok rfl _
    rw [eB] at hgood ⊢
    have hfile : ∀ c ∈ as_.ws, c.file = 1 := fun c hcc => (hc.st.ws c hcc).1
    rcases sync_two (s := as_) (f := 1) (by decide) hc.d with ⟨c2, i2⟩ | ⟨c2, i2⟩
    · rw [if_neg (by decide), if_pos rfl, others_all 1 hfile] at i2
      generalize as_.sync 1 = Y at c2 i2 hgood ⊢
      rw [andThen_ok c2] at hgood ⊢
      unfold rTell at hgood ⊢
      simp only at hgood ⊢
      have hT : Tells Y.2.l1 ag := by
        rw [i2.l1]
        exact seen_behind as_.ws as_.l1 hc.st.tells (fun c hcc _ => (hc.st.ws c hcc).2)
      have hH : Holds Y.2.l1 ag.fr := by rw [i2.l1]; exact hc.good.holds
      have hk : (ag.fr.take ag.kept).length = ag.kept := by rw [List.length_take]; have := hc.st.le; omega
      rcases tell_two (frO := ag.fr.take ag.kept) (frN := ag.fr) (KM := KM) (NM := withM NM n t) 6 i2.d (fun c hcc => by rw [i2.ws] at hcc; cases hcc) hT (hH.take _) hk (by rw [i2.l0]; exact hc.st.pg) (fun keep => by rw [i2.ws]; exact hH) (by rw [i2.l0]; exact hc.now) (by omega) (by omega) with ⟨c3, i3, eg⟩ | ⟨c3, hd3, hf3⟩
      · left
        have hfull := hT.full ag.fr.length 6 (by omega) (by omega) hH.room ag.fr
        have h01 := hT.slot01
        have eY : Y.2.s1 = Y.2.l1 := by unfold St.s1; rw [i2.ws]; rfl
        rw [eY] at i3
        generalize Lg.tell Y.2 ag ag.fr.length 6 = Z at c3 i3 eg hgood ⊢
        rw [if_pos c3] at hgood ⊢
        simp only at hgood ⊢
        rw [eg] at hgood ⊢
        refine ⟨c3, ⟨i3.d, hgood, ⟨?_, ?_, ?_, ?_, Nat.le_refl _⟩, ?_, fun _ => rfl, fun _ => rfl⟩, hlen⟩
        · rw [i3.l1]
          exact hfull
        · show Holds Z.2.1.l1 (ag.fr.take ag.fr.length)
          rw [List.take_length, i3.l1]
          exact hH.high _ _ (by rw [size_slot]; omega)
        · intro c hcc
          rw [i3.ws] at hcc
          cases hcc
        · show Pg Z.2.1.l0 (ag.fr.take ag.fr.length) _
          rw [List.take_length, i3.l0, i2.l0]
          exact hc.now
        · show Pg Z.2.1.l0 ag.fr _
          rw [i3.l0, i2.l0]
          exact hc.now
      · right
        generalize Lg.tell Y.2 ag ag.fr.length 6 = Z at c3 hd3 hf3 hgood ⊢
        have hne : Z.1 ≠ 0 := by rw [c3]; decide
        rw [if_neg hne]
        exact ⟨hne, hd3, hf3⟩
    · right
      generalize as_.sync 1 = Y at c2 i2 hgood ⊢
      have hne : Y.1 ≠ 0 := by rw [c2]; decide
      rw [andThen_no (r := ⟨Y.1, Y.2, ag⟩) hne]
      simp only
      rw [if_neg hne]
      exact ⟨hne, i2.d, fun keep => .inl ((hc.st.of i2).crash keep)⟩
  · right
    have eA : rAppend (n : Int) t s g = ⟨(Lg.append s g (n : Int) t).1, (Lg.append s g (n : Int) t).2.1, (Lg.append s g (n : Int) t).2.2⟩ := rfl
    rw [eA]
    generalize Lg.append s g (n : Int) t = A at c1 hd1 hs1 ⊢
    rw [andThen_no (r := ⟨A.1, A.2.1, A.2.2⟩) c1, andThen_no (r := ⟨A.1, A.2.1, A.2.2⟩) c1]
    simp only
    rw [if_neg c1]
    exact ⟨c1, hd1, fun keep => .inl (hs1.crash keep)⟩
end Go.Proofs.Ythaoaaboempajaa.Log
namespace Go.Proofs.Ythaoaaboempajaa.Log
open Go.RowKit Go.Maps Go.Proofs.Ythaoaaboempajaa.QLogRuns Go.Proofs.Ythaoaaboempajaa.QDiskRuns Go.Proofs.Ythaoaaboempajaa.Disk Go.Proofs.YthaoaaboempajaaW.PrintWords Go.Proofs.YthaoaaboempajaaW.PrintLast Go.Proofs.YthaoaaboempajaaW.PrintMore Go.Proofs.YthaoaaboempajaaX
set_option linter.unusedVariables false
set_option linter.unusedSimpArgs false
def OnPages (fr : List (Nat × ByteArray)) (c : Chg) : Prop := (c.cut = false ∧ ∃ n : Nat, n < 6 ∧ idx fr (n : Int) ≠ 0 ∧ c.at_ = 1024 * n ∧ c.text.size ≤ 1024) ∨ (c.cut = true ∧ c.at_ = 6144)
theorem onB_pages {b : ByteArray} {fr : List (Nat × ByteArray)} {M : PM} {c : Chg} (h : Pg b fr M) (hc : OnPages fr c) : Pg (onB c b) fr M := by
  unfold onB
  rcases hc with ⟨h1, n, hn, hi, ha, hs⟩ | ⟨h1, ha⟩
  · rw [if_neg (by rw [h1]; decide), ha]
    exact h.put n hi _ hs
  · rw [if_pos h1, ha]
    exact h.cut 6144 (Nat.le_refl _)
theorem halved_pages {fr : List (Nat × ByteArray)} {c : Chg} (hc : OnPages fr c) : OnPages fr (halved c) := by
  rcases hc with ⟨h1, n, hn, hi, ha, hs⟩ | ⟨h1, ha⟩
  · left
    have hl := halved_le c
    refine ⟨?_, n, hn, hi, by rw [hl.1]; exact ha, by omega⟩
    unfold halved
    rw [if_neg (by rw [h1]; decide)]
    exact h1
  · right
    unfold halved
    rw [if_pos h1]
    exact ⟨h1, ha⟩
theorem crash_pages {fr : List (Nat × ByteArray)} {M : PM} (keep : List Int) : ∀ (ws : List Chg) (i : Nat) (b : ByteArray), Pg b fr M → (∀ c ∈ ws, c.file = 0 → OnPages fr c) → Pg (crashB 0 keep i ws b) fr M
  | [], _, _, h, _ => h
  | c :: ws, i, b, h, hw => by
    have hw2 : ∀ c' ∈ ws, c'.file = 0 → OnPages fr c' := fun c' hc' => hw c' (by simp [hc'])
    rw [crashB]
    refine crash_pages keep ws (i + 1) _ ?_ hw2
    unfold kept1
    split
    · rename_i hk
      have hp := hw c (by simp) hk.1
      split
      · exact onB_pages h (halved_pages hp)
      · exact onB_pages h hp
    · exact h
theorem seen_pages {fr : List (Nat × ByteArray)} {M : PM} : ∀ (ws : List Chg) (b : ByteArray), Pg b fr M → (∀ c ∈ ws, c.file = 0 → OnPages fr c) → Pg (seenB 0 ws b) fr M
  | [], _, h, _ => h
  | c :: ws, b, h, hw => by
    have hw2 : ∀ c' ∈ ws, c'.file = 0 → OnPages fr c' := fun c' hc' => hw c' (by simp [hc'])
    have e : seenB 0 (c :: ws) b = seenB 0 ws (if c.file = 0 then onB c b else b) := by unfold seenB; rw [List.foldl_cons]
    rw [e]
    refine seen_pages ws _ ?_ hw2
    split
    · rename_i hf
      exact onB_pages h (hw c (by simp) hf)
    · exact h
structure MidC (s : St) (g : Lg) (KM : PM) : Prop where
  tells : Tells s.l1 g
  held : Holds s.l1 g.fr
  len : g.fr.length = g.kept
  pg : Pg s.l0 g.fr KM
  ws1 : Behind s.ws g.kept
  ws0 : ∀ c ∈ s.ws, c.file = 0 → OnPages g.fr c
  files : ∀ c ∈ s.ws, c.file = 0 ∨ c.file = 1
theorem MidC.crash {s : St} {g : Lg} {KM : PM} (h : MidC s g KM) (keep : List Int) : Fin (s.crashed keep) KM := by
  have hc := crash_behind keep s.ws 0 s.l1 h.tells h.held h.len h.ws1
  exact fin_of (g := g) (fr := g.fr) rfl rfl hc.1 hc.2 h.len (crash_pages keep s.ws 0 s.l0 h.pg h.ws0)
theorem MidC.of {s s' : St} {g : Lg} {KM : PM} {d : Bool} (h : MidC s g KM) (hi : Is s' s.l0 s.l1 s.ws d) : MidC s' g KM :=
  ⟨by rw [hi.l1]; exact h.tells, by rw [hi.l1]; exact h.held, h.len, by rw [hi.l0]; exact h.pg, by rw [hi.ws]; exact h.ws1, by rw [hi.ws]; exact h.ws0, by rw [hi.ws]; exact h.files⟩
theorem MidC.more {s s' : St} {g : Lg} {KM : PM} {d : Bool} {c : Chg} (h : MidC s g KM) (hi : Is s' s.l0 s.l1 (s.ws ++ [c]) d) (hf : c.file = 0) (hc : OnPages g.fr c) : MidC s' g KM := by
  refine ⟨by rw [hi.l1]; exact h.tells, by rw [hi.l1]; exact h.held, h.len, by rw [hi.l0]; exact h.pg, ?_, ?_, ?_⟩
  · intro x hx e
    rw [hi.ws] at hx
    rcases List.mem_append.1 hx with hx | hx
    · exact h.ws1 x hx e
    · rw [List.mem_singleton.1 hx] at e; omega
  · intro x hx e
    rw [hi.ws] at hx
    rcases List.mem_append.1 hx with hx | hx
    · exact h.ws0 x hx e
    · rw [List.mem_singleton.1 hx]; exact hc
  · intro x hx
    rw [hi.ws] at hx
    rcases List.mem_append.1 hx with hx | hx
    · exact h.files x hx
    · rw [List.mem_singleton.1 hx]; exact .inl hf
def Placed (b : ByteArray) (fr : List (Nat × ByteArray)) (k : Nat) : Prop := ∀ n : Nat, n < k → n < 6 → idx fr (n : Int) ≠ 0 → 1024 * (n + 1) ≤ b.size ∧ b.extract (1024 * n) (1024 * (n + 1)) = textAt fr (idx fr (n : Int))
theorem Placed.put {b : ByteArray} {fr : List (Nat × ByteArray)} {k : Nat} (h : Placed b fr k) (x : ByteArray) (hx : x.size = 1024) (e : idx fr (k : Int) ≠ 0 → x = textAt fr (idx fr (k : Int))) : Placed (putB b (1024 * k) x) fr (k + 1) := by
  intro n hn h6 hi
  have hz := size_putB b (1024 * k) x
  by_cases he : n = k
  · subst he
    refine ⟨by omega, ?_⟩
    have := putB_at b (1024 * n) x
    rw [hx, show 1024 * n + 1024 = 1024 * (n + 1) by omega] at this
    rw [this]
    exact e hi
  · obtain ⟨h1, h2⟩ := h n (by omega) h6 hi
    refine ⟨by omega, ?_⟩
    rw [extract_at (s := b) h1 (by omega) (fun i a c => by rw [bAt_put, if_neg (by omega)])]
    exact h2
theorem frame_text {g : Lg} (hg : g.ok) {n : Int} (h : idx g.fr n ≠ 0) : (textAt g.fr (idx g.fr n)).size = 1024 := by
  have hle := idx_le g.fr n
  unfold textAt
  refine (hg.fr (frD_ g.fr ((idx g.fr n).toNat - 1)) ?_).2
  unfold frD_
  rw [List.getD_eq_getElem?_getD, List.getElem?_eq_getElem (show (idx g.fr n).toNat - 1 < g.fr.length by omega), Option.getD_some]
  exact List.getElem_mem _
theorem moves {s0 : St} {g : Lg} {KM : PM} {m : Nat} (hok : s0.ok m) (hgood : Good s0 g) (hd : s0.d = false) (hM : MidC s0 g KM) : ∀ k, k ≤ 6 →
    ((moveN g k s0).1 = 0 ∧ MidC (moveN g k s0).2 g KM ∧ Placed (moveN g k s0).2.s0 g.fr k ∧ (moveN g k s0).2.d = false) ∨ ((moveN g k s0).1 = 2 ∧ (moveN g k s0).2.d = true ∧ MidC (moveN g k s0).2 g KM)
  | 0, _ => .inl ⟨rfl, hM, fun n hn => by omega, hd⟩
  | k + 1, hk => by
    rcases moves hok hgood hd hM k (by omega) with ⟨c1, hm, hp, hd1⟩ | ⟨c1, hd1, hm⟩
    · obtain ⟨-, hg1, -⟩ := moveN_is hok hgood hd k
      rw [moveN_succ c1, move1_is (moveN_ok hok g k) hg1 hd1 k]
      generalize (moveN g k s0).2 = sk at hm hp hd1 hg1
      unfold rmove1
      by_cases hi : idx g.fr (k : Int) = 0
      · rw [if_pos hi]
        refine .inl ⟨rfl, hm, fun n hn h6 hne => ?_, hd1⟩
        by_cases e : n = k
        · subst e; exact absurd hi hne
        · exact hp n (by omega) h6 hne
      · rw [if_neg hi, if_neg (by rw [hd1]; decide)]
        have hx := frame_text hgood.ok hi
        have hr : rightB 0 (1024 * (k : Int)) (textAt g.fr (idx g.fr (k : Int))).size = true := by unfold rightB; rw [hx]; exact decide_eq_true (by omega)
        have ha : (1024 * (k : Int)).toNat = 1024 * k := by omega
        rcases write_two (s := sk) hr hd1 with ⟨c2, i2⟩ | ⟨c2, i2⟩
        · left
          rw [ha] at i2
          refine ⟨c2, hm.more i2 rfl (.inl ⟨rfl, k, by omega, hi, rfl, by show (textAt g.fr (idx g.fr (k : Int))).size ≤ 1024; omega⟩), ?_, i2.d⟩
          have e : (sk.write 0 (1024 * (k : Int)) (textAt g.fr (idx g.fr (k : Int)))).2.s0 = putB sk.s0 (1024 * k) (textAt g.fr (idx g.fr (k : Int))) := by
            unfold St.s0
            rw [i2.ws, i2.l0, seenB_snoc, if_pos rfl]
            rfl
          rw [e]
          exact hp.put _ hx (fun _ => rfl)
        · exact .inr ⟨c2, i2.d, hm.of i2⟩
    · right
      rw [moveN, if_pos (by rw [c1]; decide)]
      exact ⟨c1, hd1, hm⟩
theorem placed_none {b : ByteArray} {fr : List (Nat × ByteArray)} {M : PM} (h : Pg b fr M) (hp : Placed b fr 6) : Pg b [] M := by
  intro n hn
  have h1 := h n hn
  unfold PgAt at h1 ⊢
  rw [idx_nil]
  cases hm : M n with
  | none => rw [hm] at h1; exact ⟨rfl, h1.2⟩
  | some t =>
    rw [hm] at h1
    refine ⟨fun _ => ?_, fun e => absurd rfl e⟩
    by_cases hi : idx fr (n : Int) = 0
    · exact h1.1 hi
    · obtain ⟨h2, h3⟩ := hp n hn hn hi
      exact ⟨h2, h3.trans (h1.2 hi)⟩
theorem Clean.checkpoint {s : St} {g : Lg} {KM NM : PM} {m : Nat} (h : Clean s g KM NM) (hok : s.ok m) :
    (((Lg.checkpoint s g).c = 0 ∨ (Lg.checkpoint s g).c = 11) ∧ Clean (Lg.checkpoint s g).s (Lg.checkpoint s g).g KM NM ∧ (Lg.checkpoint s g).g.fr.length ≤ g.fr.length) ∨
    (((Lg.checkpoint s g).c ≠ 0 ∧ (Lg.checkpoint s g).c ≠ 11) ∧ (Lg.checkpoint s g).s.d = true ∧ ∀ keep, Fin ((Lg.checkpoint s g).s.crashed keep) KM) := by
  have hgood := (h.good.checkpoint hok h.d).1
  unfold Lg.checkpoint at hgood ⊢
  by_cases h1 : g.fr.length ≠ g.kept
  · rw [if_pos h1]
    exact .inl ⟨.inr rfl, h, Nat.le_refl _⟩
  · rw [if_neg h1] at hgood ⊢
    by_cases h2 : g.fr.length = 0
    · rw [if_pos h2]
      exact .inl ⟨.inl rfl, h, Nat.le_refl _⟩
    · rw [if_neg h2] at hgood ⊢
      have hlen : g.fr.length = g.kept := by omega
      have hp6 : g.pages = 6 := h.pages (by omega)
      have htk : g.fr.take g.kept = g.fr := List.take_of_length_le (by omega)
      have hM : MidC s g KM := ⟨h.st.tells, by have := h.st.held; rwa [htk] at this, hlen, by have := h.st.pg; rwa [htk] at this, fun c hc _ => (h.st.ws c hc).2, fun c hc e => by have := (h.st.ws c hc).1; omega, fun c hc => .inr (h.st.ws c hc).1⟩
      rw [hp6] at hgood ⊢
      rcases moves hok h.good h.d hM 6 (Nat.le_refl _) with ⟨c1, hm, hpl, hd1⟩ | ⟨c1, hd1, hm⟩
      · rw [if_neg (fun e => e c1)] at hgood ⊢
        generalize (moveN g 6 s).2 = sk at hm hpl hd1 hgood
        have eA : ∀ x : St, rCut 0 (((6 : Nat) : Int) * 1024) x g = ⟨(x.cutTo 0 (((6 : Nat) : Int) * 1024)).1, (x.cutTo 0 (((6 : Nat) : Int) * 1024)).2, g⟩ := fun _ => rfl
        rw [eA] at hgood ⊢
        rcases cut_two (s := sk) (f := 0) (a := ((6 : Nat) : Int) * 1024) (by decide) hd1 with ⟨c2, i2⟩ | ⟨c2, i2⟩
        · generalize sk.cutTo 0 (((6 : Nat) : Int) * 1024) = C at c2 i2 hgood ⊢
          have hm2 := hm.more i2 rfl (.inr ⟨rfl, rfl⟩)
          have eC : C.2.s0 = (fillB sk.s0 6144).extract 0 6144 := by
            unfold St.s0
            rw [i2.ws, i2.l0, seenB_snoc, if_pos rfl]
            rfl
          have hpB : Pg C.2.s0 g.fr KM := seen_pages C.2.ws C.2.l0 hm2.pg hm2.ws0
          have hplB : Placed C.2.s0 g.fr 6 := by
            rw [eC]
            intro n hn h6 hi
            obtain ⟨h3, h4⟩ := hpl n hn h6 hi
            have hfs := size_fillB sk.s0 6144
            have hes : ((fillB sk.s0 6144).extract 0 6144).size = 6144 := by rw [size_extract _ _ _ (by omega)]
            refine ⟨by omega, ?_⟩
            rw [extract_at (s := sk.s0) h3 (by omega) (fun i a b => by rw [bAt_extract _ _ _ _ (by omega), if_pos (by omega), Nat.zero_add, bAt_fill])]
            exact h4
          rw [andThen_ok (r := ⟨C.1, C.2, g⟩) c2] at hgood ⊢
          have eS : rSync 0 C.2 g = ⟨(C.2.sync 0).1, (C.2.sync 0).2, g⟩ := rfl
          simp only at hgood ⊢
          rw [eS] at hgood ⊢
          rcases sync_two (s := C.2) (f := 0) (by decide) i2.d with ⟨c3, i3⟩ | ⟨c3, i3⟩
          · rw [if_pos rfl, if_neg (by decide)] at i3
            generalize C.2.sync 0 = Y at c3 i3 hgood ⊢
            rw [andThen_ok (r := ⟨Y.1, Y.2, g⟩) c3] at hgood ⊢
            have eT : rTell 0 6 Y.2 g = ⟨(Lg.tell Y.2 g 0 6).1, (Lg.tell Y.2 g 0 6).2.1, (Lg.tell Y.2 g 0 6).2.2⟩ := rfl
            simp only at hgood ⊢
            rw [eT] at hgood ⊢
            have hwsY : ∀ c ∈ Y.2.ws, c.file = 1 ∧ c.cut = false ∧ 64 + 1028 * g.kept ≤ c.at_ := by
              intro c hc
              rw [i3.ws] at hc
              obtain ⟨hc1, hc2⟩ := List.mem_filter.1 hc
              have hf : c.file = 1 := by
                rcases hm2.files c hc1 with e | e
                · rw [e] at hc2; simp at hc2
                · exact e
              exact ⟨hf, hm2.ws1 c hc1 hf⟩
            have hTY : Tells Y.2.l1 g := by rw [i3.l1]; exact hm2.tells
            have hHY : Holds Y.2.l1 g.fr := by rw [i3.l1]; exact hm2.held
            have hpY : Pg Y.2.l0 g.fr KM := by rw [i3.l0]; exact hpB
            have hnY : Pg Y.2.l0 [] KM := by rw [i3.l0]; exact placed_none hpB hplB
            rcases tell_two (frO := g.fr) (frN := []) (KM := KM) (NM := KM) 6 i3.d hwsY hTY hHY hlen hpY (fun keep => Holds.nil _) hnY (Nat.zero_le _) (by omega) with ⟨c4, i4, eg⟩ | ⟨c4, hd4, hf4⟩
            · left
              have hTS : Tells Y.2.s1 g := seen_behind Y.2.ws Y.2.l1 hTY (fun c hc _ => (hwsY c hc).2)
              have hfull := hTS.full 0 6 (Nat.zero_le _) (by omega) (.inl rfl) []
              have c4' : (Lg.tell Y.2 g 0 6).1 = 0 := c4
              have i4' : Is (Lg.tell Y.2 g 0 6).2.1 Y.2.l0 (putB Y.2.s1 (16 + 24 * (1 - g.slot)) (slotB (g.number % 3 + 1) 0 6)) [] false := i4
              have eg' : (Lg.tell Y.2 g 0 6).2.2 = { g with slot := 1 - g.slot, number := g.number % 3 + 1 } := eg
              generalize Lg.tell Y.2 g 0 6 = Z at c4' i4' eg' hgood ⊢
              rw [if_pos c4'] at hgood ⊢
              simp only at hgood ⊢
              rw [eg'] at hgood ⊢
              have hKN : NM = KM := h.same hlen
              refine ⟨.inl c4', ⟨i4'.d, hgood, ⟨?_, Holds.nil _, ?_, ?_, Nat.le_refl _⟩, ?_, fun e => absurd e (Nat.lt_irrefl 0), fun _ => hKN⟩, Nat.zero_le _⟩
              · rw [i4'.l1]
                show Tells _ ⟨[], 0, g.pages, 1 - g.slot, g.number % 3 + 1⟩
                rw [hp6]
                exact hfull
              · intro c hc
                rw [i4'.ws] at hc
                cases hc
              · show Pg Z.2.1.l0 [] KM
                rw [i4'.l0]; exact hnY
              · show Pg Z.2.1.l0 [] NM
                rw [i4'.l0, hKN]; exact hnY
            · right
              have c42 : (Lg.tell Y.2 g 0 6).1 = 2 := c4
              have c4' : (Lg.tell Y.2 g 0 6).1 ≠ 0 := by rw [c42]; decide
              have hd4' : (Lg.tell Y.2 g 0 6).2.1.d = true := hd4
              have hf4' : ∀ keep, Fin ((Lg.tell Y.2 g 0 6).2.1.crashed keep) KM := fun keep => (hf4 keep).elim id id
              have c11 : (Lg.tell Y.2 g 0 6).1 ≠ 11 := by rw [c42]; decide
              clear c42
              generalize Lg.tell Y.2 g 0 6 = Z at c4' c11 hd4' hf4' hgood ⊢
              rw [if_neg c4']
              exact ⟨⟨c4', c11⟩, hd4', hf4'⟩
          · right
            generalize C.2.sync 0 = Y at c3 i3 hgood ⊢
            have hne : Y.1 ≠ 0 := by rw [c3]; decide
            rw [andThen_no (r := ⟨Y.1, Y.2, g⟩) hne]
            simp only
            rw [if_neg hne]
            exact ⟨⟨hne, by show Y.1 ≠ 11; rw [c3]; decide⟩, i3.d, (hm2.of i3).crash⟩
        · right
          generalize sk.cutTo 0 (((6 : Nat) : Int) * 1024) = C at c2 i2 hgood ⊢
          have hne : C.1 ≠ 0 := by rw [c2]; decide
          rw [andThen_no (r := ⟨C.1, C.2, g⟩) hne, andThen_no (r := ⟨C.1, C.2, g⟩) hne]
          simp only
          rw [if_neg hne]
          exact ⟨⟨hne, by show C.1 ≠ 11; rw [c2]; decide⟩, i2.d, (hm.of i2).crash⟩
      · right
        have hne : (moveN g 6 s).1 ≠ 0 := by rw [c1]; decide
        rw [if_pos hne]
        exact ⟨⟨hne, by show (moveN g 6 s).1 ≠ 11; rw [c1]; decide⟩, hd1, hm.crash⟩
end Go.Proofs.Ythaoaaboempajaa.Log
namespace Go.Proofs.Ythaoaaboempajaa.Log
open Go.RowKit Go.Maps Go.Proofs.Ythaoaaboempajaa.QLogRuns Go.Proofs.Ythaoaaboempajaa.QDiskRuns Go.Proofs.Ythaoaaboempajaa.Disk Go.Proofs.YthaoaaboempajaaW.PrintWords Go.Proofs.YthaoaaboempajaaW.PrintLast Go.Proofs.YthaoaaboempajaaW.PrintMore Go.Proofs.YthaoaaboempajaaX
set_option linter.unusedVariables false
set_option linter.unusedSimpArgs false
theorem has_page {s : St} {g : Lg} {M : PM} {m : Nat} (hok : s.ok m) (h : Good s g) (hd : s.d = false) (hp : Pg s.s0 g.fr M) (n : Nat) (hn : n < 6) :
    (∀ t, M n = some t → Lg.read s g (n : Int) = (t, 0)) ∧ (M n = none → (Lg.read s g (n : Int)).2 = 0 → (Lg.read s g (n : Int)).1 = zerosB 1024) := by
  have h1 := hp n hn
  have hs0 := hok.s0
  unfold maxFile at hs0
  have hle := idx_le g.fr (n : Int)
  unfold PgAt at h1
  rw [read_is hok h]
  unfold Lg.rread
  rw [if_neg (by omega), if_neg (by rw [hd]; decide)]
  have e1 : (1024 * (n : Int)).toNat = 1024 * n := by omega
  have e2 : (1024 * (n : Int) + 1024).toNat = 1024 * (n + 1) := by omega
  rw [e1, e2]
  cases hm : M n with
  | none =>
    rw [hm] at h1
    refine ⟨fun t e => absurd e (by simp), fun _ => ?_⟩
    rw [if_neg (by rw [h1.1]; decide)]
    by_cases hsz : (n : Int) ≥ (s.s0.size : Int) / 1024
    · rw [if_pos hsz]
      intro e
      exact absurd e (show ¬ ((7 : Int) = 0) by decide)
    · rw [if_neg hsz]
      intro _
      show s.s0.extract (1024 * n) (1024 * (n + 1)) = zerosB 1024
      have hb : 1024 * (n + 1) ≤ s.s0.size := by omega
      apply bytes_at
      · rw [size_extract _ _ _ hb, size_zeros]; omega
      · intro i hi
        rw [size_extract _ _ _ hb] at hi
        rw [bAt_extract _ _ _ _ hb, if_pos hi, bAt_zeros]
        exact h1.2 _ (by omega) (by omega)
  | some t =>
    rw [hm] at h1
    refine ⟨fun u e => ?_, fun e => absurd e (by simp)⟩
    injection e with e
    subst e
    by_cases hi : idx g.fr (n : Int) = 0
    · obtain ⟨h2, h3⟩ := h1.1 hi
      rw [if_neg (by omega), if_neg (by omega), h3]
    · rw [if_pos (by omega), h1.2 hi]
theorem Fin.moved {s x : St} {M : PM} (h : Fin s M) (h0 : x.l0 = s.s0) (h1 : x.l1 = s.s1) (hw : x.ws = []) (hd : x.d = false) : Fin x M := by
  have hs : s.ws = [] := by obtain ⟨g, fr, a, -⟩ := h; exact a
  exact h.of (by rw [h0]; unfold St.s0; rw [hs]; rfl) (by rw [h1]; unfold St.s1; rw [hs]; rfl) hw hd
theorem Clean.failed {s : St} {g : Lg} {KM NM : PM} (h : Clean s g KM NM) (n : Int) : Clean (s.failed n) g KM NM :=
  ⟨h.d, h.good.s1 rfl, ⟨h.st.tells, h.st.held, h.st.ws, h.st.pg, h.st.le⟩, h.now, h.pages, h.same⟩
end Go.Proofs.Ythaoaaboempajaa.Log
namespace Go.Proofs.Ythaoaaboempajaa.Log
open Go.RowKit Go.Maps Go.Proofs.Ythaoaaboempajaa.QLogRuns Go.Proofs.Ythaoaaboempajaa.QDiskRuns Go.Proofs.Ythaoaaboempajaa.Disk Go.Proofs.YthaoaaboempajaaW.PrintWords Go.Proofs.YthaoaaboempajaaW.PrintLast Go.Proofs.YthaoaaboempajaaW.PrintMore Go.Proofs.YthaoaaboempajaaX
set_option linter.unusedVariables false
set_option linter.unusedSimpArgs false
theorem begin1_all {s : St} {p : Nat} (h : (begin1 s p).1 = 0) : (s.cutTo 1 0).1 = 0 ∧ ((s.cutTo 1 0).2.sync 1).1 = 0 ∧ (((s.cutTo 1 0).2.sync 1).2.write 1 0 (markB ++ slotB 1 0 p)).1 = 0 ∧ ((((s.cutTo 1 0).2.sync 1).2.write 1 0 (markB ++ slotB 1 0 p)).2.sync 1).1 = 0 ∧ begin1 s p = ((((s.cutTo 1 0).2.sync 1).2.write 1 0 (markB ++ slotB 1 0 p)).2.sync 1) := by
  have e := begin1_is s p _ _ _ _ rfl rfl rfl rfl
  rw [e] at h
  by_cases h1 : (s.cutTo 1 0).1 = 0
  · rw [if_neg (fun x => x h1)] at h e
    by_cases h2 : ((s.cutTo 1 0).2.sync 1).1 = 0
    · rw [if_neg (fun x => x h2)] at h e
      by_cases h3 : (((s.cutTo 1 0).2.sync 1).2.write 1 0 (markB ++ slotB 1 0 p)).1 = 0
      · rw [if_neg (fun x => x h3)] at h e
        exact ⟨h1, h2, h3, h, e⟩
      · rw [if_pos h3] at h; exact absurd h h3
    · rw [if_pos h2] at h; exact absurd h h2
  · rw [if_pos h1] at h; exact absurd h h1
theorem mark_first (x : ByteArray) : ((markB ++ x).extract 0 16).toList = markL := by
  have e : (markB ++ x).extract 0 16 = markB := by
    apply bytes_ext
    rw [extract_list, ByteArray.data_append, Array.toList_append, List.drop_zero, List.take_append_of_le_length (show 16 - 0 ≤ markB.data.toList.length from Nat.le_refl _)]
    rfl
  rw [e]
  rw [Go.ByteArray.toList_eq]
  rfl
theorem tells_new : Tells (markB ++ slotB 1 0 0) ⟨[], 0, 0, 0, 1⟩ := by
  have hz : (slotB 1 0 0).size = 24 := size_slot _ _ _
  have hm : markB.size = 16 := rfl
  have hs : (markB ++ slotB 1 0 0).size = 40 := by rw [ByteArray.size_append, hz, hm]
  refine ⟨.inl rfl, ⟨Nat.le_refl _, show 1 ≤ 3 by decide⟩, Nat.zero_le _, Nat.zero_le _, show 40 + 24 * 0 ≤ _ by omega, mark_first _, ?_, .inl rfl, .inl ?_⟩
  · show (markB ++ slotB 1 0 0).extract 16 40 = slotB 1 0 0
    apply bytes_at
    · rw [size_extract _ _ _ (by omega), hz]
    · intro i hi
      rw [size_extract _ _ _ (by omega)] at hi
      rw [bAt_extract _ _ _ _ (by omega), if_pos hi, bAt_append, hm, if_neg (by omega)]
      congr 1
      omega
  · show o12 (markB ++ slotB 1 0 0) 1 = 0
    have h0 : ∀ i, 40 ≤ i → bAt (markB ++ slotB 1 0 0) i = 0 := fun i hi => bAt_out (by omega)
    unfold o12 u32
    have a0 := h0 52 (by omega)
    have a1 := h0 53 (by omega)
    have a2 := h0 54 (by omega)
    have a3 := h0 55 (by omega)
    unfold bAt at a0 a1 a2 a3
    show ((u8 _ 52 * 256 + u8 _ 53) * 256 + u8 _ 54) * 256 + u8 _ 55 = 0
    rw [a0, a1, a2, a3]
theorem new_clean : ∃ g, openP St.new = (0, (openP St.new).2.1, some g) ∧ Clean (openP St.new).2.1 g (fun _ => none) (fun _ => none) ∧ g.fr.length = 0 ∧ (openP St.new).2.1.ok 4 := by
  obtain ⟨g, ho, hgood, hok, hd⟩ := opened St.new_ok (show St.new.f = -1 from rfl) (show St.new.d = false from rfl)
  have e0 : St.new.s1 = ByteArray.empty := rfl
  have hA : ∀ k, slotA St.new.s1 k = 0 := fun k => by unfold slotA; rw [e0, if_pos (.inl (by decide))]
  have hop := openP_none (s := St.new) rfl ⟨hA 0, hA 1⟩
  have hb := begin1_up (s := St.new) rfl rfl (St.new.s0.size / 1024)
  rw [if_neg (fun x => x hb)] at hop
  have hp0 : St.new.s0.size / 1024 = 0 := rfl
  rw [hp0] at hop hb
  obtain ⟨c1, c2, c3, c4, eb⟩ := begin1_all hb
  rcases cut_two (s := St.new) (f := 1) (a := 0) (by decide) rfl with ⟨-, i1⟩ | ⟨x1, -⟩
  · generalize St.new.cutTo 1 0 = A at c1 c2 c3 c4 eb i1
    rcases sync_two (s := A.2) (f := 1) (by decide) i1.d with ⟨-, i2⟩ | ⟨x2, -⟩
    · rw [if_neg (by decide), if_pos rfl, others_all 1 (fun c hc => by rw [i1.ws] at hc; rw [List.mem_singleton.1 hc])] at i2
      have es : A.2.s1.size = 0 := by
        unfold St.s1
        rw [i1.ws, i1.l1]
        rfl
      generalize A.2.sync 1 = B at c2 c3 c4 eb i2
      have hz : (markB ++ slotB 1 0 0).size = 40 := by rw [ByteArray.size_append, size_slot]; rfl
      rcases write_two (s := B.2) (f := 1) (a := 0) (t := markB ++ slotB 1 0 0) (by unfold rightB; rw [hz]; decide) i2.d with ⟨-, i3⟩ | ⟨x3, -⟩
      · generalize B.2.write 1 0 (markB ++ slotB 1 0 0) = C at c3 c4 eb i3
        rw [i2.ws, List.nil_append] at i3
        rcases sync_two (s := C.2) (f := 1) (by decide) i3.d with ⟨-, i4⟩ | ⟨x4, -⟩
        · rw [if_neg (by decide), if_pos rfl, others_all 1 (fun c hc => by rw [i3.ws] at hc; rw [List.mem_singleton.1 hc])] at i4
          have el : C.2.s1 = markB ++ slotB 1 0 0 := by
            have e1 : C.2.s1 = putB B.2.l1 0 (markB ++ slotB 1 0 0) := by
              unfold St.s1
              rw [i3.ws, i3.l1]
              rfl
            rw [e1]
            have hsz : B.2.l1.size = 0 := by rw [i2.l1]; exact es
            have h1 := putB_at B.2.l1 0 (markB ++ slotB 1 0 0)
            have h2 := size_putB B.2.l1 0 (markB ++ slotB 1 0 0)
            rw [Nat.zero_add, show (markB ++ slotB 1 0 0).size = (putB B.2.l1 0 (markB ++ slotB 1 0 0)).size by omega] at h1
            exact ByteArray.extract_zero_size.symm.trans h1
          have el0 : C.2.l0 = ByteArray.empty := by rw [i3.l0, i2.l0, i1.l0]; rfl
          rw [el, el0] at i4
          rw [eb] at hop
          generalize C.2.sync 1 = D at c4 i4 hop
          have eD : (openP St.new).2.1 = D.2 := by rw [hop]
          have eg : g = ⟨[], 0, 0, 0, 1⟩ := by
            have := ho
            rw [hop] at this
            injection this with _ this
            injection this with _ this
            injection this with this
            exact this.symm
          refine ⟨g, ho, ?_, by rw [eg]; rfl, hok⟩
          rw [eD] at hgood hd ⊢
          have hpg : ∀ fr0, fr0 = ([] : List (Nat × ByteArray)) → Pg D.2.l0 fr0 (fun _ => none) := by
            rintro _ rfl n hn
            show idx [] (n : Int) = 0 ∧ _
            refine ⟨idx_nil _, fun i _ _ => ?_⟩
            rw [i4.l0]
            exact bAt_out (Nat.zero_le _)
          subst eg
          exact ⟨hd, hgood, ⟨by rw [i4.l1]; exact tells_new, Holds.nil _, fun c hc => (by rw [i4.ws] at hc; exact absurd hc (by simp)), hpg _ rfl, Nat.le_refl _⟩, hpg _ rfl, fun e => absurd e (Nat.lt_irrefl 0), fun _ => rfl⟩
        · rw [x4] at c4; exact absurd c4 (by decide)
      · rw [x3] at c3; exact absurd c3 (by decide)
    · rw [x2] at c2; exact absurd c2 (by decide)
  · rw [x1] at c1; exact absurd c1 (by decide)
end Go.Proofs.Ythaoaaboempajaa.Log
namespace Go.Proofs.Ythaoaaboempajaa.Log
open Go.RowKit Go.Maps Go.Proofs.Ythaoaaboempajaa.QLogRuns Go.Proofs.Ythaoaaboempajaa.QDiskRuns Go.Proofs.Ythaoaaboempajaa.Disk Go.Proofs.YthaoaaboempajaaW.PrintWords Go.Proofs.YthaoaaboempajaaW.PrintLast Go.Proofs.YthaoaaboempajaaW.PrintMore Go.Proofs.YthaoaaboempajaaX
set_option linter.unusedVariables false
set_option linter.unusedSimpArgs false
theorem zero9 (w : World) : (zeroValue 9).run Try.prog w = .ok (.string ⟨#[]⟩) w := by kernel_rfl
def MapS (w : World) (b n : Nat) (f : Int → Option ByteArray) : Prop := ∃ D : DataW Unit, w.ownsMap Try.prog 3 (plainElem Try.prog 9) b n D ∧ ∀ x, (Lit.int .i64 x).wf = true →
  match f x with
  | some t => t.size ≤ maxLen ∧ Maps.has D (.int .i64 x) = true ∧ ∀ zd, D.atKey (.int .i64 x) zd = .lit (.string t.data.toList)
  | none => Maps.has D (.int .i64 x) = false ∧ ∀ zd, D.atKey (.int .i64 x) zd = zd
theorem MapS.kept {w w' : World} {b n : Nat} {f : Int → Option ByteArray} (h : MapS w b n f) (hb : w'.heap[b]? = w.heap[b]?) : MapS w' b n f := by
  obtain ⟨D, ⟨es, clock, h1, h2, h3, h4⟩, hf⟩ := h
  exact ⟨D, ⟨es, clock, hb.trans h1, h2, h3, h4⟩, hf⟩
theorem MapS.lt {w : World} {b n : Nat} {f : Int → Option ByteArray} (h : MapS w b n f) : b < w.heap.size := h.elim fun _ h => h.1.lt
theorem MapS.mono {w : World} {b n m : Nat} {f : Int → Option ByteArray} (h : MapS w b n f) (hm : n ≤ m) : MapS w b m f := by
  obtain ⟨D, h1, hf⟩ := h
  exact ⟨D, h1.mono hm, hf⟩
theorem MapS.look {w : World} {b n : Nat} {f : Int → Option ByteArray} (h : MapS w b n f) {x : Int} (hx : (Lit.int .i64 x).wf = true) :
    ∃ t, (Instr.lookup 87 (.map (some b)) (.int .i64 x) true).run Try.prog w = .ok (.tuple #[.string t, .bool (f x).isSome]) w ∧ ∀ u, f x = some u → t = u := by
  obtain ⟨D, h1, hf⟩ := h
  obtain ⟨v, ps, hrun, hv⟩ := h1.look_ok law3 Try.underlying87 (zero9 w) (plainElem_string Try.underlying9 (s := ⟨#[]⟩) (Nat.zero_le _)) (keyOf_int_mk Try.underlying3 hx)
  obtain ⟨t, rfl, ht, -⟩ := plainElem_string_inv Try.underlying9 hv
  have hfx := hf x hx
  cases hm : f x with
  | none =>
    rw [hm] at hfx
    rw [hfx.1] at hrun
    exact ⟨t, hrun, fun u e => absurd e (by simp)⟩
  | some u =>
    rw [hm] at hfx
    obtain ⟨-, hh, ha⟩ := hfx
    rw [hh] at hrun
    have e0 : t = u := by
      rw [ha] at ht
      exact (bytes_ext (Lit.string.inj (DataW.lit.inj (congrArg Prod.fst ht)))).symm
    exact ⟨t, hrun, fun u' e => e0.trans (Option.some.inj e)⟩
theorem MapS.put {w : World} {b n : Nat} {f : Int → Option ByteArray} (h : MapS w b n f) (hn : n < maxLen) {x : Int} {t : ByteArray} (hx : (Lit.int .i64 x).wf = true) (ht : t.size ≤ maxLen) :
    ∃ w', (Instr.mapUpdate 87 (.map (some b)) (.int .i64 x) (.string t)).run Try.prog w = .ok () w' ∧ MapS w' b (n + 1) (fun z => if z = x then some t else f z) ∧ w.grownBy w' (some b) := by
  obtain ⟨D, h1, hf⟩ := h
  obtain ⟨w', hrun, h2, hg⟩ := h1.update law3 Try.underlying87 hn (keyOf_int_mk Try.underlying3 hx) (plainElem_string Try.underlying9 ht)
  refine ⟨w', hrun, ⟨_, h2, fun z hz => ?_⟩, hg⟩
  by_cases e : z = x
  · subst e
    simp only [if_true]
    have hat : ∀ zd, (D.put (.int .i64 z) (.lit (.string t.data.toList))).atKey (.int .i64 z) zd = .lit (.string t.data.toList) := fun zd => atKey_put_same h1.isMap (by simp [WideAt.IsKeyLit]) _ _
    exact ⟨ht, Maps.has_true_of_atKey hat, hat⟩
  · simp only [if_neg e]
    have hat : ∀ zd, (D.put (.int .i64 x) (.lit (.string t.data.toList))).atKey (.int .i64 z) zd = D.atKey (.int .i64 z) zd := fun zd => atKey_put_other (fun he => e (Lit.int.inj he).2) _ _
    have hfz := hf z hz
    cases hm : f z with
    | none =>
      rw [hm] at hfz
      have hat2 := fun zd => (hat zd).trans (hfz.2 zd)
      exact ⟨Maps.has_false_of_atKey hat2, hat2⟩
    | some u =>
      rw [hm] at hfz
      have hat2 := fun zd => (hat zd).trans (hfz.2.2 zd)
      exact ⟨hfz.1, Maps.has_true_of_atKey hat2, hat2⟩
end Go.Proofs.Ythaoaaboempajaa.Log
namespace Go.Proofs.Ythaoaaboempajaa.Log
open Go.RowKit Go.Maps Go.Proofs.Ythaoaaboempajaa.QLogRuns Go.Proofs.Ythaoaaboempajaa.QDiskRuns Go.Proofs.Ythaoaaboempajaa.Disk Go.Proofs.YthaoaaboempajaaW.PrintWords Go.Proofs.YthaoaaboempajaaW.PrintLast Go.Proofs.YthaoaaboempajaaW.PrintMore Go.Proofs.YthaoaaboempajaaX
set_option linter.unusedVariables false
set_option linter.unusedSimpArgs false
theorem wpList_insert_run {P : Program} (w : World) {ops : Array Oper} {rest : List Oper} {o : Oper} {a : Act} {Q : Exit → Act → World → Prop}
    (hg : o.guard = none) (m x v : Operand) (t : TypeId) (hop : o.op = Op.insert t m x v) (hmm hx hv : Value) (em : a.eval m = hmm) (ex : a.eval x = hx) (ev : a.eval v = hv) (w' : World)
    (hrun : (Instr.mapUpdate t hmm hx hv).run P w = .ok () w')
    (hK : wpList P ops Q rest (a.put o.dst undef) w') :
    wpList P ops Q (o :: rest) a w := by
  refine wpList_plain hg fun K' hK' => ?_
  subst em ex ev
  unfold Oper.wp
  simp [execOp, hop, hrun, Result.andThen]
  exact hK' _ _ hK
theorem wpList_mapUpdate_run {P : Program} (w : World) {ops : Array Oper} {rest : List Oper} {o : Oper} {a : Act} {Q : Exit → Act → World → Prop}
    (hg : o.guard = none) (m x v : Operand) (t : TypeId) (hop : o.op = Op.mapUpdate t m x v) (hmm hx hv : Value) (em : a.eval m = hmm) (ex : a.eval x = hx) (ev : a.eval v = hv) (w' : World)
    (hrun : (Instr.mapUpdate t hmm hx hv).run P w = .ok () w')
    (hK : wpList P ops Q rest (a.put o.dst undef) w') :
    wpList P ops Q (o :: rest) a w := by
  refine wpList_plain hg fun K' hK' => ?_
  subst em ex ev
  unfold Oper.wp
  simp [execOp, hop, hrun, Result.andThen]
  exact hK' _ _ hK
theorem has_left_some {D : DataW Unit} {f : Option ByteArray} {x : Int} {c : ByteArray}
    (h : match f with
      | some t => t.size ≤ maxLen ∧ Maps.has D (.int .i64 x) = true ∧ ∀ zd, D.atKey (.int .i64 x) zd = .lit (.string t.data.toList)
      | none => Maps.has D (.int .i64 x) = false ∧ ∀ zd, D.atKey (.int .i64 x) zd = zd)
    (hat : ∀ zd, D.atKey (.int .i64 x) zd = .lit (.string c.data.toList)) : f = some c := by
  cases f with
  | none =>
    have := Maps.has_true_of_atKey hat
    rw [h.1] at this
    cases this
  | some u =>
    have e := (h.2.2 (.lit (.string []))).symm.trans (hat _)
    exact congrArg some (bytes_ext (Lit.string.inj (DataW.lit.inj e)))
theorem has_left_none {D : DataW Unit} {f : Option ByteArray} {x : Int}
    (h : match f with
      | some t => t.size ≤ maxLen ∧ Maps.has D (.int .i64 x) = true ∧ ∀ zd, D.atKey (.int .i64 x) zd = .lit (.string t.data.toList)
      | none => Maps.has D (.int .i64 x) = false ∧ ∀ zd, D.atKey (.int .i64 x) zd = zd)
    (hh : Maps.has D (.int .i64 x) = false) : f = none := by
  cases f with
  | none => rfl
  | some u =>
    have := h.2.1
    rw [hh] at this
    cases this
theorem MapS.congr {w : World} {b n : Nat} {f g : Int → Option ByteArray} (h : MapS w b n f) (e : ∀ x, (Lit.int .i64 x).wf = true → f x = g x) : MapS w b n g := by
  obtain ⟨D, h1, hf⟩ := h
  refine ⟨D, h1, fun x hx => ?_⟩
  rw [← e x hx]
  exact hf x hx
theorem left_cut (left : Lit → Bool) {x z : Int} (h : z ≠ x) : (left (.int .i64 z) && !(Lit.int .i64 z).sameKey (Lit.int .i64 x)) = left (.int .i64 z) := by
  simp [Lit.sameKey, h]
theorem left_cut_self (left : Lit → Bool) {x : Int} : (left (.int .i64 x) && !(Lit.int .i64 x).sameKey (Lit.int .i64 x)) = false := by
  simp [Lit.sameKey]
set_option maxHeartbeats 4000000 in
set_option maxRecDepth 100000 in
theorem withk.calls (b n : Nat) (f : Int → Option ByteArray) (k : Int) (t : ByteArray) (w : World) (h : MapS w b n f) (hn : n ≤ 1000000000) (hk : (Lit.int .i64 k).wf = true) (ht : t.size ≤ maxLen) :
    Calls Try.prog 68 #[.map (some b), .int .i64 k, .string t] w fun e w' => ∃ b', e = .returned (.map (some b')) ∧ w.heap.size ≤ b' ∧ MapS w' b' (n + 1) (fun x => if x = k then some t else f x) ∧ Below w.heap.size w w' := by
  obtain ⟨D0, hown, hf⟩ := h
  have HO := Aside0.mk hown
  have HF := Aside0.mk hf
  have HN := Aside0.mk hn
  have HK := Aside0.mk hk
  have HT := Aside0.mk ht
  have hmm : ∀ (w : World), (Instr.makeMap 87 none).run Try.prog w = .ok (.map (some w.heap.size)) (w.alloc (.map #[] 0)) := by
    intro w
    simp [Instr.makeMap, underlying, Try.underlying87]
  have HM0 : MapS (w.alloc (.map #[] 0)) w.heap.size 0 (fun _ => none) := ⟨.map [], World.ownsMap_made _ _ _ _, fun x hx => ⟨rfl, fun _ => rfl⟩⟩
  obtain ⟨w1, hrun1, hm1, hg1⟩ := HM0.put (by decide) hk ht
  have HM1 := Aside0.mk hm1
  have HR1 := Aside0.mk hrun1
  have HB1 := Aside0.mk (show Below w.heap.size w w1 from ((Below.refl _ _).alloc (Nat.le_refl _) _).grown hg1 (by simp) (fun j hj => by cases hj; exact Nat.le_refl _))
  have HL1 := Aside0.mk (show w.heap.size < w1.heap.size from hm1.lt)
  have HO1 := Aside0.mk (HO.out.kept (grown_of_below HB1.out none) (by simp))
  have hown0_ne := hown.lt
  clear hown hf hn hk ht HM0 hm1 hg1 hrun1
  go_enter Try.func68, Try.ntmps68
  go_wp2_with (first
    | (refine wpList_insert_run _ rfl _ _ _ 87 rfl _ _ _ rfl rfl rfl w1 HR1.out ?_)
    | (at_range; refine wpList_range_own _ rfl _ 87 rfl 3 9 law3 Try.underlying87 _ b n _ rfl HO1.out ?_; intro w0 hrg0 hg0 hs0)
    | go_in)
  try go_frame
  have HRG := Aside0.mk hrg0
  have HOUT := Aside0.mk (show MapS w0 w.heap.size (1 + (Maps.size D0 - Maps.size D0)) (fun z => if z = k then some t else none) from (HM1.out.kept (hg0.5 _ HL1.out (by simp))).mono (by omega))
  have HBL := Aside0.mk (show Below w.heap.size w w0 from HB1.out.grown hg0 (Nat.le_of_lt HL1.out) (fun j hj => by cases hj))
  clear hrg0 hg0 hs0
  go_loopw [8, 9] (fun _ _ wr => ∃ (left : Lit → Bool) (cnt : Nat) (fo : Int → Option ByteArray), Aside0 (wr.ranges Try.prog 3 (plainElem Try.prog 9) b w1.heap.size n D0 left cnt) ∧ cnt ≤ Maps.size D0 ∧ Aside0 (MapS wr w.heap.size (1 + (Maps.size D0 - cnt)) fo) ∧ Aside0 (fo k = some t ∧ ∀ x, x ≠ k → (Lit.int .i64 x).wf = true → fo x = if left (.int .i64 x) = true then none else f x) ∧ Aside0 (Below w.heap.size w wr)) (fun _ _ wr => wr.rangeLeft b w1.heap.size)
  case atStart =>
    refine ⟨_, _, _, HRG, Nat.le_refl _, HOUT, ⟨if_pos rfl, fun x hx hwf => ?_⟩, HBL⟩
    rw [if_neg hx]
    by_cases hh : Maps.has D0 (.int .i64 x) = true
    · rw [if_pos hh]
    · rw [if_neg hh]
      exact (has_left_none (HF.out x hwf) (by simpa using hh)).symm
  case round =>
    clear HRG HOUT HBL
    obtain ⟨left, cnt, fo, HRG, hcs, HOUT, HA, HBL⟩ := hrel
    have HL2 := Aside0.mk (HOUT.out.lt)
    have hsz_ := HO.out.size_le
    have hn_ := HN.out
    go_wp2_with (first
      | (at_next; refine wpList_next_ranges_is _ rfl _ rfl 3 9 .i64 law3 Try.underlying3 Try.underlying9 b w1.heap.size n _ _ _ rfl HRG.out ?_ ?_)
      | go_in)
    · intro hc0 hl0
      go_wp2_with (fail)
      go_ret
      refine ⟨_, rfl, Nat.le_refl _, (HOUT.out.mono (by omega)).congr (fun x hx => ?_), HBL.out⟩
      by_cases e : x = k
      · rw [if_pos e, e, HA.out.1]
      · rw [if_neg e, HA.out.2 x e hx, if_neg (by rw [hl0]; simp)]
    · intro x c w2 cnt1 hwx hwc hlx hat hrg1 hlt hg1 hs1 hen
      have hout1 := HOUT.out.kept (hg1.5 _ HL2.out (by simp only [ne_eq, Option.some.injEq]; exact Nat.ne_of_lt HL1.out))
      have hfx := has_left_some (HF.out x hwx) hat
      have hB2 := HBL.out.grown hg1 HBL.out.size (fun j hj => by cases hj; exact Nat.le_of_lt HL1.out)
      by_cases e : x = k
      · have hsame : (x != k) = false := by simp [e]
        go_wp2_with (fail)
        go_roundw
        case rel =>
          refine ⟨_, cnt1, fo, ⟨hrg1⟩, by omega, ⟨hout1.mono (by omega)⟩, ⟨HA.out.1, fun z hz hwz => ?_⟩, ⟨hB2⟩⟩
          rw [HA.out.2 z hz hwz, left_cut left (e ▸ hz)]
        case measure => rw [hrg1.left_eq, HRG.out.left_eq]; exact hlt
      · have hsame : (x != k) = true := by simp [e]
        obtain ⟨w3, hrun3, hm3, hg3⟩ := hout1.put (t := c) (by unfold maxLen; omega) hwx hwc
        have HR3 := Aside0.mk hrun3
        go_wp2_with (first
          | (refine wpList_mapUpdate_run _ rfl _ _ _ 87 rfl _ _ _ rfl rfl rfl w3 HR3.out ?_; go_frame)
          | go_in)
        have hrg2 := hrg1.kept hg3 (fun e => by have := Option.some.inj e; have := hown0_ne; omega) (fun e => by have := Option.some.inj e; have := HL1.out; omega)
        go_roundw
        case rel =>
          refine ⟨_, cnt1, _, ⟨hrg2⟩, by omega, ⟨hm3.mono (by omega)⟩, ⟨?_, fun z hz hwz => ?_⟩, ⟨hB2.grown hg3 hB2.size (fun j hj => by cases hj; exact Nat.le_refl _)⟩⟩
          · show (if k = x then some c else fo k) = some t
            rw [if_neg (Ne.symm e), HA.out.1]
          · show (if z = x then some c else fo z) = _
            by_cases ez : z = x
            · subst ez
              rw [if_pos rfl, left_cut_self left, hfx]
              rfl
            · rw [if_neg ez, HA.out.2 z hz hwz, left_cut left ez]
        case measure => rw [hrg2.left_eq, HRG.out.left_eq]; exact hlt
end Go.Proofs.Ythaoaaboempajaa.Log
namespace Go.Proofs.Ythaoaaboempajaa.Log
open Go.RowKit Go.Maps Go.Proofs.Ythaoaaboempajaa.QLogRuns Go.Proofs.Ythaoaaboempajaa.QDiskRuns Go.Proofs.Ythaoaaboempajaa.Disk Go.Proofs.YthaoaaboempajaaW.PrintWords Go.Proofs.YthaoaaboempajaaW.PrintLast Go.Proofs.YthaoaaboempajaaW.PrintMore Go.Proofs.YthaoaaboempajaaX
set_option linter.unusedVariables false
set_option linter.unusedSimpArgs false
def MapO (b : Nat) (o : Obj) (n : Nat) (f : Int → Option ByteArray) : Prop := ∀ w : World, w.heap[b]? = some o → MapS w b n f
theorem MapO.of {w : World} {b n : Nat} {f : Int → Option ByteArray} (h : MapS w b n f) : ∃ o, w.heap[b]? = some o ∧ MapO b o n f :=
  ⟨w.heap[b]'h.lt, Array.getElem?_eq_getElem h.lt, fun w' h' => h.kept (h'.trans (Array.getElem?_eq_getElem h.lt).symm)⟩
theorem MapO.mono {b n m : Nat} {o : Obj} {f : Int → Option ByteArray} (h : MapO b o n f) (hm : n ≤ m) : MapO b o m f := fun w hw => (h w hw).mono hm
def pE : Part := fun _ _ => True
theorem fpE (base : Nat) : Fr base pE := ⟨fun _ _ _ => trivial, fun _ _ => trivial, fun _ => trivial⟩
abbrev KS (w0 w : World) (gd gl : Nat) (s : St) (g : Lg) (bx : List (Nat × Obj)) : Prop := Bd w0 w (pP w0.heap.size gd gl s g) pE bx
abbrev KD (w0 w : World) (gd : Nat) (s : St) (bx : List (Nat × Obj)) : Prop := Bd w0 w (pD w0.heap.size gd s) pE bx
abbrev KT (w0 w : World) (gd gn : Nat) (s x : St) (bx : List (Nat × Obj)) : Prop := Bd w0 w (pD w0.heap.size gd s) (pD w0.heap.size gn x) bx
section
variable {w0 w w' : World} {gd gl gn : Nat} {s x : St} {g : Lg} {bx : List (Nat × Obj)} {m : Nat} {P Q : Part}
theorem Bd.start (hB : Below w0.heap.size w0 w) (hP : ∃ O, P w O) (hF : Fr w0.heap.size P) : Bd w0 w P pE [] := by
  obtain ⟨O, h⟩ := hP
  exact ⟨hB, _, ⟨_, fun _ => False, hF.narrow h, trivial, fun k hk => hk, fun _ h => h.elim, fun _ _ h => h, fun k hk => hk.2, fun _ h => h.elim⟩, fun x hx => by cases hx⟩
theorem Bd.right (h : Bd w0 w P Q bx) : Bd w0 w Q pE bx := by
  obtain ⟨O, ⟨O1, O2, a, b, c, d, e, f, i⟩, h2⟩ := h.hD
  exact ⟨h.hB, O, ⟨O2, fun _ => False, b, trivial, d, fun _ h => h.elim, fun _ _ h => h, i, fun _ h => h.elim⟩, h2⟩
theorem Bd.have (h : Bd w0 w P Q bx) {b : Nat} {o : Obj} (hx : (b, o) ∈ bx) : w.heap[b]? = some o := by
  obtain ⟨O, -, h2⟩ := h.hD
  exact (h2 _ hx).1
theorem Bd.beside (h : Bd w0 w P pE bx) (hP : Fr w0.heap.size P) (hQ : Fr w0.heap.size Q) (hb : Below w.heap.size w w') (hq : Q w' (fun k => w.heap.size ≤ k)) : Bd w0 w' P Q bx := by
  obtain ⟨O, ⟨O1, O2, a, -, c, -, -, f, -⟩, h2⟩ := h.hD
  have hs := h.hB.size
  refine ⟨below_step h.hB hb, fun k => O k ∨ w.heap.size ≤ k, ⟨O1, _, hP.apart a (S := fun _ => False) (Kept.of_below hb _) (fun _ _ h => h), hQ.narrow hq, fun k hk => .inl (c k hk), fun k hk => .inr hk.1, fun k h1 h3 => Nat.not_lt.mpr h3.1 (f k h1).2, fun k hk => ⟨(f k hk).1, Nat.lt_of_lt_of_le (f k hk).2 hb.size⟩, fun k hk => hk.2⟩, fun y hy => ?_⟩
  have hlt := (Array.getElem?_eq_some_iff.mp (h2 y hy).1).1
  exact ⟨((Kept.of_below hb (fun _ => False)).2 y.1 hlt (fun h => h)).trans (h2 y hy).1, fun ho => ho.elim (h2 y hy).2 (Nat.not_le.mpr hlt)⟩
theorem KS.below (h : KS w0 w gd gl s g bx) (hb : Below w.heap.size w w') : KS w0 w' gd gl s g bx := Bd.below h (fpP _ _ _ _ _) (fpE _) hb
theorem KS.drew (h : KS w0 w gd gl s g bx) : KS w0 w.drew gd gl s g bx := KS.below h (below_drew (Below.refl _ w))
theorem KD.below (h : KD w0 w gd s bx) (hb : Below w.heap.size w w') : KD w0 w' gd s bx := Bd.below h (fpD _ _ _) (fpE _) hb
theorem KS.disk (h : KS w0 w gd gl s g bx) : KD w0 w gd s bx := Bd.imp h pP_D (fun _ h => h)
theorem KS.append (h : KS w0 w gd gl s g bx) (hok : s.ok m) (hm : m ≤ 500000000) (hg : g.ok) (n : Int) (t : ByteArray) (hn : -9223372036854775808 ≤ n ∧ n < 9223372036854775808) :
    Calls Try.prog 67 #[pv gl, .int .i64 n, .string t] w fun e w' => e = .returned (.int .i64 (Lg.append s g n t).1) ∧ KS w0 w' gd gl (Lg.append s g n t).2.1 (Lg.append s g n t).2.2 bx := by
  refine (Bd.onP (X := Unit) (V := fun _ => .int .i64 (Lg.append s g n t).1) (PP := fun _ => pP w0.heap.size gd gl (Lg.append s g n t).2.1 (Lg.append s g n t).2.2) h (fun _ => fpP _ _ _ _ _) (fpE _) (fun O1 h1 _ => (append.calls gd gl O1 s g m n t w0 w h.hB h1 hok (by omega) hg hn).mono (fun e w' hw => ⟨(), hw⟩))).mono ?_
  rintro e w' ⟨-, rfl, hb⟩
  exact ⟨rfl, hb⟩
theorem KS.commit (h : KS w0 w gd gl s g bx) (hok : s.ok m) (hm : m ≤ 500000000) (hg : g.ok) (n : Int) (t : ByteArray) (p : Int) (hn : -9223372036854775808 ≤ n ∧ n < 9223372036854775808) :
    Calls Try.prog 69 #[pv gl, .int .i64 n, .string t, .int .i64 p] w fun e w' => e = .returned (.int .i64 (Lg.commit s g n t p).c) ∧ KS w0 w' gd gl (Lg.commit s g n t p).s (Lg.commit s g n t p).g bx := by
  refine (Bd.onP (X := Unit) (V := fun _ => .int .i64 (Lg.commit s g n t p).c) (PP := fun _ => pP w0.heap.size gd gl (Lg.commit s g n t p).s (Lg.commit s g n t p).g) h (fun _ => fpP _ _ _ _ _) (fpE _) (fun O1 h1 _ => (commit.calls gd gl O1 s g m n t p w0 w h.hB h1 hok (by omega) hg hn).mono (fun e w' hw => ⟨(), hw⟩))).mono ?_
  rintro e w' ⟨-, rfl, hb⟩
  exact ⟨rfl, hb⟩
theorem KS.back (h : KS w0 w gd gl s g bx) (hg : g.ok) : Calls Try.prog 70 #[pv gl] w fun e w' => e = .returned (.tuple #[]) ∧ KS w0 w' gd gl s g.back bx := by
  refine (Bd.onP (X := Unit) (V := fun _ => .tuple #[]) (PP := fun _ => pP w0.heap.size gd gl s g.back) h (fun _ => fpP _ _ _ _ _) (fpE _) (fun O1 h1 _ => (back.calls gd gl O1 s g w0 w h.hB h1 hg).mono (fun e w' hw => ⟨(), hw⟩))).mono ?_
  rintro e w' ⟨-, rfl, hb⟩
  exact ⟨rfl, hb⟩
theorem KS.checkpoint (h : KS w0 w gd gl s g bx) (hok : s.ok m) (hm : m ≤ 500000000) (hg : g.ok) :
    Calls Try.prog 71 #[pv gl] w fun e w' => e = .returned (.int .i64 (Lg.checkpoint s g).c) ∧ KS w0 w' gd gl (Lg.checkpoint s g).s (Lg.checkpoint s g).g bx := by
  refine (Bd.onP (X := Unit) (V := fun _ => .int .i64 (Lg.checkpoint s g).c) (PP := fun _ => pP w0.heap.size gd gl (Lg.checkpoint s g).s (Lg.checkpoint s g).g) h (fun _ => fpP _ _ _ _ _) (fpE _) (fun O1 h1 _ => (checkpoint.calls gd gl O1 s g m w0 w h.hB h1 hok (by omega) hg).mono (fun e w' hw => ⟨(), hw⟩))).mono ?_
  rintro e w' ⟨-, rfl, hb⟩
  exact ⟨rfl, hb⟩
theorem KS.read (h : KS w0 w gd gl s g bx) (hok : s.ok m) (hg : g.ok) (n : Int) (hn : -9223372036854775808 ≤ n ∧ n < 9223372036854775808) :
    Calls Try.prog 77 #[pv gl, .int .i64 n] w fun e w' => e = .returned (.tuple #[.string (Lg.read s g n).1, .int .i64 (Lg.read s g n).2]) ∧ Below w.heap.size w w' := by
  obtain ⟨O, ⟨O1, O2, a, -⟩, -⟩ := h.hD
  refine (lread.calls gd gl O1 s g m n w0 w a hok hg hn).mono ?_
  rintro e w' ⟨rfl, hb⟩
  exact ⟨rfl, hb.below⟩
theorem KD.down (h : KD w0 w gd s bx) : Calls Try.prog 72 #[pv gd] w fun e w' => e = .returned (.bool s.d) ∧ w' = w := by
  obtain ⟨O, ⟨O1, O2, a, -⟩, -⟩ := h.hD
  obtain ⟨lab, x0, x1, x2, x3, x4, hb, -⟩ := a
  exact down.calls gd x0 x1 x2 x3 x4 s.f s.d s.c w hb
theorem KS.down (h : KS w0 w gd gl s g bx) : Calls Try.prog 72 #[pv gd] w fun e w' => e = .returned (.bool s.d) ∧ w' = w := KD.down (KS.disk h)
theorem KS.fail (h : KS w0 w gd gl s g bx) (n : Int) : Calls Try.prog 64 #[pv gd, .int .i64 n] w fun e w' => e = .returned (.tuple #[]) ∧ KS w0 w' gd gl (s.failed n) g bx := by
  refine (Bd.onP (X := Unit) (V := fun _ => .tuple #[]) (PP := fun _ => pP w0.heap.size gd gl (s.failed n) g) h (fun _ => fpP _ _ _ _ _) (fpE _) (fun O1 h1 _ => ?_)).mono ?_
  · have h1' : Sep w0.heap.size (fun w O => DD w w0.heap.size gd O s) (LX w0.heap.size gl gd g) w O1 := h1
    obtain ⟨O3, a, -, -, back⟩ := Sep.onL h1' (frD _ _ (s.failed n)) (frL _ _ _ _)
    refine (fail_D h.hB a n).mono ?_
    rintro e w' ⟨rfl, hd, hb, hk⟩
    exact ⟨(), rfl, (back _ hd hk).1, hb, (back _ hd hk).2⟩
  · rintro e w' ⟨-, rfl, hb⟩
    exact ⟨rfl, hb⟩
theorem KD.fail (h : KD w0 w gd s bx) (n : Int) : Calls Try.prog 64 #[pv gd, .int .i64 n] w fun e w' => e = .returned (.tuple #[]) ∧ KD w0 w' gd (s.failed n) bx := by
  refine (Bd.onP (X := Unit) (V := fun _ => .tuple #[]) (PP := fun _ => pD w0.heap.size gd (s.failed n)) h (fun _ => fpD _ _ _) (fpE _) (fun O1 h1 _ => (fail_D h.hB h1 n).mono (fun e w' hw => ⟨(), hw⟩))).mono ?_
  rintro e w' ⟨-, rfl, hb⟩
  exact ⟨rfl, hb⟩
theorem KD.crash (h : KD w0 w gd s bx) (hok : s.ok m) (hm : m ≤ 500000000) (Ak : Option Addr) (ck : Nat) (keep : List Int) (hk : (Kd.int .i64).C w0 Ak keep.length keep) (hkl : keep.length ≤ 9223372036854775807) :
    Calls Try.prog 73 #[pv gd, .slice Ak keep.length ck] w fun e w' => e = .returned (.tuple #[]) ∧ KD w0 w' gd (s.crashed keep) bx := by
  refine (Bd.onP (X := Unit) (V := fun _ => .tuple #[]) (PP := fun _ => pD w0.heap.size gd (s.crashed keep)) h (fun _ => fpD _ _ _) (fpE _) (fun O1 h1 hO => (crash.calls gd O1 s m Ak ck keep w0 w h.hB h1 hok (by omega) (Kd.C_kept_came (Kd.heap_int .i64) hk h.hB hO) hkl).mono (fun e w' hw => ⟨(), hw⟩))).mono ?_
  rintro e w' ⟨-, rfl, hb⟩
  exact ⟨rfl, hb⟩
theorem KD.open_ (h : KD w0 w gd s bx) (hok : s.ok m) (hm : m ≤ 500000000) (ho : openP s = (0, (openP s).2.1, some g)) :
    Calls Try.prog 63 #[pv gd] w fun e w' => ∃ gl, e = .returned (.tuple #[pv gl, .int .i64 0]) ∧ KS w0 w' gd gl (openP s).2.1 g bx := by
  refine Bd.onP (X := Nat) (V := fun gl => .tuple #[pv gl, .int .i64 0]) (PP := fun gl => pP w0.heap.size gd gl (openP s).2.1 g) h (fun _ => fpP _ _ _ _ _) (fpE _) (fun O1 h1 _ => (open.calls gd O1 s m w0 w h.hB h1 hok (by omega)).mono (fun e w' hw => ?_))
  obtain ⟨v, e1, e2, e3, e4⟩ := hw
  rw [ho] at e1 e4
  obtain ⟨gl, rfl, e5⟩ := e4
  exact ⟨gl, e1, e5, e2, e3⟩
theorem KD.new_ (h : KD w0 w gd s bx) : Calls Try.prog 58 #[] w fun e w' => ∃ gn, e = .returned (pv gn) ∧ KT w0 w' gd gn s St.new bx := by
  refine (new.calls w0 w h.hB).mono ?_
  rintro e w' ⟨gn, rfl, hge, hD, hb⟩
  exact ⟨gn, rfl, Bd.beside h (fpD _ _ _) (fpD _ _ _) hb hD⟩
theorem KT.size (h : KT w0 w gd gn s x bx) (f : Int) : Calls Try.prog 129 #[pv gd, .int .i64 f] w fun e w' => e = .returned (.tuple #[.int .i64 (s.size f).1, .int .i64 (s.size f).2]) ∧ KT w0 w' gd gn s x bx := by
  obtain ⟨O, ⟨O1, O2, a, -⟩, -⟩ := h.hD
  refine (size.calls gd O1 s f w0 w a).mono ?_
  rintro e w' ⟨rfl, hb⟩
  exact ⟨rfl, Bd.below h (fpD _ _ _) (fpD _ _ _) hb.below⟩
theorem KT.read (h : KT w0 w gd gn s x bx) (f a n : Int) : Calls Try.prog 123 #[pv gd, .int .i64 f, .int .i64 a, .int .i64 n] w fun e w' => e = .returned (.tuple #[.string (s.read f a n).1, .int .i64 (s.read f a n).2]) ∧ KT w0 w' gd gn s x bx := by
  obtain ⟨O, ⟨O1, O2, hd, -⟩, -⟩ := h.hD
  refine (read.calls gd O1 s f a n w0 w hd).mono ?_
  rintro e w' ⟨rfl, hb⟩
  exact ⟨rfl, Bd.below h (fpD _ _ _) (fpD _ _ _) hb.below⟩
theorem KT.write (h : KT w0 w gd gn s x bx) (hok : x.ok m) (hm : m ≤ 500000000) (f a : Int) (t : ByteArray) : Calls Try.prog 125 #[pv gn, .int .i64 f, .int .i64 a, .string t] w fun e w' => e = .returned (.int .i64 (x.write f a t).1) ∧ KT w0 w' gd gn s (x.write f a t).2 bx := by
  refine (Bd.onQ (X := Unit) (V := fun _ => .int .i64 (x.write f a t).1) (QQ := fun _ => pD w0.heap.size gn (x.write f a t).2) h (fpD _ _ _) (fun _ => fpD _ _ _) (fun O1 h1 _ => (write.calls gn O1 x f a t m w0 w h.hB h1 hok (by omega)).mono (fun e w' hw => ⟨(), hw⟩))).mono ?_
  rintro e w' ⟨-, rfl, hb⟩
  exact ⟨rfl, hb⟩
theorem KS.with_ (h : KS w0 w gd gl s g bx) {b n : Nat} {o : Obj} {f : Int → Option ByteArray} (hx : (b, o) ∈ bx) (hM : MapO b o n f) (hn : n ≤ 1000000000) (k : Int) (hk : -9223372036854775808 ≤ k ∧ k < 9223372036854775808) (t : ByteArray) (ht : t.size ≤ maxLen) :
    Calls Try.prog 68 #[.map (some b), .int .i64 k, .string t] w fun e w' => ∃ b' o', e = .returned (.map (some b')) ∧ KS w0 w' gd gl s g ((b', o') :: bx) ∧ MapO b' o' (n + 1) (fun x => if x = k then some t else f x) := by
  refine (withk.calls b n f k t w (hM w (Bd.have h hx)) hn (wf_int hk) ht).mono ?_
  rintro e w' ⟨b', rfl, hge, hm, hb⟩
  obtain ⟨o', ho, hmo⟩ := MapO.of hm
  exact ⟨b', o', rfl, Bd.more h (fpP _ _ _ _ _) (fpE _) hb (x := (b', o')) ho hge, hmo⟩
end
end Go.Proofs.Ythaoaaboempajaa.Log
