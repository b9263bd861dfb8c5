/- The law DiskRuns, walked: it answers true. Conditions: the script is read; its numbers are of 64 bits; what is kept is below 2^44 numbers. -/
import Derived.Test.YthaoaaboempajaaDisk17
namespace Go.Proofs.Ythaoaaboempajaa.Disk
open Go.RowKit Go.Proofs.YthaoaaboempajaaW.PrintWords Go.Proofs.YthaoaaboempajaaW.PrintLast Go.Proofs.YthaoaaboempajaaW.PrintMore Go.Proofs.YthaoaaboempajaaX Go.Proofs.Ythaoaaboempajaa.QDiskRuns
attribute [local go_sem] max2_int min2_int max_two min_two
set_option linter.unusedVariables false
set_option linter.unusedSimpArgs false
theorem disks.calls {w0 w : World} {gd gr : Nat} {s : St} {m : Nat} (k F A N : Int) (S T : ByteArray) (Ak : Option Addr) (ck : Nat) (keep : List Int) (vc : Value) (h : LT w0 w gd gr (fun _ => False) s s m) (hm : m ≤ 100000)
    (hN : N < 9223372036854775808) (hk : (Kd.int .i64).C w0 Ak keep.length keep) (hkc : keep.length ≤ ck) (hkl : keep.length ≤ 17592186043904) :
    Calls Try.prog 61 #[.pointer (some ⟨gd, 0, none⟩), .pointer (some ⟨gr, 0, none⟩), .agg #[.int .i64 k, .int .i64 F, .int .i64 A, .int .i64 N, .string S, .string T, .slice Ak keep.length ck, vc]] w fun e w' => e = .returned (.bool true) ∧ ∃ s', LT w0 w' gd gr (fun _ => False) s' s' (m + 2) := by
  by_cases h1 : k = 1
  · subst h1; exact disks.calls1 1 F A N S T Ak ck keep vc h hm hN hk hkc hkl
  by_cases h2 : k = 2
  · subst h2; exact disks.calls2 2 F A N S T Ak ck keep vc h hm hN hk hkc hkl
  by_cases h3 : k = 3
  · subst h3; exact disks.calls3 3 F A N S T Ak ck keep vc h hm hN hk hkc hkl
  by_cases h4 : k = 4
  · subst h4; exact disks.calls4 4 F A N S T Ak ck keep vc h hm hN hk hkc hkl
  by_cases h5 : k = 5
  · subst h5; exact disks.calls5 5 F A N S T Ak ck keep vc h hm hN hk hkc hkl
  by_cases h6 : k = 6
  · subst h6; exact disks.calls6 6 F A N S T Ak ck keep vc h hm hN hk hkc hkl
  by_cases h7 : k = 7
  · subst h7; exact disks.calls7 7 F A N S T Ak ck keep vc h hm hN hk hkc hkl
  exact disks.calls8 k F A N S T Ak ck keep vc h hm hN hk hkc hkl ⟨h1, h2, h3, h4, h5, h6, h7⟩
theorem short.calls (A : Option Addr) (n c : Nat) (w : World) (hn : n ≤ 4611686018427387904) (hc : n ≤ c) :
    Calls Try.prog 60 #[.slice A n c] w fun e w' => e = .returned (.slice A (min n 250) c) ∧ w' = w := by
  obtain ⟨i77, hi77⟩ : ∃ i, Try.prog.info? 77 = some i := Option.isSome_iff_exists.1 (by kernel_rfl)
  by_cases h : 250 < n
  · have l_ : (250 : Int) < (n : Int) := by omega
    have sl_ := cut_to (P := Try.prog) 69 77 .i64 Try.underlying69 hi77 A n c 250 (by omega) (by omega) hc
    have HM := Aside0.mk (show min n 250 = 250 by omega)
    clear hi77
    go_enter Try.func60, Try.ntmps60
    go_wp2_with (fail)
    all_goals
      go_ret
      exact ⟨by rw [HM.out]; rfl, rfl⟩
  · have l_ : ¬ (250 : Int) < (n : Int) := by omega
    have sl_ := cut_to (P := Try.prog) 69 77 .i64 Try.underlying69 hi77 A n c (n : Int) (by omega) (by omega) hc
    rw [Int.toNat_natCast] at sl_
    have HM := Aside0.mk (show min n 250 = n by omega)
    clear hi77
    go_enter Try.func60, Try.ntmps60
    go_wp2_with (fail)
    all_goals
      go_ret
      exact ⟨by rw [HM.out]; rfl, rfl⟩
def put8 (W : World) (gb : Nat) (x0 x1 x2 x3 x4 x5 x6 x7 : Value) : World := ((((((((W.setCell ⟨gb, 0, none⟩ x0).setCell ⟨gb, 1, none⟩ x1).setCell ⟨gb, 2, none⟩ x2).setCell ⟨gb, 3, none⟩ x3).setCell ⟨gb, 4, none⟩ x4).setCell ⟨gb, 5, none⟩ x5).setCell ⟨gb, 6, none⟩ x6).setCell ⟨gb, 7, none⟩ x7)
theorem put8_blk {W : World} {gb t : Nat} {y0 y1 y2 y3 y4 y5 y6 y7 x0 x1 x2 x3 x4 x5 x6 x7 : Value} (h : W.heap[gb]? = some (.cells #[y0, y1, y2, y3, y4, y5, y6, y7] t (0, 0))) : (put8 W gb x0 x1 x2 x3 x4 x5 x6 x7).heap[gb]? = some (.cells #[x0, x1, x2, x3, x4, x5, x6, x7] t (0, 0)) := by
  have h0 : (W.setCell ⟨gb, 0, none⟩ x0).heap[gb]? = some (.cells #[x0, y1, y2, y3, y4, y5, y6, y7] t (0, 0)) := blk_put h 0 x0 rfl
  have h1 : ((W.setCell ⟨gb, 0, none⟩ x0).setCell ⟨gb, 1, none⟩ x1).heap[gb]? = some (.cells #[x0, x1, y2, y3, y4, y5, y6, y7] t (0, 0)) := blk_put h0 1 x1 rfl
  have h2 : (((W.setCell ⟨gb, 0, none⟩ x0).setCell ⟨gb, 1, none⟩ x1).setCell ⟨gb, 2, none⟩ x2).heap[gb]? = some (.cells #[x0, x1, x2, y3, y4, y5, y6, y7] t (0, 0)) := blk_put h1 2 x2 rfl
  have h3 : ((((W.setCell ⟨gb, 0, none⟩ x0).setCell ⟨gb, 1, none⟩ x1).setCell ⟨gb, 2, none⟩ x2).setCell ⟨gb, 3, none⟩ x3).heap[gb]? = some (.cells #[x0, x1, x2, x3, y4, y5, y6, y7] t (0, 0)) := blk_put h2 3 x3 rfl
  have h4 : (((((W.setCell ⟨gb, 0, none⟩ x0).setCell ⟨gb, 1, none⟩ x1).setCell ⟨gb, 2, none⟩ x2).setCell ⟨gb, 3, none⟩ x3).setCell ⟨gb, 4, none⟩ x4).heap[gb]? = some (.cells #[x0, x1, x2, x3, x4, y5, y6, y7] t (0, 0)) := blk_put h3 4 x4 rfl
  have h5 : ((((((W.setCell ⟨gb, 0, none⟩ x0).setCell ⟨gb, 1, none⟩ x1).setCell ⟨gb, 2, none⟩ x2).setCell ⟨gb, 3, none⟩ x3).setCell ⟨gb, 4, none⟩ x4).setCell ⟨gb, 5, none⟩ x5).heap[gb]? = some (.cells #[x0, x1, x2, x3, x4, x5, y6, y7] t (0, 0)) := blk_put h4 5 x5 rfl
  have h6 : (((((((W.setCell ⟨gb, 0, none⟩ x0).setCell ⟨gb, 1, none⟩ x1).setCell ⟨gb, 2, none⟩ x2).setCell ⟨gb, 3, none⟩ x3).setCell ⟨gb, 4, none⟩ x4).setCell ⟨gb, 5, none⟩ x5).setCell ⟨gb, 6, none⟩ x6).heap[gb]? = some (.cells #[x0, x1, x2, x3, x4, x5, x6, y7] t (0, 0)) := blk_put h5 6 x6 rfl
  have h7 : ((((((((W.setCell ⟨gb, 0, none⟩ x0).setCell ⟨gb, 1, none⟩ x1).setCell ⟨gb, 2, none⟩ x2).setCell ⟨gb, 3, none⟩ x3).setCell ⟨gb, 4, none⟩ x4).setCell ⟨gb, 5, none⟩ x5).setCell ⟨gb, 6, none⟩ x6).setCell ⟨gb, 7, none⟩ x7).heap[gb]? = some (.cells #[x0, x1, x2, x3, x4, x5, x6, x7] t (0, 0)) := blk_put h6 7 x7 rfl
  exact h7
theorem put8_below {B gb : Nat} {w W : World} {x0 x1 x2 x3 x4 x5 x6 x7 : Value} (h : Below B w W) (hg : B ≤ gb) : Below B w (put8 W gb x0 x1 x2 x3 x4 x5 x6 x7) :=
  (((((((h.setCell (p := ⟨gb, 0, none⟩) hg x0).setCell (p := ⟨gb, 1, none⟩) hg x1).setCell (p := ⟨gb, 2, none⟩) hg x2).setCell (p := ⟨gb, 3, none⟩) hg x3).setCell (p := ⟨gb, 4, none⟩) hg x4).setCell (p := ⟨gb, 5, none⟩) hg x5).setCell (p := ⟨gb, 6, none⟩) hg x6).setCell (p := ⟨gb, 7, none⟩) hg x7
set_option maxHeartbeats 8000000 in
set_option maxRecDepth 100000 in
theorem DiskRuns.calls (A : Option Addr) (c : Nat) (l : List S77) (w : World) (hr : Kd.C k77 w A l.length l) (hc : l.length ≤ c) (hl : l.length ≤ 4611686018427387904) (hx : ∀ x ∈ l, x.f3 < 9223372036854775808 ∧ x.f6.length ≤ 17592186043904) :
    Calls Try.prog 11 #[.slice A l.length c] w fun e w' => e = .returned (.bool true) ∧ Below w.heap.size w w' := by
  have HR := Aside0.mk hr
  have HCC := Aside0.mk hc
  have HL := Aside0.mk hl
  have HXX := Aside0.mk hx
  clear hr hc hl hx
  go_enter Try.func11, Try.ntmps11
  go_upto_region 2 with (first
    | (go_at_call 58; (refine (new.calls w _ (Below.refl _ w)).mono ?_); rintro e1 w1 ⟨gd, rfl, hgd, hD, hb⟩; have D1 := Aside0.mk hD; have B1 := Aside0.mk hb; clear hgd hD hb)
    | (go_at_call 59; (refine (newDisk.calls w _ B1.out).mono ?_); rintro e2 w2 ⟨gr, rfl, hgr, hD, hb⟩; have D2 := Aside0.mk hD; have B2 := Aside0.mk hb; clear hgr hD hb))
  have T0 := Aside0.mk (show LT w w2 gd gr (fun _ => False) St.new St.new 0 from
    ⟨fun k => (w.heap.size ≤ k) ∧ w.heap.size ≤ k ∧ k < w1.heap.size, fun k => (w1.heap.size ≤ k) ∧ w.heap.size ≤ k ∧ k < w2.heap.size,
      DX.apart (DX.narrow2 D1.out) (S := fun _ => False) (Kept.of_below B2.out _) (fun _ _ h => h), RD.narrow2 D2.out,
      fun k hk => ⟨hk.1, Nat.lt_of_lt_of_le hk.2.2 B2.out.size, fun h2 => absurd hk.2.2 (Nat.not_lt.mpr h2.1), fun h => h⟩,
      fun k hk => ⟨hk.2.1, hk.2.2, fun h => h⟩, fun k h => h.elim, below_step B1.out B2.out, St.new_ok, St.new_ok⟩)
  clear D1 B1 D2 B2
  go_wp2_with (go_at_call 60; (refine (short.calls A l.length c _ HL.out HCC.out).mono ?_); rintro e3 w3 ⟨rfl, rfl⟩)
  have HN := Aside0.mk (show min l.length 250 ≤ l.length ∧ min l.length 250 ≤ 250 by omega)
  generalize min l.length 250 = n at HN ⊢
  go_loopw [14] (fun v14 wr => ∃ (j : Nat) (s : St), j ≤ n ∧ v14 = .int .i64 (j : Int) ∧ Aside0 (LT w wr gd gr (fun _ => False) s s (2 * j))) (fun v14 _ => n - (intOf v14).toNat)
  case atStart => exact ⟨0, St.new, Nat.zero_le _, rfl, T0⟩
  case round =>
    clear T0
    obtain ⟨j, s, hj, rfl, T⟩ := hrel
    obtain ⟨hn1, hn2⟩ := HN.out
    by_cases hlt : j < n
    · have t_ : decide ((j : Int) < (n : Int)) = true := decide_eq_true (by omega)
      obtain ⟨ad, A6, c6, A7, c7, hA, f0, f1, f2, f3, f4, f5, f6, f7, l6, g6, l7, g7⟩ := at_T77 HR.out (j : Int) (by omega) (by omega)
      rw [Int.toNat_natCast] at f0 f1 f2 f3 f4 f5 f6 f7
      have HXJ := Aside0.mk (HXX.out (rd_T77 l (j : Int)) (by unfold rd_T77; rw [Int.toNat_natCast, List.getD_eq_getElem?_getD, List.getElem?_eq_getElem (show j < l.length by omega), Option.getD_some]; exact List.getElem_mem _))
      have G6 := Aside0.mk g6
      have L6 := Aside0.mk l6
      clear g6 l6 g7 l7
      generalize rd_T77 l (j : Int) = x at f0 f1 f2 f3 f4 f5 f6 f7 HXJ G6 L6
      subst hA
      replace f0 := (T.out.hB.cell (World.block_lt_of_cell? w _ f0)).trans f0
      replace f1 := (T.out.hB.cell (World.block_lt_of_cell? w _ f1)).trans f1
      replace f2 := (T.out.hB.cell (World.block_lt_of_cell? w _ f2)).trans f2
      replace f3 := (T.out.hB.cell (World.block_lt_of_cell? w _ f3)).trans f3
      replace f4 := (T.out.hB.cell (World.block_lt_of_cell? w _ f4)).trans f4
      replace f5 := (T.out.hB.cell (World.block_lt_of_cell? w _ f5)).trans f5
      replace f6 := (T.out.hB.cell (World.block_lt_of_cell? w _ f6)).trans f6
      replace f7 := (T.out.hB.cell (World.block_lt_of_cell? w _ f7)).trans f7
      clear hn1
      go_upto_region 7 with ((with_reducible refine gate_dst (N := 6) rfl ?_); refine box_event ?hg (N := 6) ?hd (cs := #[.int .i64 0, .int .i64 0, .int .i64 0, .int .i64 0, .string ⟨#[]⟩, .string ⟨#[]⟩, .slice none 0 0, .slice none 0 0]) (t := 77) ?hr ?_; (case hd => rfl); (case hg => rfl); (case hr => first | (go_simp; done) | (go_simp; rfl)); intro gb hgb w7 hbox hb; have HXb := Aside0.mk hbox; have HBb := Aside0.mk hb; have HGb := Aside0.mk hgb; have b0 : w7.cell? ⟨gb, 0, none⟩ = some (.int .i64 0) := (blk_cell hbox 0).trans rfl; have y0 := blk_frozen hbox 0; have b1 : w7.cell? ⟨gb, 1, none⟩ = some (.int .i64 0) := (blk_cell hbox 1).trans rfl; have y1 := blk_frozen hbox 1; have b2 : w7.cell? ⟨gb, 2, none⟩ = some (.int .i64 0) := (blk_cell hbox 2).trans rfl; have y2 := blk_frozen hbox 2; have b3 : w7.cell? ⟨gb, 3, none⟩ = some (.int .i64 0) := (blk_cell hbox 3).trans rfl; have y3 := blk_frozen hbox 3; have b4 : w7.cell? ⟨gb, 4, none⟩ = some (.string ⟨#[]⟩) := (blk_cell hbox 4).trans rfl; have y4 := blk_frozen hbox 4; have b5 : w7.cell? ⟨gb, 5, none⟩ = some (.string ⟨#[]⟩) := (blk_cell hbox 5).trans rfl; have y5 := blk_frozen hbox 5; have b6 : w7.cell? ⟨gb, 6, none⟩ = some (.slice none 0 0) := (blk_cell hbox 6).trans rfl; have y6 := blk_frozen hbox 6; have b7 : w7.cell? ⟨gb, 7, none⟩ = some (.slice none 0 0) := (blk_cell hbox 7).trans rfl; have y7 := blk_frozen hbox 7; clear hgb hbox hb)
      have hput : ((((((((w7.setCell ⟨gb, 0, none⟩ (.int .i64 x.f0)).setCell ⟨gb, 1, none⟩ (.int .i64 x.f1)).setCell ⟨gb, 2, none⟩ (.int .i64 x.f2)).setCell ⟨gb, 3, none⟩ (.int .i64 x.f3)).setCell ⟨gb, 4, none⟩ (.string x.f4)).setCell ⟨gb, 5, none⟩ (.string x.f5)).setCell ⟨gb, 6, none⟩ (.slice A6 x.f6.length c6)).setCell ⟨gb, 7, none⟩ (.slice A7 x.f7.length c7)) = put8 w7 gb (.int .i64 x.f0) (.int .i64 x.f1) (.int .i64 x.f2) (.int .i64 x.f3) (.string x.f4) (.string x.f5) (.slice A6 x.f6.length c6) (.slice A7 x.f7.length c7) := rfl
      rw [hput]
      clear hput
      have HX8 := Aside0.mk (put8_blk (x0 := (.int .i64 x.f0)) (x1 := (.int .i64 x.f1)) (x2 := (.int .i64 x.f2)) (x3 := (.int .i64 x.f3)) (x4 := (.string x.f4)) (x5 := (.string x.f5)) (x6 := (.slice A6 x.f6.length c6)) (x7 := (.slice A7 x.f7.length c7)) HXb.out)
      have HB8 := Aside0.mk (put8_below (x0 := (.int .i64 x.f0)) (x1 := (.int .i64 x.f1)) (x2 := (.int .i64 x.f2)) (x3 := (.int .i64 x.f3)) (x4 := (.string x.f4)) (x5 := (.string x.f5)) (x6 := (.slice A6 x.f6.length c6)) (x7 := (.slice A7 x.f7.length c7)) HBb.out (Nat.le_of_eq HGb.out.symm))
      clear b0 y0 b1 y1 b2 y2 b3 y3 b4 y4 b5 y5 b6 y6 b7 y7 f0 f1 f2 f3 f4 f5 f6 f7 HXb HBb
      generalize put8 w7 gb (.int .i64 x.f0) (.int .i64 x.f1) (.int .i64 x.f2) (.int .i64 x.f3) (.string x.f4) (.string x.f5) (.slice A6 x.f6.length c6) (.slice A7 x.f7.length c7) = w8 at HX8 HB8 ⊢
      have q0 : w8.cell? ⟨gb, 0, none⟩ = some (.int .i64 x.f0) := (blk_cell HX8.out 0).trans rfl
      have q1 : w8.cell? ⟨gb, 1, none⟩ = some (.int .i64 x.f1) := (blk_cell HX8.out 1).trans rfl
      have q2 : w8.cell? ⟨gb, 2, none⟩ = some (.int .i64 x.f2) := (blk_cell HX8.out 2).trans rfl
      have q3 : w8.cell? ⟨gb, 3, none⟩ = some (.int .i64 x.f3) := (blk_cell HX8.out 3).trans rfl
      have q4 : w8.cell? ⟨gb, 4, none⟩ = some (.string x.f4) := (blk_cell HX8.out 4).trans rfl
      have q5 : w8.cell? ⟨gb, 5, none⟩ = some (.string x.f5) := (blk_cell HX8.out 5).trans rfl
      have q6 : w8.cell? ⟨gb, 6, none⟩ = some (.slice A6 x.f6.length c6) := (blk_cell HX8.out 6).trans rfl
      have q7 : w8.cell? ⟨gb, 7, none⟩ = some (.slice A7 x.f7.length c7) := (blk_cell HX8.out 7).trans rfl
      have T8 := Aside0.mk (T.out.below HB8.out)
      clear T
      go_wp2_with (first
        | (go_at_call 61; (refine (disks.calls x.f0 x.f1 x.f2 x.f3 x.f4 x.f5 A6 c6 x.f6 (.slice A7 x.f7.length c7) T8.out (by omega) HXJ.out.1 G6.out L6.out HXJ.out.2).mono ?_); rintro e9 w9 ⟨rfl, s9, ht⟩; have T9 := Aside0.mk ht; clear ht)
        | (go_at_call 62; (refine (files.calls T9.out (by omega)).mono ?_); rintro e10 w10 ⟨rfl, hb⟩; have T10 := Aside0.mk (T9.out.below hb); clear hb))
      go_roundw
      case rel => exact ⟨j + 1, s9, by omega, by go_num, ⟨T10.out.up (by omega)⟩⟩
      case measure => simp [intOf]; omega
    · obtain rfl : j = n := by omega
      clear hlt hj
      go_wp2_with (fail)
      go_ret
      exact ⟨rfl, T.out.hB⟩
end Go.Proofs.Ythaoaaboempajaa.Disk
