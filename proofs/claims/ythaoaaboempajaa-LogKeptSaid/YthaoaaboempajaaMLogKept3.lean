/- Lines of the texts that the claim LogKept rests on, bundled: part 3; no conditions but those that each row names. -/
import Derived.Test.YthaoaaboempajaaMLogKept2
import Derived.LoopN
namespace Go.Proofs.Ythaoaaboempajaa.Disk
open Go.RowKit Go.Proofs.YthaoaaboempajaaW.PrintWords Go.Proofs.YthaoaaboempajaaW.PrintLast Go.Proofs.YthaoaaboempajaaW.PrintMore Go.Proofs.YthaoaaboempajaaX Go.Proofs.Ythaoaaboempajaa.QDiskRuns
set_option linter.unusedVariables false
set_option linter.unusedSimpArgs false
def chgAt (ws : List Chg) (i : Nat) : Chg := ws.getD i noChg
theorem at_C {w : World} {A : Option Addr} {n : Nat} {ws : List Chg} (h : kC.C w A n ws) (i : Nat) (h1 : i < n) : ∃ ad, A = some ad ∧ w.cell? (ad.add (i * 4)) = some (.int .i64 (chgAt ws i).file) ∧
    w.cell? ⟨(ad.add (i * 4)).block, (ad.add (i * 4)).off + 1, none⟩ = some (.int .i64 ((chgAt ws i).at_ : Int)) ∧ w.cell? ⟨(ad.add (i * 4)).block, (ad.add (i * 4)).off + 2, none⟩ = some (.string (chgAt ws i).text) ∧ w.cell? ⟨(ad.add (i * 4)).block, (ad.add (i * 4)).off + 3, none⟩ = some (.bool (chgAt ws i).cut) := by
  obtain ⟨ad, c, e, _, hK, hc0⟩ := Kd.C_get h noChg (i : Int) (by omega) (by omega)
  rw [Int.toNat_natCast] at hK hc0
  have hc : ∀ j u, c[j]? = some u → w.cell? (ad.add (i * 4 + j)) = some u := hc0
  obtain rfl := kC_open hK
  exact ⟨ad, e, hc 0 _ rfl, by rw [← add_field _ _ 1 (by omega)]; exact hc 1 _ rfl, by rw [← add_field _ _ 2 (by omega)]; exact hc 2 _ rfl, by rw [← add_field _ _ 3 (by omega)]; exact hc 3 _ rfl⟩
theorem take_succ_chg {ws : List Chg} {j : Nat} (h : j < ws.length) : ws.take (j + 1) = ws.take j ++ [chgAt ws j] := by
  rw [List.take_succ_eq_append_getElem h]
  congr 2
  unfold chgAt
  rw [List.getD_eq_getElem?_getD, List.getElem?_eq_getElem h, Option.getD_some]
theorem others_snoc (f : Int) (l : List Chg) (c : Chg) : others f (l ++ [c]) = if (c.file != f) = true then others f l ++ [c] else others f l := by
  unfold others
  rw [List.filter_append, List.filter_cons, List.filter_nil]
  split <;> simp
def put4 (W : World) (g : Nat) (a b c d : Value) : World := (((W.setCell ⟨g, 0, none⟩ a).setCell ⟨g, 1, none⟩ b).setCell ⟨g, 2, none⟩ c).setCell ⟨g, 3, none⟩ d
theorem put4_blk {W : World} {g t : Nat} {x y z u a b c d : Value} (h : W.heap[g]? = some (.cells #[x, y, z, u] t (0, 0))) : (put4 W g a b c d).heap[g]? = some (.cells #[a, b, c, d] t (0, 0)) :=
  blk_put (blk_put (blk_put (blk_put h 0 a rfl) 1 b rfl) 2 c rfl) 3 d rfl
set_option maxHeartbeats 8000000 in
set_option maxRecDepth 100000 in
theorem sync.calls0 (g : Nat) (O : Nat → Prop) (s : St) (m : Nat) (w0 w : World) (hB : Below w0.heap.size w0 w) (hD : DD w w0.heap.size g O s) (hok : s.ok m) (hm : m ≤ 1000000000) :
    Calls Try.prog 131 #[.pointer (some ⟨g, 0, none⟩), .int .i64 0] w fun e w' => e = .returned (.int .i64 (turn s.f s.d s.c).1) ∧
      DD w' w0.heap.size g (fun k => O k ∨ w.heap.size ≤ k) (s.synced 0) ∧ Below w0.heap.size w0 w' ∧ Kept w w' O := by
  obtain ⟨lab, x0, x1, x2, x3, x4, hb, hg, hO, hlb, hr⟩ := hD
  have hcs := hok.c
  have hns := hok.n
  have hfs := hok.f
  have h3 := hok.s0
  have HF := Aside0.mk (show -9223372036854775808 ≤ s.f ∧ s.f < 9223372036854775808 by omega)
  have HC := Aside0.mk (show 0 ≤ s.c ∧ s.c < 9223372036854775807 by omega)
  have HL := Aside0.mk (show s.s0.size ≤ 140737488355000 by unfold maxFile at h3; omega)
  have HW := Aside0.mk (show s.ws.length ≤ 1000000000 by omega)
  have HB := Aside0.mk hB
  have HG := Aside0.mk hg
  have HO := Aside0.mk hO
  have HLB := Aside0.mk hlb
  have HR := Aside0.mk hr
  have HX := Aside0.mk hb
  clear hB hb hg hO hlb hr hok hm hcs hns hfs h3
  obtain ⟨A4, c4, e4⟩ := Kd.R_slice HR.out.r4
  subst e4
  obtain ⟨A1, c1, e1⟩ := Kd.R_slice HR.out.r1
  subst e1
  go_enter Try.func131, Try.ntmps131
  go_upto_region 3 with (go_at_call 164; (refine (disk_right.calls 0 0 0 true _ (by rw [right_is, show rightB 0 0 0 = true by decide])).mono ?_); rintro e1 w1 ⟨rfl, hd1⟩; have HW1 := Aside0.mk hd1; clear hd1)
  have HX0 := Aside0.mk (blk_below HX.out HW1.out.below)
  have HR0 := Aside0.mk (HR.out.below HW1.out.below)
  have HB1 := Aside0.mk (below_step HB.out HW1.out.below)
  have HK1 := Aside0.mk (Kept.of_below HW1.out.below O)
  clear HX HR HB HW1
  go_upto_region 4 with (go_at_call 168; (refine (turn.calls g _ _ _ _ _ s.f s.d s.c w0 _ HB1.out HG.out HX0.out HF.out HC.out).mono ?_); rintro e2 w2 ⟨rfl, hx2, hb2, hk2, hs2⟩; have HX2 := Aside0.mk hx2; have HB2 := Aside0.mk hb2; have HK2 := Aside0.mk hk2; have HS2 := Aside0.mk hs2; clear hx2 hb2 hk2 hs2)
  have HR2 := Aside0.mk (HR0.out.only HK2.out HLB.out)
  have HSZ := Aside0.mk (show w.heap.size ≤ w2.heap.size by rw [HS2.out]; exact HK1.out.1)
  have HKw := Aside0.mk (Kept.then_ HK1.out HK2.out (fun k hk => .inl (by rw [hk]; exact HO.out)))
  clear HX0 HR0 HB1 HK1 HK2 HS2
  rcases turn_cases s.f s.d s.c with ⟨e0, -⟩ | ⟨e0, -⟩
  · have HE := Aside0.mk e0
    rw [e0]
    clear e0
    go_upto_region 6 with (fail)
    have q1 : w2.cell? ⟨g, 1, none⟩ = some (.slice A1 (bytesOf s.s0).length c1) := (blk_cell HX2.out 1).trans rfl
    have HL' : (bytesOf s.s0).length ≤ 140737488355000 := by rw [bytesOf_length]; exact HL.out
    have HRC := Aside0.mk (Kd.C_below (Kd.R_reads' HR2.out.r1).2.2 (below_drew (Below.refl _ w2)))
    go_region_law (refine Kd.R_append_rows_step (Kd.int .u8) (Rr := (Kd.int .u8).K w2.drew) (W := w2.drew) (w0 := w0) w0.heap.size rfl _ _ 55 5 (.int .u8 0) 1 rfl Try.underlying55 info5 rfl (by decide) (by omega) (.slice none 0 0) [] (bytesOf s.s0) A1 (bytesOf s.s0).length c1 (fun k => w2.heap.size ≤ k) (fun _ => False) rfl rfl (Kd.R_nil _ _ _ _ _) HRC.out (fun _ _ h => h) (fun _ hk => hk.elim) (fun k hk => hk) (below_drew1 HB2.out) (below_size (below_drew1 HB2.out)) (by simp; omega) ?_; intro v1 w3 ho hb hgr hat; obtain ⟨A5, c5, e5⟩ := Kd.R_slice ho; rw [List.nil_append] at e5 ho; subst e5; have HO3 := Aside0.mk ho; have HB3 := Aside0.mk hb; have HK3 := Aside0.mk (show Kept w2 w3 (fun k => O k ∧ lab k = 0) from Kept.of_grown hgr (Kept.drew (Kept.refl w2 _)) (fun k hk => by cases hk)); have HX3 := Aside0.mk (blk_grown (blk_drew HX2.out) hgr (by intro h; cases h)); have z3 := blk_frozen HX3.out 0; have c3_ : ∃ v, w3.cell? ⟨g, 0, none⟩ = some v := ⟨_, (blk_cell HX3.out 0).trans rfl⟩; obtain ⟨v3_, c3_⟩ := c3_; clear ho hb hgr hat)
    clear q1 HL' HRC z3 c3_
    have HLB3 := Aside0.mk (show relab w2.heap.size lab 0 g = 5 by unfold relab; rw [if_pos (blk_lt HX2.out)]; exact HLB.out)
    have HR4 := Aside0.mk ((HR2.out.up0 HK3.out (Kd.R_mono HO3.out (fun k hk => .inr hk))).set HLB3.out 0 (.slice A5 (bytesOf s.s0).length c5))
    have HX4 := Aside0.mk (show (w3.setCell ⟨g, 0, none⟩ (.slice A5 (bytesOf s.s0).length c5)).heap[g]? = some (.cells (dcells (.slice A5 (bytesOf s.s0).length c5) (.slice A1 (bytesOf s.s0).length c1) x2 x3 (.slice A4 s.ws.length c4) (turn s.f s.d s.c).2.1 (turn s.f s.d s.c).2.2.1 (turn s.f s.d s.c).2.2.2) 146 (0, 0)) from blk_put HX3.out 0 _ rfl)
    have HB4 := Aside0.mk (HB3.out.setCell (p := ⟨g, 0, none⟩) HG.out (.slice A5 (bytesOf s.s0).length c5))
    have HK4 := Aside0.mk ((HKw.out.then_ HK3.out (fun k hk => .inl hk.1)).setCell (p := ⟨g, 0, none⟩) (.inl HO.out) (.slice A5 (bytesOf s.s0).length c5))
    have HS4 := Aside0.mk (show w2.heap.size ≤ (w3.setCell ⟨g, 0, none⟩ (.slice A5 (bytesOf s.s0).length c5)).heap.size by simp; exact HK3.out.1)
    clear HX2 HR2 HB2 HK3 HX3 HO3 HB3
    generalize w3.setCell ⟨g, 0, none⟩ (.slice A5 (bytesOf s.s0).length c5) = w4 at HR4 HX4 HB4 HK4 HS4 ⊢
    have q4 : w4.cell? ⟨g, 4, none⟩ = some (.slice A4 s.ws.length c4) := (blk_cell HX4.out 4).trans rfl
    have HCW := Aside0.mk (Kd.R_reads' HR4.out.r4).2.2
    go_wp2_with (fail)
    clear q4
    go_loopw [6, 36] (fun v6 v36 wr => ∃ (j : Nat), j ≤ s.ws.length ∧ v36 = .int .i64 (j : Int) ∧ Aside0 (kC.R 172 wr w4.heap.size (fun _ => True) v6 (others 0 (s.ws.take j))) ∧ Aside0 (Below w4.heap.size w4 wr)) (fun _ v36 _ => s.ws.length - (intOf v36).toNat)
    case atStart => exact ⟨0, Nat.zero_le _, rfl, ⟨Kd.R_nil _ _ _ _ _⟩, ⟨Below.refl _ _⟩⟩
    case round =>
      obtain ⟨j, hj, rfl, HOr, HBr⟩ := hrel
      obtain ⟨A6, c6, e6⟩ := Kd.R_slice HOr.out
      subst e6
      have hm := HW.out
      by_cases hlt : j < s.ws.length
      · have t_ : decide ((j : Int) < (s.ws.length : Int)) = true := decide_eq_true (by omega)
        obtain ⟨ad, hA, f0, f1, f2, f3⟩ := at_C HCW.out j hlt
        subst hA
        replace f0 := (HBr.out.cell (World.block_lt_of_cell? w4 _ f0)).trans f0
        replace f1 := (HBr.out.cell (World.block_lt_of_cell? w4 _ f1)).trans f1
        replace f2 := (HBr.out.cell (World.block_lt_of_cell? w4 _ f2)).trans f2
        replace f3 := (HBr.out.cell (World.block_lt_of_cell? w4 _ f3)).trans f3
        have HT := Aside0.mk (take_succ_chg hlt)
        have HLN := Aside0.mk (show (others 0 (s.ws.take j)).length ≤ 1000000000 by have := List.length_filter_le (fun c : Chg => c.file != 0) (s.ws.take j); rw [List.length_take] at this; unfold others; omega)
        have HTN := Aside0.mk (show others 0 (s.ws.take (j + 1)) = if ((chgAt s.ws j).file != 0) = true then others 0 (s.ws.take j) ++ [chgAt s.ws j] else others 0 (s.ws.take j) by rw [take_succ_chg hlt]; exact others_snoc _ _ _)
        clear HT
        generalize chgAt s.ws j = ch at f0 f1 f2 f3 HTN
        generalize others 0 (s.ws.take j) = ls at HOr HLN HTN
        go_upto_region 11 with ((with_reducible refine gate_dst (N := 8) rfl ?_); refine box_event ?hg (N := 8) ?hd (cs := #[.int .i64 0, .int .i64 0, .string ⟨#[]⟩, .bool false]) (t := 172) ?hr ?_; (case hd => rfl); (case hg => rfl); (case hr => first | (go_simp; done) | (go_simp; rfl)); intro gb hgb w7 hbox hb; have HXb := Aside0.mk hbox; have HBb := Aside0.mk hb; have HGb := Aside0.mk hgb; have b0 : w7.cell? ⟨gb, 0, none⟩ = some (.int .i64 0) := (blk_cell hbox 0).trans rfl; have b1 : w7.cell? ⟨gb, 1, none⟩ = some (.int .i64 0) := (blk_cell hbox 1).trans rfl; have b2 : w7.cell? ⟨gb, 2, none⟩ = some (.string ⟨#[]⟩) := (blk_cell hbox 2).trans rfl; have b3 : w7.cell? ⟨gb, 3, none⟩ = some (.bool false) := (blk_cell hbox 3).trans rfl; have y0 := blk_frozen hbox 0; have y1 := blk_frozen hbox 1; have y2 := blk_frozen hbox 2; have y3 := blk_frozen hbox 3; clear hgb hbox hb)
        have hput : (((w7.setCell ⟨gb, 0, none⟩ (.int .i64 ch.file)).setCell ⟨gb, 1, none⟩ (.int .i64 (ch.at_ : Int))).setCell ⟨gb, 2, none⟩ (.string ch.text)).setCell ⟨gb, 3, none⟩ (.bool ch.cut) = put4 w7 gb (.int .i64 ch.file) (.int .i64 (ch.at_ : Int)) (.string ch.text) (.bool ch.cut) := rfl
        rw [hput]
        clear hput
        have HX8 := Aside0.mk (put4_blk (a := .int .i64 ch.file) (b := .int .i64 (ch.at_ : Int)) (c := .string ch.text) (d := .bool ch.cut) HXb.out)
        have HB8 := Aside0.mk (HBb.out.setCell (p := ⟨gb, 0, none⟩) (by rw [HGb.out]; exact Nat.le_refl _) (.int .i64 ch.file) |>.setCell (p := ⟨gb, 1, none⟩) (by rw [HGb.out]; exact Nat.le_refl _) (.int .i64 (ch.at_ : Int)) |>.setCell (p := ⟨gb, 2, none⟩) (by rw [HGb.out]; exact Nat.le_refl _) (.string ch.text) |>.setCell (p := ⟨gb, 3, none⟩) (by rw [HGb.out]; exact Nat.le_refl _) (.bool ch.cut))
        change Aside0 (Below wr.heap.size wr (put4 w7 gb (.int .i64 ch.file) (.int .i64 (ch.at_ : Int)) (.string ch.text) (.bool ch.cut))) at HB8
        clear b0 b1 b2 b3 y0 y1 y2 y3 f0 f1 f2 f3 HXb HBb
        generalize put4 w7 gb (.int .i64 ch.file) (.int .i64 (ch.at_ : Int)) (.string ch.text) (.bool ch.cut) = w8 at HX8 HB8 ⊢
        have q0 : w8.cell? ⟨gb, 0, none⟩ = some (.int .i64 ch.file) := (blk_cell HX8.out 0).trans rfl
        have q1 : w8.cell? ⟨gb, 1, none⟩ = some (.int .i64 (ch.at_ : Int)) := (blk_cell HX8.out 1).trans rfl
        have q2 : w8.cell? ⟨gb, 2, none⟩ = some (.string ch.text) := (blk_cell HX8.out 2).trans rfl
        have q3 : w8.cell? ⟨gb, 3, none⟩ = some (.bool ch.cut) := (blk_cell HX8.out 3).trans rfl
        by_cases hne : (ch.file != 0) = true
        · have HNE := Aside0.mk hne
          have hls := HLN.out
          go_wp2_with (first
            | ((with_reducible refine gate_builtin (b := .append) (xs := #[.tmp 44, .tmp 46]) rfl ?_); at_builtin; refine Kd.R_append kC (w0 := w4) w4.heap.size rfl (.tmp 44) (.tmp 46) 144 172 (.agg #[.int .i64 0, .int .i64 0, .string ⟨#[]⟩, .bool false]) 40 rfl Try.underlying144 info172 rfl (by decide) (by omega) (.slice A6 ls.length c6) ls ch _ (fun _ => True) (fun _ => False) rfl rfl ?aP (fun _ hk => hk.elim) ?aF ?aO ?aB ?aS ?aL ?_; (case aP => exact kC_M ch); (case aB => exact below_step HBr.out HB8.out); (case aF => exact (fun _ _ => trivial)); (case aO => exact Kd.R_below HOr.out HB8.out); (case aS => exact below_size (below_step HBr.out HB8.out)); (case aL => omega); intro v1 w9 ho hb hg hat; have HO9 := Aside0.mk ho; have HB9 := Aside0.mk hb; clear ho hb hg hat))
          go_roundw
          case rel => exact ⟨j + 1, by omega, by go_num, ⟨by rw [HTN.out, if_pos HNE.out]; exact HO9.out⟩, HB9⟩
          case measure => simp [intOf]; omega
        · have hne' : (ch.file != 0) = false := by simpa using hne
          have HNE := Aside0.mk hne
          clear hne
          go_wp2_with (fail)
          go_roundw
          case rel => exact ⟨j + 1, by omega, by go_num, ⟨by rw [HTN.out, if_neg HNE.out]; exact Kd.R_below HOr.out HB8.out⟩, ⟨below_step HBr.out HB8.out⟩⟩
          case measure => simp [intOf]; omega
      · obtain rfl : j = s.ws.length := by omega
        rw [List.take_length] at HOr ⊢
        clear hlt hj
        have q4 : wr.cell? ⟨g, 4, none⟩ = some (.slice A4 s.ws.length c4) := (blk_cell (blk_below HX4.out HBr.out) 4).trans rfl
        have z4 := blk_frozen (blk_below HX4.out HBr.out) 4
        go_wp2_with (fail)
        go_ret
        have HLX := Aside0.mk (show relab w4.heap.size (relab w2.heap.size lab 0) 4 g = 5 by unfold relab; rw [if_pos (blk_lt HX4.out)]; exact HLB3.out)
        have HN4 := Aside0.mk (Kd.R_lower (Kd.R_mono (Kd.R_bound HOr.out) (ok' := fun k => ((O k ∨ w2.heap.size ≤ k) ∧ relab w2.heap.size lab 0 k = 4) ∨ w4.heap.size ≤ k) (fun k hk => .inr hk.2.1)) (below_size HB4.out))
        refine ⟨by rw [HE.out]; rfl, ?_, (below_then HB4.out (below_size HB4.out) HBr.out).setCell (p := ⟨g, 4, none⟩) HG.out _, (HK4.out.below HBr.out).setCell (p := ⟨g, 4, none⟩) (.inl HO.out) _⟩
        unfold St.synced
        rw [if_pos HE.out]
        refine DX.mono (O := fun k => (O k ∨ w2.heap.size ≤ k) ∨ w4.heap.size ≤ k) (DX.of (lab := relab w4.heap.size (relab w2.heap.size lab 0) 4) (blk_put (blk_below HX4.out HBr.out) 4 _ rfl) HG.out (.inl (.inl HO.out)) HLX.out ((HR4.out.up4 (Kept.of_below HBr.out _) HN4.out).set HLX.out 4 _) rfl (congrArg bytesOf (seenB_others_self 0 s.ws s.s0)) rfl (congrArg bytesOf (seenB_others_ne (by decide) s.ws s.l1))) ?_
        rintro k ((hk | hk) | hk)
        · exact .inl hk
        · exact .inr (Nat.le_trans HSZ.out hk)
        · exact .inr (Nat.le_trans HSZ.out (Nat.le_trans HS4.out hk))
  · have HE := Aside0.mk e0
    rw [e0]
    clear e0
    go_upto_region 5 with (fail)
    go_wp2_with (fail)
    go_ret
    refine ⟨by rw [HE.out]; rfl, DX.mono ?_ (fun k hk => .inl hk), HB2.out, HKw.out⟩
    unfold St.synced
    rw [if_neg (by rw [HE.out]; decide)]
    exact ⟨lab, _, _, _, _, _, HX2.out, HG.out, HO.out, HLB.out, HR2.out⟩
set_option maxHeartbeats 8000000 in
set_option maxRecDepth 100000 in
theorem sync.calls1 (g : Nat) (O : Nat → Prop) (s : St) (m : Nat) (w0 w : World) (hB : Below w0.heap.size w0 w) (hD : DD w w0.heap.size g O s) (hok : s.ok m) (hm : m ≤ 1000000000) :
    Calls Try.prog 131 #[.pointer (some ⟨g, 0, none⟩), .int .i64 1] w fun e w' => e = .returned (.int .i64 (turn s.f s.d s.c).1) ∧
      DD w' w0.heap.size g (fun k => O k ∨ w.heap.size ≤ k) (s.synced 1) ∧ Below w0.heap.size w0 w' ∧ Kept w w' O := by
  obtain ⟨lab, x0, x1, x2, x3, x4, hb, hg, hO, hlb, hr⟩ := hD
  have hcs := hok.c
  have hns := hok.n
  have hfs := hok.f
  have h3 := hok.s1
  have HF := Aside0.mk (show -9223372036854775808 ≤ s.f ∧ s.f < 9223372036854775808 by omega)
  have HC := Aside0.mk (show 0 ≤ s.c ∧ s.c < 9223372036854775807 by omega)
  have HL := Aside0.mk (show s.s1.size ≤ 140737488355000 by unfold maxFile at h3; omega)
  have HW := Aside0.mk (show s.ws.length ≤ 1000000000 by omega)
  have HB := Aside0.mk hB
  have HG := Aside0.mk hg
  have HO := Aside0.mk hO
  have HLB := Aside0.mk hlb
  have HR := Aside0.mk hr
  have HX := Aside0.mk hb
  clear hB hb hg hO hlb hr hok hm hcs hns hfs h3
  obtain ⟨A4, c4, e4⟩ := Kd.R_slice HR.out.r4
  subst e4
  obtain ⟨A1, c1, e1⟩ := Kd.R_slice HR.out.r3
  subst e1
  go_enter Try.func131, Try.ntmps131
  go_upto_region 3 with (go_at_call 164; (refine (disk_right.calls 1 0 0 true _ (by rw [right_is, show rightB 1 0 0 = true by decide])).mono ?_); rintro e1 w1 ⟨rfl, hd1⟩; have HW1 := Aside0.mk hd1; clear hd1)
  have HX0 := Aside0.mk (blk_below HX.out HW1.out.below)
  have HR0 := Aside0.mk (HR.out.below HW1.out.below)
  have HB1 := Aside0.mk (below_step HB.out HW1.out.below)
  have HK1 := Aside0.mk (Kept.of_below HW1.out.below O)
  clear HX HR HB HW1
  go_upto_region 4 with (go_at_call 168; (refine (turn.calls g _ _ _ _ _ s.f s.d s.c w0 _ HB1.out HG.out HX0.out HF.out HC.out).mono ?_); rintro e2 w2 ⟨rfl, hx2, hb2, hk2, hs2⟩; have HX2 := Aside0.mk hx2; have HB2 := Aside0.mk hb2; have HK2 := Aside0.mk hk2; have HS2 := Aside0.mk hs2; clear hx2 hb2 hk2 hs2)
  have HR2 := Aside0.mk (HR0.out.only HK2.out HLB.out)
  have HSZ := Aside0.mk (show w.heap.size ≤ w2.heap.size by rw [HS2.out]; exact HK1.out.1)
  have HKw := Aside0.mk (Kept.then_ HK1.out HK2.out (fun k hk => .inl (by rw [hk]; exact HO.out)))
  clear HX0 HR0 HB1 HK1 HK2 HS2
  rcases turn_cases s.f s.d s.c with ⟨e0, -⟩ | ⟨e0, -⟩
  · have HE := Aside0.mk e0
    rw [e0]
    clear e0
    go_upto_region 6 with (fail)
    have q1 : w2.cell? ⟨g, 3, none⟩ = some (.slice A1 (bytesOf s.s1).length c1) := (blk_cell HX2.out 3).trans rfl
    have HL' : (bytesOf s.s1).length ≤ 140737488355000 := by rw [bytesOf_length]; exact HL.out
    have HRC := Aside0.mk (Kd.C_below (Kd.R_reads' HR2.out.r3).2.2 (below_drew (Below.refl _ w2)))
    go_region_law (refine Kd.R_append_rows_step (Kd.int .u8) (Rr := (Kd.int .u8).K w2.drew) (W := w2.drew) (w0 := w0) w0.heap.size rfl _ _ 55 5 (.int .u8 0) 1 rfl Try.underlying55 info5 rfl (by decide) (by omega) (.slice none 0 0) [] (bytesOf s.s1) A1 (bytesOf s.s1).length c1 (fun k => w2.heap.size ≤ k) (fun _ => False) rfl rfl (Kd.R_nil _ _ _ _ _) HRC.out (fun _ _ h => h) (fun _ hk => hk.elim) (fun k hk => hk) (below_drew1 HB2.out) (below_size (below_drew1 HB2.out)) (by simp; omega) ?_; intro v1 w3 ho hb hgr hat; obtain ⟨A5, c5, e5⟩ := Kd.R_slice ho; rw [List.nil_append] at e5 ho; subst e5; have HO3 := Aside0.mk ho; have HB3 := Aside0.mk hb; have HK3 := Aside0.mk (show Kept w2 w3 (fun k => O k ∧ lab k = 2) from Kept.of_grown hgr (Kept.drew (Kept.refl w2 _)) (fun k hk => by cases hk)); have HX3 := Aside0.mk (blk_grown (blk_drew HX2.out) hgr (by intro h; cases h)); have z3 := blk_frozen HX3.out 2; have c3_ : ∃ v, w3.cell? ⟨g, 2, none⟩ = some v := ⟨_, (blk_cell HX3.out 2).trans rfl⟩; obtain ⟨v3_, c3_⟩ := c3_; clear ho hb hgr hat)
    clear q1 HL' HRC z3 c3_
    have HLB3 := Aside0.mk (show relab w2.heap.size lab 2 g = 5 by unfold relab; rw [if_pos (blk_lt HX2.out)]; exact HLB.out)
    have HR4 := Aside0.mk ((HR2.out.up2 HK3.out (Kd.R_mono HO3.out (fun k hk => .inr hk))).set HLB3.out 2 (.slice A5 (bytesOf s.s1).length c5))
    have HX4 := Aside0.mk (show (w3.setCell ⟨g, 2, none⟩ (.slice A5 (bytesOf s.s1).length c5)).heap[g]? = some (.cells (dcells x0 x1 (.slice A5 (bytesOf s.s1).length c5) (.slice A1 (bytesOf s.s1).length c1) (.slice A4 s.ws.length c4) (turn s.f s.d s.c).2.1 (turn s.f s.d s.c).2.2.1 (turn s.f s.d s.c).2.2.2) 146 (0, 0)) from blk_put HX3.out 2 _ rfl)
    have HB4 := Aside0.mk (HB3.out.setCell (p := ⟨g, 2, none⟩) HG.out (.slice A5 (bytesOf s.s1).length c5))
    have HK4 := Aside0.mk ((HKw.out.then_ HK3.out (fun k hk => .inl hk.1)).setCell (p := ⟨g, 2, none⟩) (.inl HO.out) (.slice A5 (bytesOf s.s1).length c5))
    have HS4 := Aside0.mk (show w2.heap.size ≤ (w3.setCell ⟨g, 2, none⟩ (.slice A5 (bytesOf s.s1).length c5)).heap.size by simp; exact HK3.out.1)
    clear HX2 HR2 HB2 HK3 HX3 HO3 HB3
    generalize w3.setCell ⟨g, 2, none⟩ (.slice A5 (bytesOf s.s1).length c5) = w4 at HR4 HX4 HB4 HK4 HS4 ⊢
    have q4 : w4.cell? ⟨g, 4, none⟩ = some (.slice A4 s.ws.length c4) := (blk_cell HX4.out 4).trans rfl
    have HCW := Aside0.mk (Kd.R_reads' HR4.out.r4).2.2
    go_wp2_with (fail)
    clear q4
    go_loopw [6, 36] (fun v6 v36 wr => ∃ (j : Nat), j ≤ s.ws.length ∧ v36 = .int .i64 (j : Int) ∧ Aside0 (kC.R 172 wr w4.heap.size (fun _ => True) v6 (others 1 (s.ws.take j))) ∧ Aside0 (Below w4.heap.size w4 wr)) (fun _ v36 _ => s.ws.length - (intOf v36).toNat)
    case atStart => exact ⟨0, Nat.zero_le _, rfl, ⟨Kd.R_nil _ _ _ _ _⟩, ⟨Below.refl _ _⟩⟩
    case round =>
      obtain ⟨j, hj, rfl, HOr, HBr⟩ := hrel
      obtain ⟨A6, c6, e6⟩ := Kd.R_slice HOr.out
      subst e6
      have hm := HW.out
      by_cases hlt : j < s.ws.length
      · have t_ : decide ((j : Int) < (s.ws.length : Int)) = true := decide_eq_true (by omega)
        obtain ⟨ad, hA, f0, f1, f2, f3⟩ := at_C HCW.out j hlt
        subst hA
        replace f0 := (HBr.out.cell (World.block_lt_of_cell? w4 _ f0)).trans f0
        replace f1 := (HBr.out.cell (World.block_lt_of_cell? w4 _ f1)).trans f1
        replace f2 := (HBr.out.cell (World.block_lt_of_cell? w4 _ f2)).trans f2
        replace f3 := (HBr.out.cell (World.block_lt_of_cell? w4 _ f3)).trans f3
        have HT := Aside0.mk (take_succ_chg hlt)
        have HLN := Aside0.mk (show (others 1 (s.ws.take j)).length ≤ 1000000000 by have := List.length_filter_le (fun c : Chg => c.file != 1) (s.ws.take j); rw [List.length_take] at this; unfold others; omega)
        have HTN := Aside0.mk (show others 1 (s.ws.take (j + 1)) = if ((chgAt s.ws j).file != 1) = true then others 1 (s.ws.take j) ++ [chgAt s.ws j] else others 1 (s.ws.take j) by rw [take_succ_chg hlt]; exact others_snoc _ _ _)
        clear HT
        generalize chgAt s.ws j = ch at f0 f1 f2 f3 HTN
        generalize others 1 (s.ws.take j) = ls at HOr HLN HTN
        go_upto_region 11 with ((with_reducible refine gate_dst (N := 8) rfl ?_); refine box_event ?hg (N := 8) ?hd (cs := #[.int .i64 0, .int .i64 0, .string ⟨#[]⟩, .bool false]) (t := 172) ?hr ?_; (case hd => rfl); (case hg => rfl); (case hr => first | (go_simp; done) | (go_simp; rfl)); intro gb hgb w7 hbox hb; have HXb := Aside0.mk hbox; have HBb := Aside0.mk hb; have HGb := Aside0.mk hgb; have b0 : w7.cell? ⟨gb, 0, none⟩ = some (.int .i64 0) := (blk_cell hbox 0).trans rfl; have b1 : w7.cell? ⟨gb, 1, none⟩ = some (.int .i64 0) := (blk_cell hbox 1).trans rfl; have b2 : w7.cell? ⟨gb, 2, none⟩ = some (.string ⟨#[]⟩) := (blk_cell hbox 2).trans rfl; have b3 : w7.cell? ⟨gb, 3, none⟩ = some (.bool false) := (blk_cell hbox 3).trans rfl; have y0 := blk_frozen hbox 0; have y1 := blk_frozen hbox 1; have y2 := blk_frozen hbox 2; have y3 := blk_frozen hbox 3; clear hgb hbox hb)
        have hput : (((w7.setCell ⟨gb, 0, none⟩ (.int .i64 ch.file)).setCell ⟨gb, 1, none⟩ (.int .i64 (ch.at_ : Int))).setCell ⟨gb, 2, none⟩ (.string ch.text)).setCell ⟨gb, 3, none⟩ (.bool ch.cut) = put4 w7 gb (.int .i64 ch.file) (.int .i64 (ch.at_ : Int)) (.string ch.text) (.bool ch.cut) := rfl
        rw [hput]
        clear hput
        have HX8 := Aside0.mk (put4_blk (a := .int .i64 ch.file) (b := .int .i64 (ch.at_ : Int)) (c := .string ch.text) (d := .bool ch.cut) HXb.out)
        have HB8 := Aside0.mk (HBb.out.setCell (p := ⟨gb, 0, none⟩) (by rw [HGb.out]; exact Nat.le_refl _) (.int .i64 ch.file) |>.setCell (p := ⟨gb, 1, none⟩) (by rw [HGb.out]; exact Nat.le_refl _) (.int .i64 (ch.at_ : Int)) |>.setCell (p := ⟨gb, 2, none⟩) (by rw [HGb.out]; exact Nat.le_refl _) (.string ch.text) |>.setCell (p := ⟨gb, 3, none⟩) (by rw [HGb.out]; exact Nat.le_refl _) (.bool ch.cut))
        change Aside0 (Below wr.heap.size wr (put4 w7 gb (.int .i64 ch.file) (.int .i64 (ch.at_ : Int)) (.string ch.text) (.bool ch.cut))) at HB8
        clear b0 b1 b2 b3 y0 y1 y2 y3 f0 f1 f2 f3 HXb HBb
        generalize put4 w7 gb (.int .i64 ch.file) (.int .i64 (ch.at_ : Int)) (.string ch.text) (.bool ch.cut) = w8 at HX8 HB8 ⊢
        have q0 : w8.cell? ⟨gb, 0, none⟩ = some (.int .i64 ch.file) := (blk_cell HX8.out 0).trans rfl
        have q1 : w8.cell? ⟨gb, 1, none⟩ = some (.int .i64 (ch.at_ : Int)) := (blk_cell HX8.out 1).trans rfl
        have q2 : w8.cell? ⟨gb, 2, none⟩ = some (.string ch.text) := (blk_cell HX8.out 2).trans rfl
        have q3 : w8.cell? ⟨gb, 3, none⟩ = some (.bool ch.cut) := (blk_cell HX8.out 3).trans rfl
        by_cases hne : (ch.file != 1) = true
        · have HNE := Aside0.mk hne
          have hls := HLN.out
          go_wp2_with (first
            | ((with_reducible refine gate_builtin (b := .append) (xs := #[.tmp 44, .tmp 46]) rfl ?_); at_builtin; refine Kd.R_append kC (w0 := w4) w4.heap.size rfl (.tmp 44) (.tmp 46) 144 172 (.agg #[.int .i64 0, .int .i64 0, .string ⟨#[]⟩, .bool false]) 40 rfl Try.underlying144 info172 rfl (by decide) (by omega) (.slice A6 ls.length c6) ls ch _ (fun _ => True) (fun _ => False) rfl rfl ?aP (fun _ hk => hk.elim) ?aF ?aO ?aB ?aS ?aL ?_; (case aP => exact kC_M ch); (case aB => exact below_step HBr.out HB8.out); (case aF => exact (fun _ _ => trivial)); (case aO => exact Kd.R_below HOr.out HB8.out); (case aS => exact below_size (below_step HBr.out HB8.out)); (case aL => omega); intro v1 w9 ho hb hg hat; have HO9 := Aside0.mk ho; have HB9 := Aside0.mk hb; clear ho hb hg hat))
          go_roundw
          case rel => exact ⟨j + 1, by omega, by go_num, ⟨by rw [HTN.out, if_pos HNE.out]; exact HO9.out⟩, HB9⟩
          case measure => simp [intOf]; omega
        · have hne' : (ch.file != 1) = false := by simpa using hne
          have HNE := Aside0.mk hne
          clear hne
          go_wp2_with (fail)
          go_roundw
          case rel => exact ⟨j + 1, by omega, by go_num, ⟨by rw [HTN.out, if_neg HNE.out]; exact Kd.R_below HOr.out HB8.out⟩, ⟨below_step HBr.out HB8.out⟩⟩
          case measure => simp [intOf]; omega
      · obtain rfl : j = s.ws.length := by omega
        rw [List.take_length] at HOr ⊢
        clear hlt hj
        have q4 : wr.cell? ⟨g, 4, none⟩ = some (.slice A4 s.ws.length c4) := (blk_cell (blk_below HX4.out HBr.out) 4).trans rfl
        have z4 := blk_frozen (blk_below HX4.out HBr.out) 4
        go_wp2_with (fail)
        go_ret
        have HLX := Aside0.mk (show relab w4.heap.size (relab w2.heap.size lab 2) 4 g = 5 by unfold relab; rw [if_pos (blk_lt HX4.out)]; exact HLB3.out)
        have HN4 := Aside0.mk (Kd.R_lower (Kd.R_mono (Kd.R_bound HOr.out) (ok' := fun k => ((O k ∨ w2.heap.size ≤ k) ∧ relab w2.heap.size lab 2 k = 4) ∨ w4.heap.size ≤ k) (fun k hk => .inr hk.2.1)) (below_size HB4.out))
        refine ⟨by rw [HE.out]; rfl, ?_, (below_then HB4.out (below_size HB4.out) HBr.out).setCell (p := ⟨g, 4, none⟩) HG.out _, (HK4.out.below HBr.out).setCell (p := ⟨g, 4, none⟩) (.inl HO.out) _⟩
        unfold St.synced
        rw [if_pos HE.out]
        refine DX.mono (O := fun k => (O k ∨ w2.heap.size ≤ k) ∨ w4.heap.size ≤ k) (DX.of (lab := relab w4.heap.size (relab w2.heap.size lab 2) 4) (blk_put (blk_below HX4.out HBr.out) 4 _ rfl) HG.out (.inl (.inl HO.out)) HLX.out ((HR4.out.up4 (Kept.of_below HBr.out _) HN4.out).set HLX.out 4 _) rfl (congrArg bytesOf (seenB_others_ne (by decide) s.ws s.l0)) rfl (congrArg bytesOf (seenB_others_self 1 s.ws s.s1))) ?_
        rintro k ((hk | hk) | hk)
        · exact .inl hk
        · exact .inr (Nat.le_trans HSZ.out hk)
        · exact .inr (Nat.le_trans HSZ.out (Nat.le_trans HS4.out hk))
  · have HE := Aside0.mk e0
    rw [e0]
    clear e0
    go_upto_region 5 with (fail)
    go_wp2_with (fail)
    go_ret
    refine ⟨by rw [HE.out]; rfl, DX.mono ?_ (fun k hk => .inl hk), HB2.out, HKw.out⟩
    unfold St.synced
    rw [if_neg (by rw [HE.out]; decide)]
    exact ⟨lab, _, _, _, _, _, HX2.out, HG.out, HO.out, HLB.out, HR2.out⟩
end Go.Proofs.Ythaoaaboempajaa.Disk
namespace Go.Proofs.Ythaoaaboempajaa.Disk
open Go.RowKit Go.Proofs.YthaoaaboempajaaW.PrintWords Go.Proofs.YthaoaaboempajaaW.PrintLast Go.Proofs.YthaoaaboempajaaW.PrintMore Go.Proofs.YthaoaaboempajaaX Go.Proofs.Ythaoaaboempajaa.QDiskRuns
set_option linter.unusedVariables false
set_option linter.unusedSimpArgs false
theorem at_I {w : World} {A : Option Addr} {n : Nat} {xs : List Int} (h : (Kd.int .i64).C w A n xs) (i : Nat) (h1 : i < n) : ∃ ad, A = some ad ∧ w.cell? (ad.add i) = some (.int .i64 (xs.getD i 0)) := by
  obtain ⟨ad, c, e, _, hK, hc0⟩ := Kd.C_get h 0 (i : Int) (by omega) (by omega)
  rw [Int.toNat_natCast] at hK hc0
  obtain rfl : c = [.int .i64 (xs.getD i 0)] := hK
  exact ⟨ad, e, by have := hc0 0 _ rfl; rwa [show (Kd.int .i64).sz = 1 from rfl, Nat.mul_one, Nat.add_zero] at this⟩
theorem how_keep {keep : List Int} {j : Nat} (h : 0 < keep.length) : howOf keep j = keep.getD (j % keep.length) 0 := by unfold howOf; rw [if_neg (by omega)]
theorem how_none {keep : List Int} {j : Nat} (h : keep.length = 0) : howOf keep j = 0 := by unfold howOf; rw [if_pos h]
theorem crashB_step (f : Int) (keep : List Int) {ws : List Chg} {j : Nat} (h : j < ws.length) (l : ByteArray) : crashB f keep 0 (ws.take (j + 1)) l = kept1 (howOf keep j) (chgAt ws j) f (crashB f keep 0 (ws.take j) l) := by
  rw [take_succ_chg h, crashB_snoc]
  congr 2
  rw [List.length_take]
  omega
def keptAs (h : Int) (c : Chg) : Chg := if h = 2 then halved c else c
theorem kept1_ne {h : Int} {c : Chg} {f : Int} {s : ByteArray} (hne : c.file ≠ f) : kept1 h c f s = s := if_neg (fun h => hne h.1)
theorem kept1_no {h : Int} {c : Chg} {f : Int} {s : ByteArray} (hne : ¬ (h = 1 ∨ h = 2)) : kept1 h c f s = s := if_neg (fun h => hne h.2)
theorem kept1_eq {h : Int} {c : Chg} {f : Int} {s : ByteArray} (he : c.file = f) (hy : h = 1 ∨ h = 2) : kept1 h c f s = onB (keptAs h c) s := if_pos ⟨he, hy⟩
theorem keptAs_le (h : Int) (c : Chg) : (keptAs h c).at_ = c.at_ ∧ (keptAs h c).text.size ≤ c.text.size ∧ (keptAs h c).file = c.file := by
  unfold keptAs
  split
  · exact halved_le c
  · exact ⟨rfl, Nat.le_refl _, rfl⟩
def chgCells (c : Chg) : Array Value := #[.int .i64 c.file, .int .i64 (c.at_ : Int), .string c.text, .bool c.cut]
set_option maxHeartbeats 8000000 in
set_option maxRecDepth 100000 in
theorem crash.calls (g : Nat) (O : Nat → Prop) (s : St) (m : Nat) (Ak : Option Addr) (ck : Nat) (keep : List Int) (w0 w : World) (hB : Below w0.heap.size w0 w) (hD : DD w w0.heap.size g O s) (hok : s.ok m) (hm : m ≤ 1000000000)
    (hk : ∀ W', Kept w W' O → (Kd.int .i64).C W' Ak keep.length keep) (hkl : keep.length ≤ 9223372036854775807) :
    Calls Try.prog 73 #[.pointer (some ⟨g, 0, none⟩), .slice Ak keep.length ck] w fun e w' => e = .returned (.tuple #[]) ∧
      DD w' w0.heap.size g (fun k => O k ∨ w.heap.size ≤ k) (s.crashed keep) ∧ Below w0.heap.size w0 w' ∧ Kept w w' O := by
  obtain ⟨lab, x0, x1, x2, x3, x4, hb, hg, hO, hlb, hr⟩ := hD
  have hcs := hok.c
  have hns := hok.n
  have HW := Aside0.mk (show s.ws.length ≤ 1000000000 by omega)
  have HWS := Aside0.mk hok.ws
  have HL0 := Aside0.mk hok.l0
  have HL1 := Aside0.mk hok.l1
  have HB := Aside0.mk hB
  have HG := Aside0.mk hg
  have HO := Aside0.mk hO
  have HLB := Aside0.mk hlb
  have HR := Aside0.mk hr
  have HX := Aside0.mk hb
  have HKP := Aside0.mk hk
  have HKL := Aside0.mk hkl
  clear hB hb hg hO hlb hr hok hm hcs hns hk hkl
  obtain ⟨A4, c4, e4⟩ := Kd.R_slice HR.out.r4
  subst e4
  go_enter Try.func73, Try.ntmps73
  have q4 : w.cell? ⟨g, 4, none⟩ = some (.slice A4 s.ws.length c4) := (blk_cell HX.out 4).trans rfl
  go_wp2_with (fail)
  clear q4
  go_loopw [15] (fun v15 wr => ∃ (j : Nat), j ≤ s.ws.length ∧ v15 = .int .i64 (j : Int) ∧ Aside0 (∃ lb y0 y2, wr.heap[g]? = some (.cells (dcells y0 x1 y2 x3 (.slice A4 s.ws.length c4) s.f s.d s.c) 146 (0, 0)) ∧ lb g = 5 ∧ Rws wr w0.heap.size (fun k => O k ∨ w.heap.size ≤ k) lb y0 x1 y2 x3 (.slice A4 s.ws.length c4) (bytesOf (crashB 0 keep 0 (s.ws.take j) s.l0)) (bytesOf s.s0) (bytesOf (crashB 1 keep 0 (s.ws.take j) s.l1)) (bytesOf s.s1) s.ws) ∧ Aside0 (Below w0.heap.size w0 wr) ∧ Aside0 (Kept w wr O)) (fun v15 _ => s.ws.length - (intOf v15).toNat)
  case atStart => exact ⟨0, Nat.zero_le _, rfl, ⟨lab, x0, x2, HX.out, HLB.out, HR.out.mono (fun k hk => .inl hk)⟩, HB, ⟨Kept.refl _ _⟩⟩
  case round =>
    clear HB HLB HR HX
    obtain ⟨j, hj, rfl, HDr, HBr, HKr⟩ := hrel
    obtain ⟨lb, y0, y2, hx, hlb, hr⟩ := HDr.out
    have HXr := Aside0.mk hx
    have HLr := Aside0.mk hlb
    have HRr := Aside0.mk hr
    clear HDr hx hlb hr
    obtain ⟨A0, c0, e0⟩ := Kd.R_slice HRr.out.r0
    subst e0
    obtain ⟨A2, c2, e2⟩ := Kd.R_slice HRr.out.r2
    subst e2
    have hm := HW.out
    by_cases hlt : j < s.ws.length
    · have t_ : decide ((j : Int) < (s.ws.length : Int)) = true := decide_eq_true (by omega)
      obtain ⟨ad, hA, f0, f1, f2, f3⟩ := at_C (Kd.R_reads' HRr.out.r4).2.2 j hlt
      subst hA
      have HC0 := Aside0.mk (crashB_step 0 keep hlt s.l0)
      have HC1 := Aside0.mk (crashB_step 1 keep hlt s.l1)
      have HCH := Aside0.mk (HWS.out (chgAt s.ws j) (by unfold chgAt; rw [List.getD_eq_getElem?_getD, List.getElem?_eq_getElem hlt, Option.getD_some]; exact List.getElem_mem hlt))
      have HS0 := Aside0.mk (size_crashB 0 keep (s.ws.take j) 0 s.l0 HL0.out (fun c hc => (HWS.out c (List.mem_of_mem_take hc)).2))
      have HS1 := Aside0.mk (size_crashB 1 keep (s.ws.take j) 0 s.l1 HL1.out (fun c hc => (HWS.out c (List.mem_of_mem_take hc)).2))
      generalize chgAt s.ws j = ch at f0 f1 f2 f3 HC0 HC1 HCH
      generalize crashB 0 keep 0 (s.ws.take j) s.l0 = m0 at HRr HXr HC0 HS0
      generalize crashB 1 keep 0 (s.ws.take j) s.l1 = m1 at HRr HXr HC1 HS1
      go_upto_region 3 with ((with_reducible refine gate_dst (N := 5) rfl ?_); refine box_event ?hg (N := 5) ?hd (cs := #[.int .i64 0, .int .i64 0, .string ⟨#[]⟩, .bool false]) (t := 172) ?hr ?_; (case hd => rfl); (case hg => rfl); (case hr => first | (go_simp; done) | (go_simp; rfl)); intro gb hgb w7 hbox hb; have HXb := Aside0.mk hbox; have HBb := Aside0.mk hb; have HGb := Aside0.mk hgb; have b0 : w7.cell? ⟨gb, 0, none⟩ = some (.int .i64 0) := (blk_cell hbox 0).trans rfl; have b1 : w7.cell? ⟨gb, 1, none⟩ = some (.int .i64 0) := (blk_cell hbox 1).trans rfl; have b2 : w7.cell? ⟨gb, 2, none⟩ = some (.string ⟨#[]⟩) := (blk_cell hbox 2).trans rfl; have b3 : w7.cell? ⟨gb, 3, none⟩ = some (.bool false) := (blk_cell hbox 3).trans rfl; have y0 := blk_frozen hbox 0; have y1 := blk_frozen hbox 1; have y2 := blk_frozen hbox 2; have y3 := blk_frozen hbox 3; clear hgb hbox hb)
      have hput : (((w7.setCell ⟨gb, 0, none⟩ (.int .i64 ch.file)).setCell ⟨gb, 1, none⟩ (.int .i64 (ch.at_ : Int))).setCell ⟨gb, 2, none⟩ (.string ch.text)).setCell ⟨gb, 3, none⟩ (.bool ch.cut) = put4 w7 gb (.int .i64 ch.file) (.int .i64 (ch.at_ : Int)) (.string ch.text) (.bool ch.cut) := rfl
      rw [hput]
      clear hput
      have HX8 := Aside0.mk (put4_blk (a := .int .i64 ch.file) (b := .int .i64 (ch.at_ : Int)) (c := .string ch.text) (d := .bool ch.cut) HXb.out)
      have HB8 := Aside0.mk (HBb.out.setCell (p := ⟨gb, 0, none⟩) (by rw [HGb.out]; exact Nat.le_refl _) (.int .i64 ch.file) |>.setCell (p := ⟨gb, 1, none⟩) (by rw [HGb.out]; exact Nat.le_refl _) (.int .i64 (ch.at_ : Int)) |>.setCell (p := ⟨gb, 2, none⟩) (by rw [HGb.out]; exact Nat.le_refl _) (.string ch.text) |>.setCell (p := ⟨gb, 3, none⟩) (by rw [HGb.out]; exact Nat.le_refl _) (.bool ch.cut))
      change Aside0 (Below wr.heap.size wr (put4 w7 gb (.int .i64 ch.file) (.int .i64 (ch.at_ : Int)) (.string ch.text) (.bool ch.cut))) at HB8
      clear b0 b1 b2 b3 y0 y1 y2 y3 f0 f1 f2 f3 HXb HBb
      generalize put4 w7 gb (.int .i64 ch.file) (.int .i64 (ch.at_ : Int)) (.string ch.text) (.bool ch.cut) = w8 at HX8 HB8 ⊢
      have q0 : w8.cell? ⟨gb, 0, none⟩ = some (.int .i64 ch.file) := (blk_cell HX8.out 0).trans rfl
      have q1 : w8.cell? ⟨gb, 1, none⟩ = some (.int .i64 (ch.at_ : Int)) := (blk_cell HX8.out 1).trans rfl
      have q2 : w8.cell? ⟨gb, 2, none⟩ = some (.string ch.text) := (blk_cell HX8.out 2).trans rfl
      have q3 : w8.cell? ⟨gb, 3, none⟩ = some (.bool ch.cut) := (blk_cell HX8.out 3).trans rfl
      have HKb := Aside0.mk (HKr.out.below HB8.out)
      have HKC := Aside0.mk (HKP.out _ HKb.out)
      have HHW := Aside0.mk (show ∃ h, h = howOf keep j from ⟨_, rfl⟩)
      clear q0 q1 q2 q3
      go_upto_if 22 with (fail)
      go_cut [6] from 22 to 29 (fun v6 wx => v6 = .int .i64 (howOf keep j) ∧ w8 = wx)
      case first =>
        by_cases hk0 : keep.length = 0
        · have e_ : howOf keep j = 0 := how_none hk0
          have HEE := Aside0.mk e_
          have g_ : decide ((keep.length : Int) > 0) = false := decide_eq_false (by omega)
          have g2_ : ¬ 0 < keep.length := by omega
          have g3_ : decide (0 < keep.length) = false := decide_eq_false g2_
          have g4_ : ¬ (0 : Int) < (keep.length : Int) := by omega
          clear hk0 e_
          go_wp2_with (fail)
          go_meet
          case rel => exact ⟨by rw [HEE.out], rfl⟩
        · have e_ : howOf keep j = keep.getD (j % keep.length) 0 := how_keep (by omega)
          have HEE := Aside0.mk e_
          have g_ : decide ((keep.length : Int) > 0) = true := decide_eq_true (by omega)
          have g2_ : 0 < keep.length := by omega
          have g3_ : decide (0 < keep.length) = true := decide_eq_true g2_
          have hlt2 : j % keep.length < keep.length := Nat.mod_lt _ (by omega)
          obtain ⟨adk, hAk, fk⟩ := at_I HKC.out (j % keep.length) hlt2
          subst hAk
          have m_ : Int.tmod (j : Int) (keep.length : Int) = ((j % keep.length : Nat) : Int) := (Int.ofNat_tmod j keep.length).symm
          have hkl := HKL.out
          have m0_ : ¬ ((keep.length : Int) = 0) := by omega
          have m1_ : ((keep.length : Int) == 0) = false := by simpa using m0_
          have m2_ : IntKind.i64.wrap ((j % keep.length : Nat) : Int) = ((j % keep.length : Nat) : Int) := IntWalk.i64_in _ (by omega)
          generalize j % keep.length = jk at *
          generalize keep.getD jk 0 = kv at fk HEE
          clear hk0 e_
          go_wp2_with (fail)
          go_meet
          case rel => exact ⟨by rw [HEE.out], rfl⟩
      case rest =>
        obtain ⟨rfl, hw⟩ := hcut
        subst hw
        clear HHW HKC
        have HRn := Aside0.mk (HRr.out.narrow.below HB8.out)
        have HXn := Aside0.mk (blk_below HXr.out HB8.out)
        have HNEg := Aside0.mk (show gb ≠ g by rw [HGb.out]; exact Nat.ne_of_gt (blk_lt HXr.out))
        have HGw := Aside0.mk (show w0.heap.size ≤ gb by rw [HGb.out]; exact HBr.out.size)
        have HGk := Aside0.mk (show w.heap.size ≤ gb by rw [HGb.out]; exact HKr.out.1)
        have HBn := Aside0.mk (below_step HBr.out HB8.out)
        have HNB := Aside0.mk (show ∀ k, ((O k ∨ w.heap.size ≤ k) ∧ k < wr.heap.size) → k ≠ gb from fun k hk he => by have h1 := hk.2; rw [he, HGb.out] at h1; exact Nat.lt_irrefl _ h1)
        clear HB8 HRr HXr HBr HKr
        generalize howOf keep j = h at HC0 HC1 ⊢
        have q3 : w8.cell? ⟨gb, 3, none⟩ = some (.bool ch.cut) := (blk_cell HX8.out 3).trans rfl
        go_upto_region 6 with (fail)
        go_cut [36] from 30 to 36 (fun v36 wx => v36 = .bool (decide (h = 2 ∧ ch.cut = false)) ∧ w8 = wx)
        case first =>
          by_cases h2 : h = 2
          · subst h2
            by_cases hcc : ch.cut = false
            · rw [hcc] at q3
              have HCC := Aside0.mk hcc
              clear hcc
              go_wp2_with (fail)
              go_meet
              case rel => exact ⟨by have hq := HCC.out; simp [hq], rfl⟩
            · have hcc' : ch.cut = true := by simpa using hcc
              rw [hcc'] at q3
              have HCC := Aside0.mk hcc
              clear hcc'
              clear hcc
              go_wp2_with (fail)
              go_meet
              case rel => exact ⟨by rw [decide_eq_false (fun hh => HCC.out hh.2)], rfl⟩
          · have e2 : (h == 2) = false := beq_false h2
            have HN2 := Aside0.mk h2
            clear h2
            go_wp2_with (fail)
            go_meet
            case rel => exact ⟨by rw [decide_eq_false (fun hh => HN2.out hh.1)], rfl⟩
        case rest =>
        obtain ⟨rfl, hw⟩ := hcut
        subst hw
        clear q3
        go_upto_if 36 with (fail)
        go_cut [] from 36 to 44 (fun wx => Aside0 (wx.heap[gb]? = some (.cells (chgCells (keptAs h ch)) 172 (0, 0))) ∧ Aside0 (Kept w8 wx (fun k => k = gb)) ∧ Aside0 (Below w0.heap.size w0 wx) ∧ Aside0 (Kept w wx O))
        case first =>
          have q2 : w8.cell? ⟨gb, 2, none⟩ = some (.string ch.text) := (blk_cell HX8.out 2).trans rfl
          have z2 := blk_frozen HX8.out 2
          by_cases h2 : h = 2 ∧ ch.cut = false
          · have HH2 := Aside0.mk h2
            have g_ : decide (h = 2 ∧ ch.cut = false) = true := decide_eq_true h2
            rw [g_]
            clear g_ h2
            have s_ : ch.text.size ≤ 67108864 := by have := HCH.out.2; unfold maxFile at this; omega
            have d_ : Int.tdiv (ch.text.size : Int) 2 = ((ch.text.size / 2 : Nat) : Int) := rfl
            have w_ : IntKind.i64.wrap ((ch.text.size / 2 : Nat) : Int) = ((ch.text.size / 2 : Nat) : Int) := IntWalk.i64_in _ (by omega)
            have l_ : ch.text.size / 2 ≤ ch.text.size := by omega
            go_wp2_with (fail)
            go_meet
            case rel => exact ⟨⟨by
              have hp := blk_put HX8.out 2 (.string (ch.text.extract 0 (ch.text.size / 2))) rfl
              have hk2 : keptAs h ch = { ch with text := ch.text.extract 0 (ch.text.size / 2) } := by
                unfold keptAs halved
                rw [if_pos HH2.out.1, if_neg (by rw [HH2.out.2]; decide)]
              rw [hk2]
              exact hp⟩, ⟨set_kept⟩, ⟨HBn.out.setCell (p := ⟨gb, 2, none⟩) HGw.out _⟩, ⟨HKb.out.setCell (p := ⟨gb, 2, none⟩) (.inr HGk.out) _⟩⟩
          · have HH2 := Aside0.mk h2
            have g_ : decide (h = 2 ∧ ch.cut = false) = false := decide_eq_false h2
            rw [g_]
            clear g_ h2
            go_wp2_with (fail)
            go_meet
            case rel => exact ⟨⟨by
              have hk2 : keptAs h ch = ch := by
                unfold keptAs halved
                split
                · rename_i h3
                  rw [if_pos]
                  cases hc : ch.cut
                  · exact absurd ⟨h3, hc⟩ HH2.out
                  · rfl
                · rfl
              rw [hk2]
              exact HX8.out⟩, ⟨Kept.refl _ _⟩, HBn, HKb⟩
        case rest =>
        obtain ⟨HXb, HK9, HB9, HKw9⟩ := hcut
        have HR9 := Aside0.mk (show Rws wc w0.heap.size (fun k => (O k ∨ w.heap.size ≤ k) ∧ k < wr.heap.size) lb _ x1 _ x3 _ (bytesOf m0) _ (bytesOf m1) _ s.ws from HRn.out.apart HK9.out HNB.out)
        have HX9 := Aside0.mk (blk_kept HXn.out HK9.out (fun he => HNEg.out he.symm))
        have HS9 := Aside0.mk (show w.heap.size ≤ wc.heap.size from HKw9.out.1)
        clear HX8 HK9 HRn HXn HBn HKb
        go_upto_region 8 with (fail)
        go_cut [50] from 45 to 50 (fun v50 wx => v50 = .bool (decide (h = 1 ∨ h = 2)) ∧ wc = wx)
        case first =>
          by_cases h1 : h = 1
          · subst h1
            go_wp2_with (fail)
            go_meet
            case rel => exact ⟨by simp, rfl⟩
          · by_cases h2 : h = 2
            · subst h2
              go_wp2_with (fail)
              go_meet
              case rel => exact ⟨by simp, rfl⟩
            · have e1 : (h == 1) = false := beq_false h1
              have e2 : (h == 2) = false := beq_false h2
              have HN := Aside0.mk (show ¬ (h = 1 ∨ h = 2) from fun hh => hh.elim h1 h2)
              clear h1 h2
              go_wp2_with (fail)
              go_meet
              case rel => exact ⟨by rw [decide_eq_false HN.out], rfl⟩
        case rest =>
        obtain ⟨rfl, hw⟩ := hcut
        subst hw
        go_upto_if 50 with (fail)
        by_cases hy : h = 1 ∨ h = 2
        · rw [decide_eq_true hy]
          have HY := Aside0.mk hy
          clear hy
          have HLE := Aside0.mk (keptAs_le h ch)
          obtain ⟨c2_, hc2⟩ : ∃ c2_, c2_ = keptAs h ch := ⟨_, rfl⟩
          rw [← hc2] at HXb HLE
          have HC2 := Aside0.mk hc2
          clear hc2
          obtain ⟨f2, a2, t2, u2⟩ := c2_
          have HAT := Aside0.mk (show a2 + t2.size ≤ 67108864 by have h1 := HLE.out; have h2 := HCH.out.2; unfold maxFile at h2; dsimp only at h1; omega)
          have HFF := Aside0.mk (show f2 = ch.file from HLE.out.2.2)
          have HSm0 := Aside0.mk (show m0.size ≤ 67108864 from HS0.out)
          have HSm1 := Aside0.mk (show m1.size ≤ 67108864 from HS1.out)
          clear HLE
          rcases HCH.out.1 with hf | hf
          · have HCF := Aside0.mk hf
            obtain rfl : f2 = 0 := HFF.out.trans hf
            clear hf
            have q0 : wc.cell? ⟨gb, 0, none⟩ = some (.int .i64 0) := (blk_cell HXb.out 0).trans rfl
            have q1 : wc.cell? ⟨gb, 1, none⟩ = some (.int .i64 (a2 : Int)) := (blk_cell HXb.out 1).trans rfl
            have q2 : wc.cell? ⟨gb, 2, none⟩ = some (.string t2) := (blk_cell HXb.out 2).trans rfl
            have q3 : wc.cell? ⟨gb, 3, none⟩ = some (.bool u2) := (blk_cell HXb.out 3).trans rfl
            go_upto_region 9 with (fail)
            go_quiet (fail)
            go_upto_region 10 with (fail)
            clear q0 q1 q2 q3
            have HXc := Aside0.mk (blk_drewN HXb.out nq)
            have HX5 := Aside0.mk (blk_drewN HX9.out nq)
            have HR5 := Aside0.mk (HR9.out.below (pw_below_drewN (Below.refl _ wc) nq))
            have HB5 := Aside0.mk (pw_below_drewN HB9.out nq)
            have HK5 := Aside0.mk (Kept.drewN HKw9.out nq)
            have HS5 := Aside0.mk (show w.heap.size ≤ (wc.drewN nq).heap.size from HS9.out)
            clear HXb HX9 HR9 HB9 HKw9 HS9
            generalize wc.drewN nq = w5 at HXc HX5 HR5 HB5 HK5 HS5 ⊢
            have q0 : w5.cell? ⟨gb, 0, none⟩ = some (.int .i64 0) := (blk_cell HXc.out 0).trans rfl
            have q1 : w5.cell? ⟨gb, 1, none⟩ = some (.int .i64 (a2 : Int)) := (blk_cell HXc.out 1).trans rfl
            have q2 : w5.cell? ⟨gb, 2, none⟩ = some (.string t2) := (blk_cell HXc.out 2).trans rfl
            have q3 : w5.cell? ⟨gb, 3, none⟩ = some (.bool u2) := (blk_cell HXc.out 3).trans rfl
            have q4 : w5.cell? ⟨g, 0, none⟩ = some (.slice A0 (bytesOf m0).length c0) := (blk_cell HX5.out 0).trans rfl
            go_region_law (first
              | (refine goes_ Try.func150 (by kernel_rfl) rfl #[chgV ⟨0, a2, t2, u2⟩, .slice A0 (bytesOf m0).length c0] (by rfl) rfl rfl (by (try simp only [List.map_toArray, List.map_cons, List.map_nil]); first | done | rfl) ?_; refine (done.calls _ _ _ ⟨0, a2, t2, u2⟩ w0 _ (below_drew1 HB5.out) (Kd.R_drew HR5.out.r0) (Nat.le_trans HAT.out (by decide)) (by rw [bytesOf_length]; exact Nat.le_trans HSm0.out (by decide))).mono ?_; rintro e w6 ⟨v6, rfl, ho, hb, hk⟩; obtain ⟨A6, c6, e6⟩ := Kd.R_slice ho; subst e6; refine ⟨_, rfl, ?_⟩; have HO9 := Aside0.mk ho; have HB6 := Aside0.mk hb; have HK6 := Aside0.mk hk; have HXA := Aside0.mk (blk_kept (blk_drew HX5.out) hk (fun he => absurd (HLr.out.symm.trans he.2) (by decide))); have z6 := blk_frozen HXA.out 0; have c6_ : w6.cell? ⟨g, 0, none⟩ = some (.slice A0 (bytesOf m0).length c0) := (blk_cell HXA.out 0).trans rfl; clear ho hb hk))
            all_goals
              clear q0 q1 q2 q3 q4
              go_wp2_with (fail)
              have HL9 := Aside0.mk (show relab w5.drew.heap.size lb 0 g = 5 by unfold relab; rw [if_pos (blk_lt (blk_drew HX5.out))]; exact HLr.out)
              have HRF := Aside0.mk ((((HR5.out.below (below_drew (Below.refl _ w5))).up0 HK6.out HO9.out).set HL9.out 0 (.slice A6 (doneL (bytesOf m0) a2 t2 u2).length c6)).mono (O' := fun k => O k ∨ w.heap.size ≤ k) (fun k hk => hk.elim (fun h1 => h1.1) (fun h1 => .inr (Nat.le_trans HS5.out h1))))
              have HXF := Aside0.mk (blk_put HXA.out 0 (.slice A6 (doneL (bytesOf m0) a2 t2 u2).length c6) rfl)
              have HBF := Aside0.mk (HB6.out.setCell (p := ⟨g, 0, none⟩) HG.out (.slice A6 (doneL (bytesOf m0) a2 t2 u2).length c6))
              have HKF := Aside0.mk (((Kept.drew HK5.out).then_ HK6.out (fun k hk => hk.1.1)).setCell (p := ⟨g, 0, none⟩) (.inl HO.out) (.slice A6 (doneL (bytesOf m0) a2 t2 u2).length c6))
              go_roundw
              case rel =>
                refine ⟨j + 1, by omega, by go_num, ⟨?_⟩, HBF, HKF⟩
                rw [HC0.out, HC1.out, kept1_eq HCF.out HY.out, kept1_ne (f := 1) (by rw [HCF.out]; decide), ← HC2.out, bytesOf_onB]
                exact ⟨_, _, _, HXF.out, HL9.out, HRF.out⟩
              case measure => simp [intOf]; omega
          · have HCF := Aside0.mk hf
            obtain rfl : f2 = 1 := HFF.out.trans hf
            clear hf
            have q0 : wc.cell? ⟨gb, 0, none⟩ = some (.int .i64 1) := (blk_cell HXb.out 0).trans rfl
            have q1 : wc.cell? ⟨gb, 1, none⟩ = some (.int .i64 (a2 : Int)) := (blk_cell HXb.out 1).trans rfl
            have q2 : wc.cell? ⟨gb, 2, none⟩ = some (.string t2) := (blk_cell HXb.out 2).trans rfl
            have q3 : wc.cell? ⟨gb, 3, none⟩ = some (.bool u2) := (blk_cell HXb.out 3).trans rfl
            go_upto_region 9 with (fail)
            go_quiet (fail)
            go_upto_region 10 with (fail)
            clear q0 q1 q2 q3
            have HXc := Aside0.mk (blk_drewN HXb.out nq)
            have HX5 := Aside0.mk (blk_drewN HX9.out nq)
            have HR5 := Aside0.mk (HR9.out.below (pw_below_drewN (Below.refl _ wc) nq))
            have HB5 := Aside0.mk (pw_below_drewN HB9.out nq)
            have HK5 := Aside0.mk (Kept.drewN HKw9.out nq)
            have HS5 := Aside0.mk (show w.heap.size ≤ (wc.drewN nq).heap.size from HS9.out)
            clear HXb HX9 HR9 HB9 HKw9 HS9
            generalize wc.drewN nq = w5 at HXc HX5 HR5 HB5 HK5 HS5 ⊢
            have q0 : w5.cell? ⟨gb, 0, none⟩ = some (.int .i64 1) := (blk_cell HXc.out 0).trans rfl
            have q1 : w5.cell? ⟨gb, 1, none⟩ = some (.int .i64 (a2 : Int)) := (blk_cell HXc.out 1).trans rfl
            have q2 : w5.cell? ⟨gb, 2, none⟩ = some (.string t2) := (blk_cell HXc.out 2).trans rfl
            have q3 : w5.cell? ⟨gb, 3, none⟩ = some (.bool u2) := (blk_cell HXc.out 3).trans rfl
            have q4 : w5.cell? ⟨g, 2, none⟩ = some (.slice A2 (bytesOf m1).length c2) := (blk_cell HX5.out 2).trans rfl
            go_region_law (first
              | (refine goes_ Try.func150 (by kernel_rfl) rfl #[chgV ⟨1, a2, t2, u2⟩, .slice A2 (bytesOf m1).length c2] (by rfl) rfl rfl (by (try simp only [List.map_toArray, List.map_cons, List.map_nil]); first | done | rfl) ?_; refine (done.calls _ _ _ ⟨1, a2, t2, u2⟩ w0 _ (below_drew1 HB5.out) (Kd.R_drew HR5.out.r2) (Nat.le_trans HAT.out (by decide)) (by rw [bytesOf_length]; exact Nat.le_trans HSm1.out (by decide))).mono ?_; rintro e w6 ⟨v6, rfl, ho, hb, hk⟩; obtain ⟨A6, c6, e6⟩ := Kd.R_slice ho; subst e6; refine ⟨_, rfl, ?_⟩; have HO9 := Aside0.mk ho; have HB6 := Aside0.mk hb; have HK6 := Aside0.mk hk; have HXA := Aside0.mk (blk_kept (blk_drew HX5.out) hk (fun he => absurd (HLr.out.symm.trans he.2) (by decide))); have z6 := blk_frozen HXA.out 2; have c6_ : w6.cell? ⟨g, 2, none⟩ = some (.slice A2 (bytesOf m1).length c2) := (blk_cell HXA.out 2).trans rfl; clear ho hb hk))
            all_goals
              clear q0 q1 q2 q3 q4
              go_wp2_with (fail)
              have HL9 := Aside0.mk (show relab w5.drew.heap.size lb 2 g = 5 by unfold relab; rw [if_pos (blk_lt (blk_drew HX5.out))]; exact HLr.out)
              have HRF := Aside0.mk ((((HR5.out.below (below_drew (Below.refl _ w5))).up2 HK6.out HO9.out).set HL9.out 2 (.slice A6 (doneL (bytesOf m1) a2 t2 u2).length c6)).mono (O' := fun k => O k ∨ w.heap.size ≤ k) (fun k hk => hk.elim (fun h1 => h1.1) (fun h1 => .inr (Nat.le_trans HS5.out h1))))
              have HXF := Aside0.mk (blk_put HXA.out 2 (.slice A6 (doneL (bytesOf m1) a2 t2 u2).length c6) rfl)
              have HBF := Aside0.mk (HB6.out.setCell (p := ⟨g, 2, none⟩) HG.out (.slice A6 (doneL (bytesOf m1) a2 t2 u2).length c6))
              have HKF := Aside0.mk (((Kept.drew HK5.out).then_ HK6.out (fun k hk => hk.1.1)).setCell (p := ⟨g, 2, none⟩) (.inl HO.out) (.slice A6 (doneL (bytesOf m1) a2 t2 u2).length c6))
              go_roundw
              case rel =>
                refine ⟨j + 1, by omega, by go_num, ⟨?_⟩, HBF, HKF⟩
                rw [HC0.out, HC1.out, kept1_ne (f := 0) (by rw [HCF.out]; decide), kept1_eq HCF.out HY.out, ← HC2.out, bytesOf_onB]
                exact ⟨_, _, _, HXF.out, HL9.out, HRF.out⟩
              case measure => simp [intOf]; omega
        · rw [decide_eq_false hy]
          have HY := Aside0.mk hy
          clear hy
          go_wp2_with (fail)
          go_roundw
          case rel => exact ⟨j + 1, by omega, by go_num, ⟨by rw [HC0.out, HC1.out, kept1_no HY.out, kept1_no HY.out]; exact ⟨_, _, _, HX9.out, HLr.out, HR9.out.mono (fun k hk => hk.1)⟩⟩, HB9, HKw9⟩
          case measure => simp [intOf]; omega
    · obtain rfl : j = s.ws.length := by omega
      rw [List.take_length] at HRr
      rw [List.take_length] at HXr
      clear hlt hj
      have HS0 := Aside0.mk (size_crashB 0 keep s.ws 0 s.l0 HL0.out (fun c hc => (HWS.out c hc).2))
      have HS1 := Aside0.mk (size_crashB 1 keep s.ws 0 s.l1 HL1.out (fun c hc => (HWS.out c hc).2))
      have HM0 := Aside0.mk (show ∃ m0, m0 = crashB 0 keep 0 s.ws s.l0 from ⟨_, rfl⟩)
      have HM1 := Aside0.mk (show ∃ m1, m1 = crashB 1 keep 0 s.ws s.l1 from ⟨_, rfl⟩)
      obtain ⟨m0, hm0⟩ := HM0.out
      obtain ⟨m1, hm1⟩ := HM1.out
      rw [← hm0] at HRr HXr HS0
      rw [← hm1] at HRr HXr HS1
      replace HM0 := Aside0.mk hm0
      replace HM1 := Aside0.mk hm1
      clear hm0 hm1
      go_wp2_with (fail)
      have HBS := Aside0.mk (show w.heap.size ≤ wr.heap.size from HKr.out.1)
      go_loopw [67] (fun v67 ws2 => ∃ (i : Nat), i ≤ 2 ∧ v67 = .int .i64 (i : Int) ∧ Aside0 (∃ lb z1 z3, ws2.heap[g]? = some (.cells (dcells (.slice A0 (bytesOf m0).length c0) z1 (.slice A2 (bytesOf m1).length c2) z3 (.slice A4 s.ws.length c4) s.f s.d s.c) 146 (0, 0)) ∧ lb g = 5 ∧ Rws ws2 w0.heap.size (fun k => O k ∨ w.heap.size ≤ k) lb (.slice A0 (bytesOf m0).length c0) z1 (.slice A2 (bytesOf m1).length c2) z3 (.slice A4 s.ws.length c4) (bytesOf m0) (bytesOf (if 1 ≤ i then m0 else s.s0)) (bytesOf m1) (bytesOf (if 2 ≤ i then m1 else s.s1)) s.ws) ∧ Aside0 (Below w0.heap.size w0 ws2) ∧ Aside0 (Kept w ws2 O)) (fun v67 _ => 2 - (intOf v67).toNat)
      case atStart => exact ⟨0, Nat.zero_le _, rfl, ⟨lb, x1, x3, HXr.out, HLr.out, HRr.out⟩, HBr, HKr⟩
      case round =>
        clear HBr HKr HXr HLr HRr HBS
        obtain ⟨i, hi, rfl, HD2, HB2, HK2⟩ := hrel
        obtain ⟨lb2, z1, z3, hx, hlb, hr⟩ := HD2.out
        have HX2 := Aside0.mk hx
        have HL2 := Aside0.mk hlb
        have HR2 := Aside0.mk hr
        have HS2 := Aside0.mk (show w.heap.size ≤ wr.heap.size from HK2.out.1)
        clear HD2 hx hlb hr
        rcases (show i = 0 ∨ i = 1 ∨ i = 2 by omega) with rfl | rfl | rfl
        · have q0 : wr.cell? ⟨g, 0, none⟩ = some (.slice A0 (bytesOf m0).length c0) := (blk_cell HX2.out 0).trans rfl
          have hl_ : (bytesOf m0).length ≤ 140737488355000 := by rw [bytesOf_length]; exact Nat.le_trans HS0.out (by decide)
          have HRC := Aside0.mk (Kd.R_reads' HR2.out.r0).2.2
          go_wp2_with (first
            | ((with_reducible refine gate_builtin (b := .append) (xs := #[.const (.slice none 0 0), .tmp 79]) rfl ?_); at_builtin; refine Kd.R_append_rows (Kd.int .u8) (Rr := (Kd.int .u8).K wr) (W := wr) (w0 := w0) w0.heap.size rfl _ _ 55 5 (.int .u8 0) 1 rfl Try.underlying55 info5 rfl (by decide) (by omega) (.slice none 0 0) [] (bytesOf m0) A0 (bytesOf m0).length c0 (fun k => wr.heap.size ≤ k) (fun _ => False) rfl rfl (Kd.R_nil _ _ _ _ _) HRC.out (fun _ _ h => h) (fun _ hk => hk.elim) (fun k hk => hk) HB2.out (below_size HB2.out) (by simp; omega) ?_; intro v1 w3 ho hb hgr hat; obtain ⟨A5, c5, e5⟩ := Kd.R_slice ho; rw [List.nil_append] at e5 ho; subst e5; have HO3 := Aside0.mk ho; have HB3 := Aside0.mk hb; have HK3 := Aside0.mk (show Kept wr w3 (fun k => (O k ∨ w.heap.size ≤ k) ∧ lb2 k = 1) from Kept.of_grown hgr (Kept.refl wr _) (fun k hk => by cases hk)); have HX3 := Aside0.mk (blk_grown HX2.out hgr (by intro h; cases h)); have y3 := blk_frozen HX3.out 1; have d3_ : ∃ v, w3.cell? ⟨g, 1, none⟩ = some v := ⟨_, (blk_cell HX3.out 1).trans rfl⟩; obtain ⟨v3_, d3_⟩ := d3_; clear ho hb hgr hat))
          have HL9 := Aside0.mk (show relab wr.heap.size lb2 1 g = 5 by unfold relab; rw [if_pos (blk_lt HX2.out)]; exact HL2.out)
          have HRF := Aside0.mk (((HR2.out.up1 HK3.out (Kd.R_mono HO3.out (fun k hk => .inr hk))).set HL9.out 1 (.slice A5 (bytesOf m0).length c5)).mono (O' := fun k => O k ∨ w.heap.size ≤ k) (fun k hk => hk.elim id (fun h1 => .inr (Nat.le_trans HS2.out h1))))
          have HXF := Aside0.mk (blk_put HX3.out 1 (.slice A5 (bytesOf m0).length c5) rfl)
          have HBF := Aside0.mk (HB3.out.setCell (p := ⟨g, 1, none⟩) HG.out (.slice A5 (bytesOf m0).length c5))
          have HKF := Aside0.mk ((HK2.out.then_ HK3.out (fun k hk => hk.1)).setCell (p := ⟨g, 1, none⟩) (.inl HO.out) (.slice A5 (bytesOf m0).length c5))
          go_roundw
          case rel => exact ⟨0 + 1, by omega, by go_num, ⟨_, _, _, HXF.out, HL9.out, HRF.out⟩, HBF, HKF⟩
          case measure => simp [intOf]
        · have q0 : wr.cell? ⟨g, 2, none⟩ = some (.slice A2 (bytesOf m1).length c2) := (blk_cell HX2.out 2).trans rfl
          have hl_ : (bytesOf m1).length ≤ 140737488355000 := by rw [bytesOf_length]; exact Nat.le_trans HS1.out (by decide)
          have HRC := Aside0.mk (Kd.R_reads' HR2.out.r2).2.2
          go_wp2_with (first
            | ((with_reducible refine gate_builtin (b := .append) (xs := #[.const (.slice none 0 0), .tmp 79]) rfl ?_); at_builtin; refine Kd.R_append_rows (Kd.int .u8) (Rr := (Kd.int .u8).K wr) (W := wr) (w0 := w0) w0.heap.size rfl _ _ 55 5 (.int .u8 0) 1 rfl Try.underlying55 info5 rfl (by decide) (by omega) (.slice none 0 0) [] (bytesOf m1) A2 (bytesOf m1).length c2 (fun k => wr.heap.size ≤ k) (fun _ => False) rfl rfl (Kd.R_nil _ _ _ _ _) HRC.out (fun _ _ h => h) (fun _ hk => hk.elim) (fun k hk => hk) HB2.out (below_size HB2.out) (by simp; omega) ?_; intro v1 w3 ho hb hgr hat; obtain ⟨A5, c5, e5⟩ := Kd.R_slice ho; rw [List.nil_append] at e5 ho; subst e5; have HO3 := Aside0.mk ho; have HB3 := Aside0.mk hb; have HK3 := Aside0.mk (show Kept wr w3 (fun k => (O k ∨ w.heap.size ≤ k) ∧ lb2 k = 3) from Kept.of_grown hgr (Kept.refl wr _) (fun k hk => by cases hk)); have HX3 := Aside0.mk (blk_grown HX2.out hgr (by intro h; cases h)); have y3 := blk_frozen HX3.out 3; have d3_ : ∃ v, w3.cell? ⟨g, 3, none⟩ = some v := ⟨_, (blk_cell HX3.out 3).trans rfl⟩; obtain ⟨v3_, d3_⟩ := d3_; clear ho hb hgr hat))
          have HL9 := Aside0.mk (show relab wr.heap.size lb2 3 g = 5 by unfold relab; rw [if_pos (blk_lt HX2.out)]; exact HL2.out)
          have HRF := Aside0.mk (((HR2.out.up3 HK3.out (Kd.R_mono HO3.out (fun k hk => .inr hk))).set HL9.out 3 (.slice A5 (bytesOf m1).length c5)).mono (O' := fun k => O k ∨ w.heap.size ≤ k) (fun k hk => hk.elim id (fun h1 => .inr (Nat.le_trans HS2.out h1))))
          have HXF := Aside0.mk (blk_put HX3.out 3 (.slice A5 (bytesOf m1).length c5) rfl)
          have HBF := Aside0.mk (HB3.out.setCell (p := ⟨g, 3, none⟩) HG.out (.slice A5 (bytesOf m1).length c5))
          have HKF := Aside0.mk ((HK2.out.then_ HK3.out (fun k hk => hk.1)).setCell (p := ⟨g, 3, none⟩) (.inl HO.out) (.slice A5 (bytesOf m1).length c5))
          go_roundw
          case rel => exact ⟨1 + 1, by omega, by go_num, ⟨_, _, _, HXF.out, HL9.out, HRF.out⟩, HBF, HKF⟩
          case measure => simp [intOf]
        · rw [if_pos (by decide), if_pos (by decide)] at HR2
          have p4 : ∃ v, wr.cell? ⟨g, 4, none⟩ = some v := ⟨_, (blk_cell HX2.out 4).trans rfl⟩
          have p5 : ∃ v, wr.cell? ⟨g, 5, none⟩ = some v := ⟨_, (blk_cell HX2.out 5).trans rfl⟩
          have p6 : ∃ v, wr.cell? ⟨g, 6, none⟩ = some v := ⟨_, (blk_cell HX2.out 6).trans rfl⟩
          obtain ⟨v4, p4⟩ := p4
          obtain ⟨v5, p5⟩ := p5
          obtain ⟨v6, p6⟩ := p6
          have z4 := blk_frozen HX2.out 4
          have z5 := blk_frozen HX2.out 5
          have z6 := blk_frozen HX2.out 6
          go_wp2_with (fail)
          refine bodyPost_end (v := .tuple #[]) (by first | rfl | (simp [results, Try.f73]; done) | (simp [results, Try.f73]; rfl)) rfl ?_
          refine ⟨rfl, ?_, ((HB2.out.setCell (p := ⟨g, 4, none⟩) HG.out _).setCell (p := ⟨g, 5, none⟩) HG.out _).setCell (p := ⟨g, 6, none⟩) HG.out _, ((HK2.out.setCell (p := ⟨g, 4, none⟩) (.inl HO.out) _).setCell (p := ⟨g, 5, none⟩) (.inl HO.out) _).setCell (p := ⟨g, 6, none⟩) (.inl HO.out) _⟩
          have hR := HR2.out
          have hR' : Rws wr w0.heap.size (fun k => O k ∨ w.heap.size ≤ k) lb2 (.slice A0 (bytesOf m0).length c0) z1 (.slice A2 (bytesOf m1).length c2) z3 (.slice none 0 0) (bytesOf m0) (bytesOf m0) (bytesOf m1) (bytesOf m1) [] := ⟨hR.r0, hR.r1, hR.r2, hR.r3, Kd.R_nil _ _ _ _ _⟩
          exact DX.of (lab := lb2) (blk_put (blk_put (blk_put HX2.out 4 (.slice none 0 0) rfl) 5 (.int .i64 (-1)) rfl) 6 (.bool false) rfl) HG.out (.inl HO.out) HL2.out (((hR'.set HL2.out 4 _).set HL2.out 5 _).set HL2.out 6 _) (by rw [HM0.out]; rfl) (by rw [HM0.out]; rfl) (by rw [HM1.out]; rfl) (by rw [HM1.out]; rfl)
end Go.Proofs.Ythaoaaboempajaa.Disk
namespace Go.Proofs.Ythaoaaboempajaa.Disk
open Go.RowKit Go.Proofs.YthaoaaboempajaaW.PrintWords Go.Proofs.YthaoaaboempajaaW.PrintLast Go.Proofs.YthaoaaboempajaaW.PrintMore Go.Proofs.YthaoaaboempajaaX Go.Proofs.Ythaoaaboempajaa.QDiskRuns
set_option linter.unusedVariables false
set_option linter.unusedSimpArgs false
theorem info181 : (Try.prog.info? 181).map (fun i => (i.zero, i.size, i.bytes)) = some (some (.agg #[.int .i64 0, .int .i64 0, .string ⟨#[]⟩, .bool false]), 4, 40) := by kernel_rfl
theorem zeros_is (n : Nat) : strOfNums (List.replicate n 0) = zerosB n := by rw [← bytesOf_zeros, nums_bytes]
theorem filled_is (s : ByteArray) (n : Nat) (hs : s.size ≤ 67108864) (hn : n ≤ 134217728) : relstoreref_filled.f s (n : Int) = some (fillB s n) := by
  unfold relstoreref_filled.f fillB
  by_cases h : n ≤ s.size
  · rw [if_pos (by omega), if_pos h]
  · have e : wrap64 ((n : Int) - (s.size : Int)) = ((n - s.size : Nat) : Int) := by unfold wrap64; omega
    rw [if_neg (by omega), if_neg h, e, Int.toNat_natCast, if_pos (by omega), if_pos (by omega), Option.bind_some, zeros_is, size_zeros, if_pos (by omega)]
theorem act_on_is (c : Chg) (s : ByteArray) (hs : s.size ≤ 67108864) (hc : c.at_ + c.text.size ≤ 67108864) : relstoreref_act_on.f c.file (c.at_ : Int) c.text c.cut s = some (onB c s) := by
  unfold relstoreref_act_on.f onB
  by_cases h : c.cut = true
  · rw [if_pos h, if_pos h, filled_is s c.at_ hs (by omega), Option.bind_some, size_fillB, if_pos (by omega), if_pos (by omega), Int.toNat_natCast]
  · have e : wrap64 ((c.at_ : Int) + (c.text.size : Int)) = ((c.at_ + c.text.size : Nat) : Int) := by unfold wrap64; omega
    have z1 : ((fillB s (c.at_ + c.text.size)).extract 0 c.at_).size = c.at_ := by
      rw [← bytesOf_length, bytesOf_extract, List.length_take, List.length_drop, bytesOf_length, size_fillB]; omega
    have z2 : ((fillB s (c.at_ + c.text.size)).extract (c.at_ + c.text.size) (fillB s (c.at_ + c.text.size)).size).size ≤ 67108864 := by
      rw [← bytesOf_length, bytesOf_extract, List.length_take, List.length_drop, bytesOf_length, size_fillB]; omega
    rw [if_neg h, if_neg h, e, filled_is s _ hs (by omega), Option.bind_some, Int.toNat_natCast, Int.toNat_natCast, if_pos (by omega), if_pos (by rw [size_fillB]; omega), if_pos (by rw [z1]; omega), if_pos (by omega), if_pos (by rw [size_fillB]; omega), ByteArray.size_append, z1, if_pos (by omega)]
    rfl
theorem newDisk.calls (w0 w : World) (hB : Below w0.heap.size w0 w) :
    Calls Try.prog 59 #[] w fun e w' => ∃ g, e = .returned (.pointer (some ⟨g, 0, none⟩)) ∧ w.heap.size ≤ g ∧ RD w' w0.heap.size g (fun k => w.heap.size ≤ k) St.new ∧ Below w.heap.size w w' := by
  have HB := Aside0.mk hB
  clear hB
  go_enter Try.func59, Try.ntmps59
  go_wp2_with ((with_reducible refine gate_dst (N := 2) rfl ?_); refine box_event ?hg (N := 2) ?hd (cs := rcells (.string ⟨#[]⟩) (.string ⟨#[]⟩) (.slice none 0 0) (-1) false 0) (t := 150) ?hr ?_; (case hd => rfl); (case hg => rfl); (case hr => first | (go_simp; done) | (go_simp; rfl)); intro gb hgb w1 hbox hb; have HX1 := Aside0.mk hbox; have HB0 := Aside0.mk hb; have HGB := Aside0.mk hgb; clear hgb hbox hb)
  go_ret
  refine ⟨gb, rfl, Nat.le_of_eq HGB.out.symm, ?_, HB0.out⟩
  exact ⟨.slice none 0 0, HX1.out, by rw [HGB.out]; exact HB.out.size, Nat.le_of_eq HGB.out.symm, Kd.R_nil _ _ _ _ _⟩
theorem drawn_keepR {w w' : World} {base g : Nat} {O : Nat → Prop} {s : St} (h : Drawn0 w w') (hD : RD w base g O s) : RD w' base g O s := RD.apart hD (S := fun _ => False) (Kept.of_below h.below _) (fun _ _ h => h)
set_option maxHeartbeats 8000000 in
set_option maxRecDepth 100000 in
theorem act.calls (g : Nat) (O : Nat → Prop) (s : St) (f : Int) (at_ : Nat) (t : ByteArray) (cut : Bool) (w0 w : World) (hB : Below w0.heap.size w0 w) (hD : RD w w0.heap.size g O s)
    (hf : -9223372036854775808 ≤ s.f ∧ s.f < 9223372036854775808) (hc : 0 ≤ s.c ∧ s.c < 9223372036854775807) (hw : s.ws.length ≤ 1000000000000) :
    Calls Try.prog 167 #[.pointer (some ⟨g, 0, none⟩), chgV ⟨f, at_, t, cut⟩] w fun e w' => e = .returned (.int .i64 (turn s.f s.d s.c).1) ∧
      RD w' w0.heap.size g (fun k => O k ∨ w.heap.size ≤ k) (s.changed ⟨f, at_, t, cut⟩) ∧ Below w0.heap.size w0 w' ∧ Kept w w' O := by
  obtain ⟨x2, hb, hg, hO, hr⟩ := hD
  have HB := Aside0.mk hB
  have HG := Aside0.mk hg
  have HO := Aside0.mk hO
  have HR := Aside0.mk hr
  have HX := Aside0.mk hb
  have HF := Aside0.mk hf
  have HC := Aside0.mk hc
  have HW := Aside0.mk hw
  clear hB hb hg hO hr hf hc hw
  obtain ⟨A4, c4, e4⟩ := Kd.R_slice HR.out
  subst e4
  go_enter Try.func167, Try.ntmps167
  go_upto_region 1 with ((with_reducible refine gate_dst (N := 3) rfl ?_); refine box_event ?hg (N := 3) ?hd (cs := #[.int .i64 f, .int .i64 (at_ : Int), .string t, .bool cut]) (t := 181) ?hr ?_; (case hd => rfl); (case hg => rfl); (case hr => first | (go_simp; done) | (go_simp; rfl)); intro gb hgb w1 hbox hb; have HX1 := Aside0.mk hbox; have HB0 := Aside0.mk hb; have HGB := Aside0.mk hgb; clear hgb hbox hb)
  have HX0 := Aside0.mk (blk_below HX.out HB0.out)
  have HR0 := Aside0.mk (Kd.R_below HR.out HB0.out)
  have HB1 := Aside0.mk (below_step HB.out HB0.out)
  have HNE := Aside0.mk (show gb ≠ g from blk_ne HX1.out HX0.out (by decide))
  have HLT4 := Aside0.mk (Kd.R_lt HR.out)
  clear HX HR HB
  go_upto_region 2 with (go_at_call 169; (refine (rturn.calls g _ _ _ s.f s.d s.c w0 _ HB1.out HG.out HX0.out HF.out HC.out).mono ?_); rintro e2 w2 ⟨rfl, hx2, hb2, hk2, hs2⟩; have HX2 := Aside0.mk hx2; have HB2 := Aside0.mk hb2; have HK2 := Aside0.mk hk2; have HS2 := Aside0.mk hs2; clear hx2 hb2 hk2 hs2)
  have HX3 := Aside0.mk (blk_kept HX1.out HK2.out HNE.out)
  have HR2 := Aside0.mk (Kd.R_kept HR0.out HK2.out (fun k h1 he => h1.2 he))
  have HKw := Aside0.mk (Kept.then_ (Kept.of_below HB0.out O) HK2.out (fun k hk => .inl (by rw [hk]; exact HO.out)))
  have HSZ := Aside0.mk (show w.heap.size ≤ w2.heap.size by rw [HS2.out]; exact HB0.out.size)
  clear HX1 HB0 HX0 HR0 HB1 HK2 HS2
  rcases turn_cases s.f s.d s.c with ⟨e0, -⟩ | ⟨e0, -⟩
  · have HE := Aside0.mk e0
    rw [e0]
    clear e0
    go_upto_region 3 with (fail)
    have c4_ : w2.cell? ⟨g, 2, none⟩ = some (.slice A4 s.ws.length c4) := (blk_cell HX2.out 2).trans rfl
    have c4b_ : ∀ o, (w2.alloc o).cell? ⟨g, 2, none⟩ = some (.slice A4 s.ws.length c4) := fun o => (blk_cell (blk_alloc HX2.out o) 2).trans rfl
    have q0 : w2.cell? ⟨gb, 0, none⟩ = some (.int .i64 f) := (blk_cell HX3.out 0).trans rfl
    have q1 : w2.cell? ⟨gb, 1, none⟩ = some (.int .i64 (at_ : Int)) := (blk_cell HX3.out 1).trans rfl
    have q2 : w2.cell? ⟨gb, 2, none⟩ = some (.string t) := (blk_cell HX3.out 2).trans rfl
    have q3 : w2.cell? ⟨gb, 3, none⟩ = some (.bool cut) := (blk_cell HX3.out 3).trans rfl
    have HW' := HW.out
    go_region_law (refine Kd.R_append_step (W := w2.drew) kC w0.heap.size rfl (.tmp 14) (.tmp 16) 148 181 (.agg #[.int .i64 0, .int .i64 0, .string ⟨#[]⟩, .bool false]) 40 rfl Try.underlying148 info181 rfl (by decide) (by omega) (.slice A4 s.ws.length c4) s.ws ⟨f, at_, t, cut⟩ _ (fun k => (O k ∧ k ≠ g) ∨ w2.heap.size ≤ k) (fun _ => False) rfl rfl (kC_M _) (fun _ hk => hk.elim) (fun k hk => .inr hk) (Kd.R_mono (Kd.R_drew HR2.out) (fun k hk => .inl hk)) (below_drew1 HB2.out) (below_size (below_drew1 HB2.out)) (by omega) ?_; intro v1 w3 ho hb hg hat; obtain ⟨A5, c5, e5⟩ := Kd.R_slice ho; rw [List.length_append, List.length_singleton] at e5; subst e5; have HO3 := Aside0.mk ho; have HB3 := Aside0.mk hb; have HG3 := Aside0.mk hg; have HX4 := Aside0.mk (blk_grown (blk_drew HX2.out) hg (Kd.R_ne HR2.out HX2.out (by decide))); have z5 := blk_frozen HX4.out 2; have c5_ : w3.cell? ⟨g, 2, none⟩ = some (.slice A4 s.ws.length c4) := (blk_cell HX4.out 2).trans rfl; clear ho hb hg hat)
    all_goals
      go_wp2_with (fail)
      go_ret
      have HK3 := Aside0.mk (show Kept w2 w3 (fun k => O k ∧ k ≠ g) from Kept.of_grown HG3.out (Kept.drew (Kept.refl w2 _)) (fun k hk => .inl (HR2.out.1 k hk)))
      refine ⟨by rw [HE.out]; rfl, ?_, HB3.out.setCell (p := ⟨g, 2, none⟩) HG.out _, (HKw.out.then_ HK3.out (fun k hk => .inl hk.1)).setCell (p := ⟨g, 2, none⟩) (.inl HO.out) _⟩
      unfold St.changed
      rw [if_pos HE.out]
      refine ⟨_, blk_put HX4.out 2 _ rfl, HG.out, .inl HO.out, Kd.R_far (Kd.R_mono HO3.out (ok' := fun k => (O k ∨ w.heap.size ≤ k) ∧ k ≠ g) (fun k hk => hk.elim (fun h => ⟨.inl h.1, h.2⟩) (fun h => ⟨.inr (Nat.le_trans HSZ.out h), fun he => ?_⟩))) (fun k hk => hk.2) _⟩
      have hl := blk_lt HX2.out
      rw [he] at h
      exact absurd hl (Nat.not_lt.mpr h)
  · have HE := Aside0.mk e0
    rw [e0]
    clear e0
    go_wp2_with (fail)
    go_ret
    refine ⟨by rw [HE.out]; rfl, RD.mono ?_ (fun k hk => .inl hk), HB2.out, HKw.out⟩
    unfold St.changed
    rw [if_neg (by rw [HE.out]; decide)]
    exact ⟨_, HX2.out, HG.out, HO.out, HR2.out⟩
set_option maxHeartbeats 4000000 in
theorem rwrite.calls (g : Nat) (O : Nat → Prop) (s : St) (f a : Int) (t : ByteArray) (m : Nat) (w0 w : World) (hB : Below w0.heap.size w0 w) (hD : RD w w0.heap.size g O s) (hok : s.ok m) (hm : m ≤ 1000000000) :
    Calls Try.prog 126 #[.pointer (some ⟨g, 0, none⟩), .int .i64 f, .int .i64 a, .string t] w fun e w' => e = .returned (.int .i64 (s.write f a t).1) ∧
      RD w' w0.heap.size g (fun k => O k ∨ w.heap.size ≤ k) (s.write f a t).2 ∧ Below w0.heap.size w0 w' ∧ Kept w w' O := by
  have HB := Aside0.mk hB
  have HD := Aside0.mk hD
  have HOK := Aside0.mk hok
  have HM := Aside0.mk hm
  clear hB hD hok hm
  by_cases hr : rightB f a t.size = true
  · obtain ⟨hf, ha, hn, han⟩ := right_file hr
    obtain ⟨a, rfl⟩ : ∃ b : Nat, a = (b : Int) := ⟨a.toNat, by omega⟩
    have HRT := Aside0.mk hr
    have HF := Aside0.mk hf
    have HAN := Aside0.mk han
    have hw : s.write f a t = ((turn s.f s.d s.c).1, s.changed ⟨f, a, t, false⟩) := by unfold St.write; rw [if_pos hr, Int.toNat_natCast]
    rw [hw]
    clear hr hf ha hn han hw
    go_enter Try.func126, Try.ntmps126
    go_upto_region 3 with (go_at_call 165; (refine (relstoreref_fits.calls f a t.size true _ (by rw [fits_is, HRT.out])).mono ?_); rintro e2 w2 ⟨rfl, hd2⟩; have HW2 := Aside0.mk hd2; clear hd2)
    have HD2 := Aside0.mk (drawn_keepR HW2.out HD.out)
    have HB2 := Aside0.mk (below_step HB.out HW2.out.below)
    have hok := HOK.out
    have h1 := HM.out
    have h2 := HAN.out
    have hcs := hok.c
    have hns := hok.n
    have hfs := hok.f
    have h3 := hok.s0
    have h4 := hok.s1
    have G1 := Aside0.mk (show -9223372036854775808 ≤ s.f ∧ s.f < 9223372036854775808 by omega)
    have G2 := Aside0.mk (show 0 ≤ s.c ∧ s.c < 9223372036854775807 by omega)
    have G3 := Aside0.mk (show a + t.size ≤ 140737488355000 by omega)
    have G4 := Aside0.mk (show s.s0.size ≤ 140737488355000 by unfold maxFile at h3; omega)
    have G5 := Aside0.mk (show s.s1.size ≤ 140737488355000 by unfold maxFile at h4; omega)
    have G6 := Aside0.mk (show s.ws.length ≤ 1000000000000 by omega)
    clear hok h1 h2 hcs hns hfs h3 h4
    have HS := Aside0.mk (show w.heap.size ≤ w2.heap.size from HW2.out.below.size)
    go_wp2_with (go_at_call 167; (refine (act.calls g O s f a t false w0 _ HB2.out HD2.out G1.out G2.out G6.out).mono ?_); rintro e3 w3 ⟨rfl, hd3, hb3, hk3⟩; have HD3 := Aside0.mk hd3; have HB3 := Aside0.mk hb3; have HK3 := Aside0.mk hk3; clear hd3 hb3 hk3)
    go_ret
    exact ⟨rfl, RD.mono HD3.out (fun k hk => hk.imp id (Nat.le_trans HS.out)), HB3.out, (Kept.of_below HW2.out.below O).then_ HK3.out (fun k hk => .inl hk)⟩
  · have hr' : rightB f a t.size = false := by simpa using hr
    have HRT := Aside0.mk hr'
    have hw : s.write f a t = (1, s) := by unfold St.write; rw [if_neg hr]
    rw [hw]
    clear hr hr' hw
    go_enter Try.func126, Try.ntmps126
    go_wp2_with (go_at_call 165; (refine (relstoreref_fits.calls f a t.size false _ (by rw [fits_is, HRT.out])).mono ?_); rintro e2 w2 ⟨rfl, hd2⟩; have HW2 := Aside0.mk hd2; clear hd2)
    go_ret
    exact ⟨rfl, RD.mono (drawn_keepR HW2.out HD.out) (fun k hk => .inl hk), below_step HB.out HW2.out.below, Kept.of_below HW2.out.below O⟩
set_option maxHeartbeats 4000000 in
theorem rcut.calls (g : Nat) (O : Nat → Prop) (s : St) (f a : Int) (m : Nat) (w0 w : World) (hB : Below w0.heap.size w0 w) (hD : RD w w0.heap.size g O s) (hok : s.ok m) (hm : m ≤ 1000000000) :
    Calls Try.prog 128 #[.pointer (some ⟨g, 0, none⟩), .int .i64 f, .int .i64 a] w fun e w' => e = .returned (.int .i64 (s.cutTo f a).1) ∧
      RD w' w0.heap.size g (fun k => O k ∨ w.heap.size ≤ k) (s.cutTo f a).2 ∧ Below w0.heap.size w0 w' ∧ Kept w w' O := by
  have HB := Aside0.mk hB
  have HD := Aside0.mk hD
  have HOK := Aside0.mk hok
  have HM := Aside0.mk hm
  clear hB hD hok hm
  by_cases hr : rightB f a 0 = true
  · obtain ⟨hf, ha, hn, han⟩ := right_file hr
    obtain ⟨a, rfl⟩ : ∃ b : Nat, a = (b : Int) := ⟨a.toNat, by omega⟩
    have HRT := Aside0.mk hr
    have HF := Aside0.mk hf
    have HAN := Aside0.mk han
    have hw : s.cutTo f a = ((turn s.f s.d s.c).1, s.changed ⟨f, a, ByteArray.empty, true⟩) := by unfold St.cutTo; rw [if_pos hr, Int.toNat_natCast]
    rw [hw]
    clear hr hf ha hn han hw
    go_enter Try.func128, Try.ntmps128
    go_upto_region 3 with (go_at_call 165; (refine (relstoreref_fits.calls f a 0 true _ (by rw [fits_is, HRT.out])).mono ?_); rintro e2 w2 ⟨rfl, hd2⟩; have HW2 := Aside0.mk hd2; clear hd2)
    have HD2 := Aside0.mk (drawn_keepR HW2.out HD.out)
    have HB2 := Aside0.mk (below_step HB.out HW2.out.below)
    have hok := HOK.out
    have h1 := HM.out
    have h2 := HAN.out
    have hcs := hok.c
    have hns := hok.n
    have hfs := hok.f
    have h3 := hok.s0
    have h4 := hok.s1
    have G1 := Aside0.mk (show -9223372036854775808 ≤ s.f ∧ s.f < 9223372036854775808 by omega)
    have G2 := Aside0.mk (show 0 ≤ s.c ∧ s.c < 9223372036854775807 by omega)
    have G3 := Aside0.mk (show a + ByteArray.empty.size ≤ 140737488355000 by rw [show ByteArray.empty.size = 0 from rfl]; omega)
    have G4 := Aside0.mk (show s.s0.size ≤ 140737488355000 by unfold maxFile at h3; omega)
    have G5 := Aside0.mk (show s.s1.size ≤ 140737488355000 by unfold maxFile at h4; omega)
    have G6 := Aside0.mk (show s.ws.length ≤ 1000000000000 by omega)
    clear hok h1 h2 hcs hns hfs h3 h4
    have HS := Aside0.mk (show w.heap.size ≤ w2.heap.size from HW2.out.below.size)
    go_wp2_with (go_at_call 167; (refine (act.calls g O s f a ByteArray.empty true w0 _ HB2.out HD2.out G1.out G2.out G6.out).mono ?_); rintro e3 w3 ⟨rfl, hd3, hb3, hk3⟩; have HD3 := Aside0.mk hd3; have HB3 := Aside0.mk hb3; have HK3 := Aside0.mk hk3; clear hd3 hb3 hk3)
    go_ret
    exact ⟨rfl, RD.mono HD3.out (fun k hk => hk.imp id (Nat.le_trans HS.out)), HB3.out, (Kept.of_below HW2.out.below O).then_ HK3.out (fun k hk => .inl hk)⟩
  · have hr' : rightB f a 0 = false := by simpa using hr
    have HRT := Aside0.mk hr'
    have hw : s.cutTo f a = (1, s) := by unfold St.cutTo; rw [if_neg hr]
    rw [hw]
    clear hr hr' hw
    go_enter Try.func128, Try.ntmps128
    go_wp2_with (go_at_call 165; (refine (relstoreref_fits.calls f a 0 false _ (by rw [fits_is, HRT.out])).mono ?_); rintro e2 w2 ⟨rfl, hd2⟩; have HW2 := Aside0.mk hd2; clear hd2)
    go_ret
    exact ⟨rfl, RD.mono (drawn_keepR HW2.out HD.out) (fun k hk => .inl hk), below_step HB.out HW2.out.below, Kept.of_below HW2.out.below O⟩
set_option maxHeartbeats 8000000 in
set_option maxRecDepth 100000 in
theorem seen.calls0 (g : Nat) (O : Nat → Prop) (s : St) (m base : Nat) (w : World) (hD : RD w base g O s) (hok : s.ok m) (hm : m ≤ 2000000000) :
    Calls Try.prog 136 #[.pointer (some ⟨g, 0, none⟩), .int .i64 0] w fun e w' => e = .returned (.string s.s0) ∧ Below w.heap.size w w' := by
  obtain ⟨x2, hb, hg, hO, hr⟩ := hD
  have hcs := hok.c
  have hns := hok.n
  have HW := Aside0.mk (show s.ws.length ≤ 2000000000 by omega)
  have HWS := Aside0.mk hok.ws
  have HL := Aside0.mk hok.l0
  have HR := Aside0.mk hr
  have HX := Aside0.mk hb
  clear hb hg hO hr hok hm hcs hns
  obtain ⟨A4, c4, e4⟩ := Kd.R_slice HR.out
  subst e4
  go_enter Try.func136, Try.ntmps136
  have q0 : w.cell? ⟨g, 0, none⟩ = some (.string s.l0) := (blk_cell HX.out 0).trans rfl
  have q2 : w.cell? ⟨g, 2, none⟩ = some (.slice A4 s.ws.length c4) := (blk_cell HX.out 2).trans rfl
  go_wp2_with (fail)
  clear q0 q2
  have HCW := Aside0.mk (Kd.R_reads' HR.out).2.2
  go_loopw [5, 19] (fun v5 v19 wr => ∃ (j : Nat), j ≤ s.ws.length ∧ v5 = .string (seenB 0 (s.ws.take j) s.l0) ∧ v19 = .int .i64 (j : Int) ∧ Aside0 (Below w.heap.size w wr)) (fun _ v19 _ => s.ws.length - (intOf v19).toNat)
  case atStart => exact ⟨0, Nat.zero_le _, rfl, rfl, ⟨Below.refl _ _⟩⟩
  case round =>
    obtain ⟨j, hj, rfl, rfl, HBr⟩ := hrel
    have hm := HW.out
    by_cases hlt : j < s.ws.length
    · have t_ : decide ((j : Int) < (s.ws.length : Int)) = true := decide_eq_true (by omega)
      obtain ⟨ad, hA, f0, f1, f2, f3⟩ := at_C HCW.out j hlt
      subst hA
      replace f0 := (HBr.out.cell (World.block_lt_of_cell? w _ f0)).trans f0
      replace f1 := (HBr.out.cell (World.block_lt_of_cell? w _ f1)).trans f1
      replace f2 := (HBr.out.cell (World.block_lt_of_cell? w _ f2)).trans f2
      replace f3 := (HBr.out.cell (World.block_lt_of_cell? w _ f3)).trans f3
      have HTN := Aside0.mk (show seenB 0 (s.ws.take (j + 1)) s.l0 = if (chgAt s.ws j).file = 0 then onB (chgAt s.ws j) (seenB 0 (s.ws.take j) s.l0) else seenB 0 (s.ws.take j) s.l0 by rw [take_succ_chg hlt]; exact seenB_snoc _ _ _ _)
      have HCH := Aside0.mk (HWS.out (chgAt s.ws j) (by unfold chgAt; rw [List.getD_eq_getElem?_getD, List.getElem?_eq_getElem hlt, Option.getD_some]; exact List.getElem_mem hlt)).2
      have HSS := Aside0.mk (size_seenB 0 (s.ws.take j) s.l0 HL.out (fun c hc => (HWS.out c (List.mem_of_mem_take hc)).2))
      generalize chgAt s.ws j = ch at f0 f1 f2 f3 HTN HCH
      generalize seenB 0 (s.ws.take j) s.l0 = sj at HTN HSS ⊢
      go_upto_region 5 with ((with_reducible refine gate_dst (N := 7) rfl ?_); refine box_event ?hg (N := 7) ?hd (cs := #[.int .i64 0, .int .i64 0, .string ⟨#[]⟩, .bool false]) (t := 181) ?hr ?_; (case hd => rfl); (case hg => rfl); (case hr => first | (go_simp; done) | (go_simp; rfl)); intro gb hgb w7 hbox hb; have HXb := Aside0.mk hbox; have HBb := Aside0.mk hb; have HGb := Aside0.mk hgb; have b0 : w7.cell? ⟨gb, 0, none⟩ = some (.int .i64 0) := (blk_cell hbox 0).trans rfl; have b1 : w7.cell? ⟨gb, 1, none⟩ = some (.int .i64 0) := (blk_cell hbox 1).trans rfl; have b2 : w7.cell? ⟨gb, 2, none⟩ = some (.string ⟨#[]⟩) := (blk_cell hbox 2).trans rfl; have b3 : w7.cell? ⟨gb, 3, none⟩ = some (.bool false) := (blk_cell hbox 3).trans rfl; have y0 := blk_frozen hbox 0; have y1 := blk_frozen hbox 1; have y2 := blk_frozen hbox 2; have y3 := blk_frozen hbox 3; clear hgb hbox hb)
      have hput : (((w7.setCell ⟨gb, 0, none⟩ (.int .i64 ch.file)).setCell ⟨gb, 1, none⟩ (.int .i64 (ch.at_ : Int))).setCell ⟨gb, 2, none⟩ (.string ch.text)).setCell ⟨gb, 3, none⟩ (.bool ch.cut) = put4 w7 gb (.int .i64 ch.file) (.int .i64 (ch.at_ : Int)) (.string ch.text) (.bool ch.cut) := rfl
      rw [hput]
      clear hput
      have HX8 := Aside0.mk (put4_blk (a := .int .i64 ch.file) (b := .int .i64 (ch.at_ : Int)) (c := .string ch.text) (d := .bool ch.cut) HXb.out)
      have HB8 := Aside0.mk (HBb.out.setCell (p := ⟨gb, 0, none⟩) (by rw [HGb.out]; exact Nat.le_refl _) (.int .i64 ch.file) |>.setCell (p := ⟨gb, 1, none⟩) (by rw [HGb.out]; exact Nat.le_refl _) (.int .i64 (ch.at_ : Int)) |>.setCell (p := ⟨gb, 2, none⟩) (by rw [HGb.out]; exact Nat.le_refl _) (.string ch.text) |>.setCell (p := ⟨gb, 3, none⟩) (by rw [HGb.out]; exact Nat.le_refl _) (.bool ch.cut))
      change Aside0 (Below wr.heap.size wr (put4 w7 gb (.int .i64 ch.file) (.int .i64 (ch.at_ : Int)) (.string ch.text) (.bool ch.cut))) at HB8
      clear b0 b1 b2 b3 y0 y1 y2 y3 f0 f1 f2 f3 HXb HBb
      generalize put4 w7 gb (.int .i64 ch.file) (.int .i64 (ch.at_ : Int)) (.string ch.text) (.bool ch.cut) = w8 at HX8 HB8 ⊢
      have q0 : w8.cell? ⟨gb, 0, none⟩ = some (.int .i64 ch.file) := (blk_cell HX8.out 0).trans rfl
      have q1 : w8.cell? ⟨gb, 1, none⟩ = some (.int .i64 (ch.at_ : Int)) := (blk_cell HX8.out 1).trans rfl
      have q2 : w8.cell? ⟨gb, 2, none⟩ = some (.string ch.text) := (blk_cell HX8.out 2).trans rfl
      have q3 : w8.cell? ⟨gb, 3, none⟩ = some (.bool ch.cut) := (blk_cell HX8.out 3).trans rfl
      by_cases he : ch.file = 0
      · have HNE := Aside0.mk he
        rw [he] at q0
        have HON := Aside0.mk (show relstoreref_act_on.f 0 (ch.at_ : Int) ch.text ch.cut sj = some (onB ch sj) by have h := act_on_is ch sj HSS.out HCH.out; rw [he] at h; exact h)
        clear he
        go_wp2_with (go_at_call 154; (refine ((relstoreref_act_on.calls 0 (ch.at_ : Int) ch.text ch.cut sj (onB ch sj) _ HON.out)).mono ?_); rintro e9 w9 ⟨rfl, hb⟩; have HB9 := Aside0.mk hb; clear hb)
        go_roundw
        case rel => exact ⟨j + 1, by omega, by rw [HTN.out, if_pos HNE.out], by go_num, ⟨below_step (below_step HBr.out HB8.out) HB9.out⟩⟩
        case measure => simp [intOf]; omega
      · have HNE := Aside0.mk he
        have e_ : (ch.file == 0) = false := beq_false he
        clear he
        go_wp2_with (fail)
        go_roundw
        case rel => exact ⟨j + 1, by omega, by rw [HTN.out, if_neg HNE.out], by go_num, ⟨below_step HBr.out HB8.out⟩⟩
        case measure => simp [intOf]; omega
    · obtain rfl : j = s.ws.length := by omega
      rw [List.take_length]
      clear hlt hj
      go_wp2_with (fail)
      go_ret
      exact ⟨rfl, HBr.out⟩
set_option maxHeartbeats 8000000 in
set_option maxRecDepth 100000 in
theorem seen.calls1 (g : Nat) (O : Nat → Prop) (s : St) (m base : Nat) (w : World) (hD : RD w base g O s) (hok : s.ok m) (hm : m ≤ 2000000000) :
    Calls Try.prog 136 #[.pointer (some ⟨g, 0, none⟩), .int .i64 1] w fun e w' => e = .returned (.string s.s1) ∧ Below w.heap.size w w' := by
  obtain ⟨x2, hb, hg, hO, hr⟩ := hD
  have hcs := hok.c
  have hns := hok.n
  have HW := Aside0.mk (show s.ws.length ≤ 2000000000 by omega)
  have HWS := Aside0.mk hok.ws
  have HL := Aside0.mk hok.l1
  have HR := Aside0.mk hr
  have HX := Aside0.mk hb
  clear hb hg hO hr hok hm hcs hns
  obtain ⟨A4, c4, e4⟩ := Kd.R_slice HR.out
  subst e4
  go_enter Try.func136, Try.ntmps136
  have q0 : w.cell? ⟨g, 1, none⟩ = some (.string s.l1) := (blk_cell HX.out 1).trans rfl
  have q2 : w.cell? ⟨g, 2, none⟩ = some (.slice A4 s.ws.length c4) := (blk_cell HX.out 2).trans rfl
  go_wp2_with (fail)
  clear q0 q2
  have HCW := Aside0.mk (Kd.R_reads' HR.out).2.2
  go_loopw [5, 19] (fun v5 v19 wr => ∃ (j : Nat), j ≤ s.ws.length ∧ v5 = .string (seenB 1 (s.ws.take j) s.l1) ∧ v19 = .int .i64 (j : Int) ∧ Aside0 (Below w.heap.size w wr)) (fun _ v19 _ => s.ws.length - (intOf v19).toNat)
  case atStart => exact ⟨0, Nat.zero_le _, rfl, rfl, ⟨Below.refl _ _⟩⟩
  case round =>
    obtain ⟨j, hj, rfl, rfl, HBr⟩ := hrel
    have hm := HW.out
    by_cases hlt : j < s.ws.length
    · have t_ : decide ((j : Int) < (s.ws.length : Int)) = true := decide_eq_true (by omega)
      obtain ⟨ad, hA, f0, f1, f2, f3⟩ := at_C HCW.out j hlt
      subst hA
      replace f0 := (HBr.out.cell (World.block_lt_of_cell? w _ f0)).trans f0
      replace f1 := (HBr.out.cell (World.block_lt_of_cell? w _ f1)).trans f1
      replace f2 := (HBr.out.cell (World.block_lt_of_cell? w _ f2)).trans f2
      replace f3 := (HBr.out.cell (World.block_lt_of_cell? w _ f3)).trans f3
      have HTN := Aside0.mk (show seenB 1 (s.ws.take (j + 1)) s.l1 = if (chgAt s.ws j).file = 1 then onB (chgAt s.ws j) (seenB 1 (s.ws.take j) s.l1) else seenB 1 (s.ws.take j) s.l1 by rw [take_succ_chg hlt]; exact seenB_snoc _ _ _ _)
      have HCH := Aside0.mk (HWS.out (chgAt s.ws j) (by unfold chgAt; rw [List.getD_eq_getElem?_getD, List.getElem?_eq_getElem hlt, Option.getD_some]; exact List.getElem_mem hlt)).2
      have HSS := Aside0.mk (size_seenB 1 (s.ws.take j) s.l1 HL.out (fun c hc => (HWS.out c (List.mem_of_mem_take hc)).2))
      generalize chgAt s.ws j = ch at f0 f1 f2 f3 HTN HCH
      generalize seenB 1 (s.ws.take j) s.l1 = sj at HTN HSS ⊢
      go_upto_region 5 with ((with_reducible refine gate_dst (N := 7) rfl ?_); refine box_event ?hg (N := 7) ?hd (cs := #[.int .i64 0, .int .i64 0, .string ⟨#[]⟩, .bool false]) (t := 181) ?hr ?_; (case hd => rfl); (case hg => rfl); (case hr => first | (go_simp; done) | (go_simp; rfl)); intro gb hgb w7 hbox hb; have HXb := Aside0.mk hbox; have HBb := Aside0.mk hb; have HGb := Aside0.mk hgb; have b0 : w7.cell? ⟨gb, 0, none⟩ = some (.int .i64 0) := (blk_cell hbox 0).trans rfl; have b1 : w7.cell? ⟨gb, 1, none⟩ = some (.int .i64 0) := (blk_cell hbox 1).trans rfl; have b2 : w7.cell? ⟨gb, 2, none⟩ = some (.string ⟨#[]⟩) := (blk_cell hbox 2).trans rfl; have b3 : w7.cell? ⟨gb, 3, none⟩ = some (.bool false) := (blk_cell hbox 3).trans rfl; have y0 := blk_frozen hbox 0; have y1 := blk_frozen hbox 1; have y2 := blk_frozen hbox 2; have y3 := blk_frozen hbox 3; clear hgb hbox hb)
      have hput : (((w7.setCell ⟨gb, 0, none⟩ (.int .i64 ch.file)).setCell ⟨gb, 1, none⟩ (.int .i64 (ch.at_ : Int))).setCell ⟨gb, 2, none⟩ (.string ch.text)).setCell ⟨gb, 3, none⟩ (.bool ch.cut) = put4 w7 gb (.int .i64 ch.file) (.int .i64 (ch.at_ : Int)) (.string ch.text) (.bool ch.cut) := rfl
      rw [hput]
      clear hput
      have HX8 := Aside0.mk (put4_blk (a := .int .i64 ch.file) (b := .int .i64 (ch.at_ : Int)) (c := .string ch.text) (d := .bool ch.cut) HXb.out)
      have HB8 := Aside0.mk (HBb.out.setCell (p := ⟨gb, 0, none⟩) (by rw [HGb.out]; exact Nat.le_refl _) (.int .i64 ch.file) |>.setCell (p := ⟨gb, 1, none⟩) (by rw [HGb.out]; exact Nat.le_refl _) (.int .i64 (ch.at_ : Int)) |>.setCell (p := ⟨gb, 2, none⟩) (by rw [HGb.out]; exact Nat.le_refl _) (.string ch.text) |>.setCell (p := ⟨gb, 3, none⟩) (by rw [HGb.out]; exact Nat.le_refl _) (.bool ch.cut))
      change Aside0 (Below wr.heap.size wr (put4 w7 gb (.int .i64 ch.file) (.int .i64 (ch.at_ : Int)) (.string ch.text) (.bool ch.cut))) at HB8
      clear b0 b1 b2 b3 y0 y1 y2 y3 f0 f1 f2 f3 HXb HBb
      generalize put4 w7 gb (.int .i64 ch.file) (.int .i64 (ch.at_ : Int)) (.string ch.text) (.bool ch.cut) = w8 at HX8 HB8 ⊢
      have q0 : w8.cell? ⟨gb, 0, none⟩ = some (.int .i64 ch.file) := (blk_cell HX8.out 0).trans rfl
      have q1 : w8.cell? ⟨gb, 1, none⟩ = some (.int .i64 (ch.at_ : Int)) := (blk_cell HX8.out 1).trans rfl
      have q2 : w8.cell? ⟨gb, 2, none⟩ = some (.string ch.text) := (blk_cell HX8.out 2).trans rfl
      have q3 : w8.cell? ⟨gb, 3, none⟩ = some (.bool ch.cut) := (blk_cell HX8.out 3).trans rfl
      by_cases he : ch.file = 1
      · have HNE := Aside0.mk he
        rw [he] at q0
        have HON := Aside0.mk (show relstoreref_act_on.f 1 (ch.at_ : Int) ch.text ch.cut sj = some (onB ch sj) by have h := act_on_is ch sj HSS.out HCH.out; rw [he] at h; exact h)
        clear he
        go_wp2_with (go_at_call 154; (refine ((relstoreref_act_on.calls 1 (ch.at_ : Int) ch.text ch.cut sj (onB ch sj) _ HON.out)).mono ?_); rintro e9 w9 ⟨rfl, hb⟩; have HB9 := Aside0.mk hb; clear hb)
        go_roundw
        case rel => exact ⟨j + 1, by omega, by rw [HTN.out, if_pos HNE.out], by go_num, ⟨below_step (below_step HBr.out HB8.out) HB9.out⟩⟩
        case measure => simp [intOf]; omega
      · have HNE := Aside0.mk he
        have e_ : (ch.file == 1) = false := beq_false he
        clear he
        go_wp2_with (fail)
        go_roundw
        case rel => exact ⟨j + 1, by omega, by rw [HTN.out, if_neg HNE.out], by go_num, ⟨below_step HBr.out HB8.out⟩⟩
        case measure => simp [intOf]; omega
    · obtain rfl : j = s.ws.length := by omega
      rw [List.take_length]
      clear hlt hj
      go_wp2_with (fail)
      go_ret
      exact ⟨rfl, HBr.out⟩
end Go.Proofs.Ythaoaaboempajaa.Disk
namespace Go.Proofs.Ythaoaaboempajaa.Disk
open Go.RowKit Go.Proofs.YthaoaaboempajaaW.PrintWords Go.Proofs.YthaoaaboempajaaW.PrintLast Go.Proofs.YthaoaaboempajaaW.PrintMore Go.Proofs.YthaoaaboempajaaX Go.Proofs.Ythaoaaboempajaa.QDiskRuns
set_option linter.unusedVariables false
set_option linter.unusedSimpArgs false
theorem in_is (f : Int) : relstoreref_in.f f 0 1 = some (rightB f 0 0) := by
  unfold relstoreref_in.f rightB
  by_cases h : f ≥ 0
  · rw [if_pos h]; congr 1; rw [decide_eq_decide]; omega
  · rw [if_neg h]; congr 1; symm; rw [decide_eq_false_iff_not]; omega
set_option maxHeartbeats 4000000 in
theorem rsize.calls (g : Nat) (O : Nat → Prop) (s : St) (f : Int) (m base : Nat) (w : World) (hD : RD w base g O s) (hok : s.ok m) (hm : m ≤ 1000000000) :
    Calls Try.prog 130 #[.pointer (some ⟨g, 0, none⟩), .int .i64 f] w fun e w' => e = .returned (.tuple #[.int .i64 (s.size f).1, .int .i64 (s.size f).2]) ∧ Below w.heap.size w w' := by
  have HD := Aside0.mk hD
  have HOK := Aside0.mk hok
  have HM := Aside0.mk hm
  obtain ⟨x2, hb, hD_⟩ := hD
  have HX := Aside0.mk hb
  clear hb hD_ hok hm
  by_cases hr : rightB f 0 0 = true
  · obtain ⟨hf, -, -, -⟩ := right_file hr
    have HRT := Aside0.mk hr
    have HF := Aside0.mk hf
    have hs : s.size f = if s.d = true then (0, 2) else (((seenOf s f).size : Int), 0) := by unfold St.size; rw [if_pos hr]
    have HS := Aside0.mk hs
    clear hr hf hs
    go_enter Try.func130, Try.ntmps130
    go_upto_region 3 with (go_at_call 105; (refine (relstoreref_in.calls f 0 1 true _ (by rw [in_is, HRT.out])).mono ?_); rintro e2 w2 ⟨rfl, hd2⟩; obtain ⟨n2, rfl⟩ := hd2.out; have HW2 := Aside0.mk hd2; clear hd2)
    have c6 : w.cell? ⟨g, 4, none⟩ = some (.bool s.d) := (blk_cell HX.out 4).trans rfl
    cases hd : s.d with
    | true =>
      rw [hd] at c6
      have HSD := Aside0.mk hd
      clear hd
      go_wp2_with (fail)
      go_ret2
      exact ⟨by rw [HS.out, if_pos HSD.out]; rfl, HW2.out.below⟩
    | false =>
      rw [hd] at c6
      have HSD := Aside0.mk (show ¬ s.d = true by rw [hd]; decide)
      clear hd
      go_upto_region 5 with (fail)
      rcases HF.out with rfl | rfl
      · go_wp2_with (go_at_call 136; (refine (seen.calls0 g O s m base _ (drawn_keepR HW2.out HD.out) HOK.out (Nat.le_trans HM.out (by decide))).mono ?_); rintro e3 w3 ⟨rfl, hb3⟩; have HB3 := Aside0.mk hb3; clear hb3)
        go_ret2
        exact ⟨by rw [HS.out, if_neg HSD.out, seenOf0]; rfl, below_step HW2.out.below HB3.out⟩
      · go_wp2_with (go_at_call 136; (refine (seen.calls1 g O s m base _ (drawn_keepR HW2.out HD.out) HOK.out (Nat.le_trans HM.out (by decide))).mono ?_); rintro e3 w3 ⟨rfl, hb3⟩; have HB3 := Aside0.mk hb3; clear hb3)
        go_ret2
        exact ⟨by rw [HS.out, if_neg HSD.out, seenOf1]; rfl, below_step HW2.out.below HB3.out⟩
  · have hr' : rightB f 0 0 = false := by simpa using hr
    have HRT := Aside0.mk hr'
    have hs : s.size f = (0, 1) := by unfold St.size; rw [if_neg hr]
    have HS := Aside0.mk hs
    clear hr hr' hs
    go_enter Try.func130, Try.ntmps130
    go_wp2_with (go_at_call 105; (refine (relstoreref_in.calls f 0 1 false _ (by rw [in_is, HRT.out])).mono ?_); rintro e2 w2 ⟨rfl, hd2⟩; have HW2 := Aside0.mk hd2; clear hd2)
    go_ret2
    exact ⟨by rw [HS.out]; rfl, HW2.out.below⟩
set_option maxHeartbeats 4000000 in
theorem rread.calls (g : Nat) (O : Nat → Prop) (s : St) (f a n : Int) (m base : Nat) (w : World) (hD : RD w base g O s) (hok : s.ok m) (hm : m ≤ 1000000000) :
    Calls Try.prog 124 #[.pointer (some ⟨g, 0, none⟩), .int .i64 f, .int .i64 a, .int .i64 n] w fun e w' => e = .returned (.tuple #[.string (s.read f a n).1, .int .i64 (s.read f a n).2]) ∧ Below w.heap.size w w' := by
  have HD := Aside0.mk hD
  have HOK := Aside0.mk hok
  have HM := Aside0.mk hm
  obtain ⟨x2, hb, hD_⟩ := hD
  have HX := Aside0.mk hb
  clear hb hD_ hok hm
  by_cases hr : rightB f a n = true
  · obtain ⟨hf, ha, hn, han⟩ := right_file hr
    have HRT := Aside0.mk hr
    have HF := Aside0.mk hf
    have hs : s.read f a n = if s.d = true then (ByteArray.empty, 2) else (if a + n > (seenOf s f).size then (ByteArray.empty, 3) else ((seenOf s f).extract a.toNat (a + n).toNat, 0)) := by unfold St.read; rw [if_pos hr]
    have HS := Aside0.mk hs
    have HAN := Aside0.mk (And.intro ha (And.intro hn han))
    clear hr hf hs ha hn han
    go_enter Try.func124, Try.ntmps124
    go_upto_region 3 with (go_at_call 165; (refine (relstoreref_fits.calls f a n true _ (by rw [fits_is, HRT.out])).mono ?_); rintro e2 w2 ⟨rfl, hd2⟩; obtain ⟨n2, rfl⟩ := hd2.out; have HW2 := Aside0.mk hd2; clear hd2)
    have c6 : w.cell? ⟨g, 4, none⟩ = some (.bool s.d) := (blk_cell HX.out 4).trans rfl
    cases hd : s.d with
    | true =>
      rw [hd] at c6
      have HSD := Aside0.mk hd
      clear hd
      go_wp2_with (fail)
      go_ret2
      exact ⟨by rw [HS.out, if_pos HSD.out]; rfl, HW2.out.below⟩
    | false =>
      rw [hd] at c6
      have HSD := Aside0.mk (show ¬ s.d = true by rw [hd]; decide)
      clear hd
      go_upto_region 5 with (fail)
      rcases HF.out with rfl | rfl
      · go_upto_region 6 with (go_at_call 136; (refine (seen.calls0 g O s m base _ (drawn_keepR HW2.out HD.out) HOK.out (Nat.le_trans HM.out (by decide))).mono ?_); rintro e3 w3 ⟨rfl, hb3⟩; have HB3 := Aside0.mk hb3; clear hb3)
        obtain ⟨ha, hn, han⟩ := HAN.out
        have w_ : IntKind.i64.wrap (a + n) = a + n := IntWalk.i64_in _ (by omega)
        by_cases hgt : a + n > s.s0.size
        · have HGT := Aside0.mk hgt
          have d_ : decide (a + n > (s.s0.size : Int)) = true := decide_eq_true hgt
          clear hgt
          go_wp2_with (fail)
          go_ret2
          exact ⟨by rw [HS.out, if_neg HSD.out, seenOf0, if_pos (show a + n > (s.s0.size : Int) by have := HGT.out; omega)]; rfl, below_step HW2.out.below HB3.out⟩
        · have HGT := Aside0.mk hgt
          have d_ : decide (a + n > (s.s0.size : Int)) = false := decide_eq_false hgt
          have h1_ : a ≤ a + n := by omega
          have h2_ : 0 ≤ a + n := by omega
          have h3_ : a + n ≤ (s.s0.size : Int) := by omega
          go_wp2_with (fail)
          go_ret2
          exact ⟨by rw [HS.out, if_neg HSD.out, seenOf0, if_neg (show ¬ (a + n > (s.s0.size : Int)) by have := HGT.out; omega)]; rfl, below_step HW2.out.below HB3.out⟩
      · go_upto_region 6 with (go_at_call 136; (refine (seen.calls1 g O s m base _ (drawn_keepR HW2.out HD.out) HOK.out (Nat.le_trans HM.out (by decide))).mono ?_); rintro e3 w3 ⟨rfl, hb3⟩; have HB3 := Aside0.mk hb3; clear hb3)
        obtain ⟨ha, hn, han⟩ := HAN.out
        have w_ : IntKind.i64.wrap (a + n) = a + n := IntWalk.i64_in _ (by omega)
        by_cases hgt : a + n > s.s1.size
        · have HGT := Aside0.mk hgt
          have d_ : decide (a + n > (s.s1.size : Int)) = true := decide_eq_true hgt
          clear hgt
          go_wp2_with (fail)
          go_ret2
          exact ⟨by rw [HS.out, if_neg HSD.out, seenOf1, if_pos (show a + n > (s.s1.size : Int) by have := HGT.out; omega)]; rfl, below_step HW2.out.below HB3.out⟩
        · have HGT := Aside0.mk hgt
          have d_ : decide (a + n > (s.s1.size : Int)) = false := decide_eq_false hgt
          have h1_ : a ≤ a + n := by omega
          have h2_ : 0 ≤ a + n := by omega
          have h3_ : a + n ≤ (s.s1.size : Int) := by omega
          go_wp2_with (fail)
          go_ret2
          exact ⟨by rw [HS.out, if_neg HSD.out, seenOf1, if_neg (show ¬ (a + n > (s.s1.size : Int)) by have := HGT.out; omega)]; rfl, below_step HW2.out.below HB3.out⟩
  · have hr' : rightB f a n = false := by simpa using hr
    have HRT := Aside0.mk hr'
    have hs : s.read f a n = (ByteArray.empty, 1) := by unfold St.read; rw [if_neg hr]
    have HS := Aside0.mk hs
    clear hr hr' hs
    go_enter Try.func124, Try.ntmps124
    go_wp2_with (go_at_call 165; (refine (relstoreref_fits.calls f a n false _ (by rw [fits_is, HRT.out])).mono ?_); rintro e2 w2 ⟨rfl, hd2⟩; have HW2 := Aside0.mk hd2; clear hd2)
    go_ret2
    exact ⟨by rw [HS.out]; rfl, HW2.out.below⟩
set_option maxHeartbeats 8000000 in
set_option maxRecDepth 100000 in
theorem rsync.calls0 (g : Nat) (O : Nat → Prop) (s : St) (m : Nat) (w0 w : World) (hB : Below w0.heap.size w0 w) (hD : RD w w0.heap.size g O s) (hok : s.ok m) (hm : m ≤ 1000000000) :
    Calls Try.prog 132 #[.pointer (some ⟨g, 0, none⟩), .int .i64 0] w fun e w' => e = .returned (.int .i64 (turn s.f s.d s.c).1) ∧
      RD w' w0.heap.size g (fun k => O k ∨ w.heap.size ≤ k) (s.synced 0) ∧ Below w0.heap.size w0 w' ∧ Kept w w' O := by
  have HOK := Aside0.mk hok.turned
  have HM := Aside0.mk (show m + 1 ≤ 1000000000 + 1 by omega)
  obtain ⟨x2, hb, hg, hO, hr⟩ := hD
  have hcs := hok.c
  have hns := hok.n
  have hfs := hok.f
  have HF := Aside0.mk (show -9223372036854775808 ≤ s.f ∧ s.f < 9223372036854775808 by omega)
  have HC := Aside0.mk (show 0 ≤ s.c ∧ s.c < 9223372036854775807 by omega)
  have HW := Aside0.mk (show s.ws.length ≤ 1000000000 by omega)
  have HB := Aside0.mk hB
  have HG := Aside0.mk hg
  have HO := Aside0.mk hO
  have HR := Aside0.mk hr
  have HX := Aside0.mk hb
  clear hB hb hg hO hr hok hm hcs hns hfs
  obtain ⟨A4, c4, e4⟩ := Kd.R_slice HR.out
  subst e4
  go_enter Try.func132, Try.ntmps132
  go_upto_region 3 with (go_at_call 105; (refine (relstoreref_in.calls 0 0 1 true _ (by rw [in_is, show rightB 0 0 0 = true by decide])).mono ?_); rintro e1 w1 ⟨rfl, hd1⟩; have HW1 := Aside0.mk hd1; clear hd1)
  have HX0 := Aside0.mk (blk_below HX.out HW1.out.below)
  have HR0 := Aside0.mk (Kd.R_below HR.out HW1.out.below)
  have HB1 := Aside0.mk (below_step HB.out HW1.out.below)
  have HK1 := Aside0.mk (Kept.of_below HW1.out.below O)
  clear HX HR HB HW1
  go_upto_region 4 with (go_at_call 169; (refine (rturn.calls g _ _ _ s.f s.d s.c w0 _ HB1.out HG.out HX0.out HF.out HC.out).mono ?_); rintro e2 w2 ⟨rfl, hx2, hb2, hk2, hs2⟩; have HX2 := Aside0.mk hx2; have HB2 := Aside0.mk hb2; have HK2 := Aside0.mk hk2; have HS2 := Aside0.mk hs2; clear hx2 hb2 hk2 hs2)
  have HR2 := Aside0.mk (Kd.R_kept HR0.out HK2.out (fun k h1 he => h1.2 he))
  have HSZ := Aside0.mk (show w.heap.size ≤ w2.heap.size by rw [HS2.out]; exact HK1.out.1)
  have HKw := Aside0.mk (Kept.then_ HK1.out HK2.out (fun k hk => .inl (by rw [hk]; exact HO.out)))
  have HD2 := Aside0.mk (show RD w2 w0.heap.size g O s.turned from ⟨_, HX2.out, HG.out, HO.out, HR2.out⟩)
  clear HX0 HR0 HB1 HK1 HK2 HS2
  rcases turn_cases s.f s.d s.c with ⟨e0, -⟩ | ⟨e0, -⟩
  · have HE := Aside0.mk e0
    rw [e0]
    clear e0
    go_upto_region 6 with (fail)
    go_region_law (first
      | (refine goes_ Try.func136 (by kernel_rfl) rfl #[.pointer (some ⟨g, 0, none⟩), .int .i64 0] (by rfl) rfl rfl (by (try simp only [List.map_toArray, List.map_cons, List.map_nil]); first | done | rfl) ?_; refine (seen.calls0 g O s.turned (m + 1) w0.heap.size _ (drawn_keepR ⟨⟨1, rfl⟩⟩ HD2.out) HOK.out (Nat.le_trans HM.out (by decide))).mono ?_; rintro e w3 ⟨rfl, hb⟩; refine ⟨_, rfl, ?_⟩; have HB3 := Aside0.mk (below_step (below_drew (Below.refl _ w2)) hb); have z3 := blk_frozen (blk_below (blk_drew HX2.out) hb) 0; have c3_ : w3.cell? ⟨g, 0, none⟩ = some (.string s.l0) := (blk_cell (blk_below (blk_drew HX2.out) hb) 0).trans rfl; clear hb))
    have HX4 := Aside0.mk (show (w3.setCell ⟨g, 0, none⟩ (.string s.turned.s0)).heap[g]? = some (.cells (rcells (.string s.turned.s0) (.string s.l1) (.slice A4 s.ws.length c4) (turn s.f s.d s.c).2.1 (turn s.f s.d s.c).2.2.1 (turn s.f s.d s.c).2.2.2) 150 (0, 0)) from blk_put (blk_below HX2.out HB3.out) 0 _ rfl)
    have HR4 := Aside0.mk (Kd.R_far (Kd.R_below HR2.out HB3.out) (p := ⟨g, 0, none⟩) (fun k hk => hk.2) (.string s.turned.s0))
    have HB4 := Aside0.mk ((below_step HB2.out HB3.out).setCell (p := ⟨g, 0, none⟩) HG.out (.string s.turned.s0))
    have HK4 := Aside0.mk ((HKw.out.below HB3.out).setCell (p := ⟨g, 0, none⟩) (.inl HO.out) (.string s.turned.s0))
    have HS4 := Aside0.mk (show w2.heap.size ≤ (w3.setCell ⟨g, 0, none⟩ (.string s.turned.s0)).heap.size by simp; exact HB3.out.size)
    clear HX2 HR2 HB2 HB3 HD2 z3 c3_
    generalize w3.setCell ⟨g, 0, none⟩ (.string s.turned.s0) = w4 at HR4 HX4 HB4 HK4 HS4 ⊢
    have q4 : w4.cell? ⟨g, 2, none⟩ = some (.slice A4 s.ws.length c4) := (blk_cell HX4.out 2).trans rfl
    have HCW := Aside0.mk (Kd.R_reads' HR4.out).2.2
    go_wp2_with (fail)
    clear q4
    go_loopw [6, 30] (fun v6 v36 wr => ∃ (j : Nat), j ≤ s.ws.length ∧ v36 = .int .i64 (j : Int) ∧ Aside0 (kC.R 181 wr w4.heap.size (fun _ => True) v6 (others 0 (s.ws.take j))) ∧ Aside0 (Below w4.heap.size w4 wr)) (fun _ v36 _ => s.ws.length - (intOf v36).toNat)
    case atStart => exact ⟨0, Nat.zero_le _, rfl, ⟨Kd.R_nil _ _ _ _ _⟩, ⟨Below.refl _ _⟩⟩
    case round =>
      obtain ⟨j, hj, rfl, HOr, HBr⟩ := hrel
      obtain ⟨A6, c6, e6⟩ := Kd.R_slice HOr.out
      subst e6
      have hm := HW.out
      by_cases hlt : j < s.ws.length
      · have t_ : decide ((j : Int) < (s.ws.length : Int)) = true := decide_eq_true (by omega)
        obtain ⟨ad, hA, f0, f1, f2, f3⟩ := at_C HCW.out j hlt
        subst hA
        replace f0 := (HBr.out.cell (World.block_lt_of_cell? w4 _ f0)).trans f0
        replace f1 := (HBr.out.cell (World.block_lt_of_cell? w4 _ f1)).trans f1
        replace f2 := (HBr.out.cell (World.block_lt_of_cell? w4 _ f2)).trans f2
        replace f3 := (HBr.out.cell (World.block_lt_of_cell? w4 _ f3)).trans f3
        have HT := Aside0.mk (take_succ_chg hlt)
        have HLN := Aside0.mk (show (others 0 (s.ws.take j)).length ≤ 1000000000 by have := List.length_filter_le (fun c : Chg => c.file != 0) (s.ws.take j); rw [List.length_take] at this; unfold others; omega)
        have HTN := Aside0.mk (show others 0 (s.ws.take (j + 1)) = if ((chgAt s.ws j).file != 0) = true then others 0 (s.ws.take j) ++ [chgAt s.ws j] else others 0 (s.ws.take j) by rw [take_succ_chg hlt]; exact others_snoc _ _ _)
        clear HT
        generalize chgAt s.ws j = ch at f0 f1 f2 f3 HTN
        generalize others 0 (s.ws.take j) = ls at HOr HLN HTN
        go_upto_region 11 with ((with_reducible refine gate_dst (N := 8) rfl ?_); refine box_event ?hg (N := 8) ?hd (cs := #[.int .i64 0, .int .i64 0, .string ⟨#[]⟩, .bool false]) (t := 181) ?hr ?_; (case hd => rfl); (case hg => rfl); (case hr => first | (go_simp; done) | (go_simp; rfl)); intro gb hgb w7 hbox hb; have HXb := Aside0.mk hbox; have HBb := Aside0.mk hb; have HGb := Aside0.mk hgb; have b0 : w7.cell? ⟨gb, 0, none⟩ = some (.int .i64 0) := (blk_cell hbox 0).trans rfl; have b1 : w7.cell? ⟨gb, 1, none⟩ = some (.int .i64 0) := (blk_cell hbox 1).trans rfl; have b2 : w7.cell? ⟨gb, 2, none⟩ = some (.string ⟨#[]⟩) := (blk_cell hbox 2).trans rfl; have b3 : w7.cell? ⟨gb, 3, none⟩ = some (.bool false) := (blk_cell hbox 3).trans rfl; have y0 := blk_frozen hbox 0; have y1 := blk_frozen hbox 1; have y2 := blk_frozen hbox 2; have y3 := blk_frozen hbox 3; clear hgb hbox hb)
        have hput : (((w7.setCell ⟨gb, 0, none⟩ (.int .i64 ch.file)).setCell ⟨gb, 1, none⟩ (.int .i64 (ch.at_ : Int))).setCell ⟨gb, 2, none⟩ (.string ch.text)).setCell ⟨gb, 3, none⟩ (.bool ch.cut) = put4 w7 gb (.int .i64 ch.file) (.int .i64 (ch.at_ : Int)) (.string ch.text) (.bool ch.cut) := rfl
        rw [hput]
        clear hput
        have HX8 := Aside0.mk (put4_blk (a := .int .i64 ch.file) (b := .int .i64 (ch.at_ : Int)) (c := .string ch.text) (d := .bool ch.cut) HXb.out)
        have HB8 := Aside0.mk (HBb.out.setCell (p := ⟨gb, 0, none⟩) (by rw [HGb.out]; exact Nat.le_refl _) (.int .i64 ch.file) |>.setCell (p := ⟨gb, 1, none⟩) (by rw [HGb.out]; exact Nat.le_refl _) (.int .i64 (ch.at_ : Int)) |>.setCell (p := ⟨gb, 2, none⟩) (by rw [HGb.out]; exact Nat.le_refl _) (.string ch.text) |>.setCell (p := ⟨gb, 3, none⟩) (by rw [HGb.out]; exact Nat.le_refl _) (.bool ch.cut))
        change Aside0 (Below wr.heap.size wr (put4 w7 gb (.int .i64 ch.file) (.int .i64 (ch.at_ : Int)) (.string ch.text) (.bool ch.cut))) at HB8
        clear b0 b1 b2 b3 y0 y1 y2 y3 f0 f1 f2 f3 HXb HBb
        generalize put4 w7 gb (.int .i64 ch.file) (.int .i64 (ch.at_ : Int)) (.string ch.text) (.bool ch.cut) = w8 at HX8 HB8 ⊢
        have q0 : w8.cell? ⟨gb, 0, none⟩ = some (.int .i64 ch.file) := (blk_cell HX8.out 0).trans rfl
        have q1 : w8.cell? ⟨gb, 1, none⟩ = some (.int .i64 (ch.at_ : Int)) := (blk_cell HX8.out 1).trans rfl
        have q2 : w8.cell? ⟨gb, 2, none⟩ = some (.string ch.text) := (blk_cell HX8.out 2).trans rfl
        have q3 : w8.cell? ⟨gb, 3, none⟩ = some (.bool ch.cut) := (blk_cell HX8.out 3).trans rfl
        by_cases hne : (ch.file != 0) = true
        · have HNE := Aside0.mk hne
          have hls := HLN.out
          go_wp2_with (first
            | ((with_reducible refine gate_builtin (b := .append) (xs := #[.tmp 38, .tmp 40]) rfl ?_); at_builtin; refine Kd.R_append kC (w0 := w4) w4.heap.size rfl (.tmp 38) (.tmp 40) 148 181 (.agg #[.int .i64 0, .int .i64 0, .string ⟨#[]⟩, .bool false]) 40 rfl Try.underlying148 info181 rfl (by decide) (by omega) (.slice A6 ls.length c6) ls ch _ (fun _ => True) (fun _ => False) rfl rfl ?aP (fun _ hk => hk.elim) ?aF ?aO ?aB ?aS ?aL ?_; (case aP => exact kC_M ch); (case aB => exact below_step HBr.out HB8.out); (case aF => exact (fun _ _ => trivial)); (case aO => exact Kd.R_below HOr.out HB8.out); (case aS => exact below_size (below_step HBr.out HB8.out)); (case aL => omega); intro v1 w9 ho hb hg hat; have HO9 := Aside0.mk ho; have HB9 := Aside0.mk hb; clear ho hb hg hat))
          go_roundw
          case rel => exact ⟨j + 1, by omega, by go_num, ⟨by rw [HTN.out, if_pos HNE.out]; exact HO9.out⟩, HB9⟩
          case measure => simp [intOf]; omega
        · have hne' : (ch.file != 0) = false := by simpa using hne
          have HNE := Aside0.mk hne
          clear hne
          go_wp2_with (fail)
          go_roundw
          case rel => exact ⟨j + 1, by omega, by go_num, ⟨by rw [HTN.out, if_neg HNE.out]; exact Kd.R_below HOr.out HB8.out⟩, ⟨below_step HBr.out HB8.out⟩⟩
          case measure => simp [intOf]; omega
      · obtain rfl : j = s.ws.length := by omega
        rw [List.take_length] at HOr ⊢
        clear hlt hj
        have q4 : wr.cell? ⟨g, 2, none⟩ = some (.slice A4 s.ws.length c4) := (blk_cell (blk_below HX4.out HBr.out) 2).trans rfl
        have z4 := blk_frozen (blk_below HX4.out HBr.out) 2
        go_wp2_with (fail)
        go_ret
        have HN4 := Aside0.mk (Kd.R_lower (Kd.R_mono (Kd.R_bound HOr.out) (ok' := fun k => (O k ∨ w.heap.size ≤ k) ∧ k ≠ g) (fun k hk => ⟨.inr (Nat.le_trans (Nat.le_trans HSZ.out HS4.out) hk.2.1), fun he => absurd (blk_lt HX4.out) (Nat.not_lt.mpr (by rw [← he]; exact hk.2.1))⟩)) (below_size HB4.out))
        refine ⟨by rw [HE.out]; rfl, ?_, (below_then HB4.out (below_size HB4.out) HBr.out).setCell (p := ⟨g, 2, none⟩) HG.out _, (HK4.out.below HBr.out).setCell (p := ⟨g, 2, none⟩) (.inl HO.out) _⟩
        unfold St.synced
        rw [if_pos HE.out]
        exact ⟨_, blk_put (blk_below HX4.out HBr.out) 2 _ rfl, HG.out, .inl HO.out, Kd.R_far HN4.out (fun k hk => hk.2) _⟩
  · have HE := Aside0.mk e0
    rw [e0]
    clear e0
    go_wp2_with (fail)
    go_ret
    refine ⟨by rw [HE.out]; rfl, RD.mono ?_ (fun k hk => .inl hk), HB2.out, HKw.out⟩
    unfold St.synced
    rw [if_neg (by rw [HE.out]; decide)]
    exact HD2.out
set_option maxHeartbeats 8000000 in
set_option maxRecDepth 100000 in
theorem rsync.calls1 (g : Nat) (O : Nat → Prop) (s : St) (m : Nat) (w0 w : World) (hB : Below w0.heap.size w0 w) (hD : RD w w0.heap.size g O s) (hok : s.ok m) (hm : m ≤ 1000000000) :
    Calls Try.prog 132 #[.pointer (some ⟨g, 0, none⟩), .int .i64 1] w fun e w' => e = .returned (.int .i64 (turn s.f s.d s.c).1) ∧
      RD w' w0.heap.size g (fun k => O k ∨ w.heap.size ≤ k) (s.synced 1) ∧ Below w0.heap.size w0 w' ∧ Kept w w' O := by
  have HOK := Aside0.mk hok.turned
  have HM := Aside0.mk (show m + 1 ≤ 1000000000 + 1 by omega)
  obtain ⟨x2, hb, hg, hO, hr⟩ := hD
  have hcs := hok.c
  have hns := hok.n
  have hfs := hok.f
  have HF := Aside0.mk (show -9223372036854775808 ≤ s.f ∧ s.f < 9223372036854775808 by omega)
  have HC := Aside0.mk (show 0 ≤ s.c ∧ s.c < 9223372036854775807 by omega)
  have HW := Aside0.mk (show s.ws.length ≤ 1000000000 by omega)
  have HB := Aside0.mk hB
  have HG := Aside0.mk hg
  have HO := Aside0.mk hO
  have HR := Aside0.mk hr
  have HX := Aside0.mk hb
  clear hB hb hg hO hr hok hm hcs hns hfs
  obtain ⟨A4, c4, e4⟩ := Kd.R_slice HR.out
  subst e4
  go_enter Try.func132, Try.ntmps132
  go_upto_region 3 with (go_at_call 105; (refine (relstoreref_in.calls 1 0 1 true _ (by rw [in_is, show rightB 1 0 0 = true by decide])).mono ?_); rintro e1 w1 ⟨rfl, hd1⟩; have HW1 := Aside0.mk hd1; clear hd1)
  have HX0 := Aside0.mk (blk_below HX.out HW1.out.below)
  have HR0 := Aside0.mk (Kd.R_below HR.out HW1.out.below)
  have HB1 := Aside0.mk (below_step HB.out HW1.out.below)
  have HK1 := Aside0.mk (Kept.of_below HW1.out.below O)
  clear HX HR HB HW1
  go_upto_region 4 with (go_at_call 169; (refine (rturn.calls g _ _ _ s.f s.d s.c w0 _ HB1.out HG.out HX0.out HF.out HC.out).mono ?_); rintro e2 w2 ⟨rfl, hx2, hb2, hk2, hs2⟩; have HX2 := Aside0.mk hx2; have HB2 := Aside0.mk hb2; have HK2 := Aside0.mk hk2; have HS2 := Aside0.mk hs2; clear hx2 hb2 hk2 hs2)
  have HR2 := Aside0.mk (Kd.R_kept HR0.out HK2.out (fun k h1 he => h1.2 he))
  have HSZ := Aside0.mk (show w.heap.size ≤ w2.heap.size by rw [HS2.out]; exact HK1.out.1)
  have HKw := Aside0.mk (Kept.then_ HK1.out HK2.out (fun k hk => .inl (by rw [hk]; exact HO.out)))
  have HD2 := Aside0.mk (show RD w2 w0.heap.size g O s.turned from ⟨_, HX2.out, HG.out, HO.out, HR2.out⟩)
  clear HX0 HR0 HB1 HK1 HK2 HS2
  rcases turn_cases s.f s.d s.c with ⟨e0, -⟩ | ⟨e0, -⟩
  · have HE := Aside0.mk e0
    rw [e0]
    clear e0
    go_upto_region 6 with (fail)
    go_region_law (first
      | (refine goes_ Try.func136 (by kernel_rfl) rfl #[.pointer (some ⟨g, 0, none⟩), .int .i64 1] (by rfl) rfl rfl (by (try simp only [List.map_toArray, List.map_cons, List.map_nil]); first | done | rfl) ?_; refine (seen.calls1 g O s.turned (m + 1) w0.heap.size _ (drawn_keepR ⟨⟨1, rfl⟩⟩ HD2.out) HOK.out (Nat.le_trans HM.out (by decide))).mono ?_; rintro e w3 ⟨rfl, hb⟩; refine ⟨_, rfl, ?_⟩; have HB3 := Aside0.mk (below_step (below_drew (Below.refl _ w2)) hb); have z3 := blk_frozen (blk_below (blk_drew HX2.out) hb) 1; have c3_ : w3.cell? ⟨g, 1, none⟩ = some (.string s.l1) := (blk_cell (blk_below (blk_drew HX2.out) hb) 1).trans rfl; clear hb))
    have HX4 := Aside0.mk (show (w3.setCell ⟨g, 1, none⟩ (.string s.turned.s1)).heap[g]? = some (.cells (rcells (.string s.l0) (.string s.turned.s1) (.slice A4 s.ws.length c4) (turn s.f s.d s.c).2.1 (turn s.f s.d s.c).2.2.1 (turn s.f s.d s.c).2.2.2) 150 (0, 0)) from blk_put (blk_below HX2.out HB3.out) 1 _ rfl)
    have HR4 := Aside0.mk (Kd.R_far (Kd.R_below HR2.out HB3.out) (p := ⟨g, 1, none⟩) (fun k hk => hk.2) (.string s.turned.s1))
    have HB4 := Aside0.mk ((below_step HB2.out HB3.out).setCell (p := ⟨g, 1, none⟩) HG.out (.string s.turned.s1))
    have HK4 := Aside0.mk ((HKw.out.below HB3.out).setCell (p := ⟨g, 1, none⟩) (.inl HO.out) (.string s.turned.s1))
    have HS4 := Aside0.mk (show w2.heap.size ≤ (w3.setCell ⟨g, 1, none⟩ (.string s.turned.s1)).heap.size by simp; exact HB3.out.size)
    clear HX2 HR2 HB2 HB3 HD2 z3 c3_
    generalize w3.setCell ⟨g, 1, none⟩ (.string s.turned.s1) = w4 at HR4 HX4 HB4 HK4 HS4 ⊢
    have q4 : w4.cell? ⟨g, 2, none⟩ = some (.slice A4 s.ws.length c4) := (blk_cell HX4.out 2).trans rfl
    have HCW := Aside0.mk (Kd.R_reads' HR4.out).2.2
    go_wp2_with (fail)
    clear q4
    go_loopw [6, 30] (fun v6 v36 wr => ∃ (j : Nat), j ≤ s.ws.length ∧ v36 = .int .i64 (j : Int) ∧ Aside0 (kC.R 181 wr w4.heap.size (fun _ => True) v6 (others 1 (s.ws.take j))) ∧ Aside0 (Below w4.heap.size w4 wr)) (fun _ v36 _ => s.ws.length - (intOf v36).toNat)
    case atStart => exact ⟨0, Nat.zero_le _, rfl, ⟨Kd.R_nil _ _ _ _ _⟩, ⟨Below.refl _ _⟩⟩
    case round =>
      obtain ⟨j, hj, rfl, HOr, HBr⟩ := hrel
      obtain ⟨A6, c6, e6⟩ := Kd.R_slice HOr.out
      subst e6
      have hm := HW.out
      by_cases hlt : j < s.ws.length
      · have t_ : decide ((j : Int) < (s.ws.length : Int)) = true := decide_eq_true (by omega)
        obtain ⟨ad, hA, f0, f1, f2, f3⟩ := at_C HCW.out j hlt
        subst hA
        replace f0 := (HBr.out.cell (World.block_lt_of_cell? w4 _ f0)).trans f0
        replace f1 := (HBr.out.cell (World.block_lt_of_cell? w4 _ f1)).trans f1
        replace f2 := (HBr.out.cell (World.block_lt_of_cell? w4 _ f2)).trans f2
        replace f3 := (HBr.out.cell (World.block_lt_of_cell? w4 _ f3)).trans f3
        have HT := Aside0.mk (take_succ_chg hlt)
        have HLN := Aside0.mk (show (others 1 (s.ws.take j)).length ≤ 1000000000 by have := List.length_filter_le (fun c : Chg => c.file != 1) (s.ws.take j); rw [List.length_take] at this; unfold others; omega)
        have HTN := Aside0.mk (show others 1 (s.ws.take (j + 1)) = if ((chgAt s.ws j).file != 1) = true then others 1 (s.ws.take j) ++ [chgAt s.ws j] else others 1 (s.ws.take j) by rw [take_succ_chg hlt]; exact others_snoc _ _ _)
        clear HT
        generalize chgAt s.ws j = ch at f0 f1 f2 f3 HTN
        generalize others 1 (s.ws.take j) = ls at HOr HLN HTN
        go_upto_region 11 with ((with_reducible refine gate_dst (N := 8) rfl ?_); refine box_event ?hg (N := 8) ?hd (cs := #[.int .i64 0, .int .i64 0, .string ⟨#[]⟩, .bool false]) (t := 181) ?hr ?_; (case hd => rfl); (case hg => rfl); (case hr => first | (go_simp; done) | (go_simp; rfl)); intro gb hgb w7 hbox hb; have HXb := Aside0.mk hbox; have HBb := Aside0.mk hb; have HGb := Aside0.mk hgb; have b0 : w7.cell? ⟨gb, 0, none⟩ = some (.int .i64 0) := (blk_cell hbox 0).trans rfl; have b1 : w7.cell? ⟨gb, 1, none⟩ = some (.int .i64 0) := (blk_cell hbox 1).trans rfl; have b2 : w7.cell? ⟨gb, 2, none⟩ = some (.string ⟨#[]⟩) := (blk_cell hbox 2).trans rfl; have b3 : w7.cell? ⟨gb, 3, none⟩ = some (.bool false) := (blk_cell hbox 3).trans rfl; have y0 := blk_frozen hbox 0; have y1 := blk_frozen hbox 1; have y2 := blk_frozen hbox 2; have y3 := blk_frozen hbox 3; clear hgb hbox hb)
        have hput : (((w7.setCell ⟨gb, 0, none⟩ (.int .i64 ch.file)).setCell ⟨gb, 1, none⟩ (.int .i64 (ch.at_ : Int))).setCell ⟨gb, 2, none⟩ (.string ch.text)).setCell ⟨gb, 3, none⟩ (.bool ch.cut) = put4 w7 gb (.int .i64 ch.file) (.int .i64 (ch.at_ : Int)) (.string ch.text) (.bool ch.cut) := rfl
        rw [hput]
        clear hput
        have HX8 := Aside0.mk (put4_blk (a := .int .i64 ch.file) (b := .int .i64 (ch.at_ : Int)) (c := .string ch.text) (d := .bool ch.cut) HXb.out)
        have HB8 := Aside0.mk (HBb.out.setCell (p := ⟨gb, 0, none⟩) (by rw [HGb.out]; exact Nat.le_refl _) (.int .i64 ch.file) |>.setCell (p := ⟨gb, 1, none⟩) (by rw [HGb.out]; exact Nat.le_refl _) (.int .i64 (ch.at_ : Int)) |>.setCell (p := ⟨gb, 2, none⟩) (by rw [HGb.out]; exact Nat.le_refl _) (.string ch.text) |>.setCell (p := ⟨gb, 3, none⟩) (by rw [HGb.out]; exact Nat.le_refl _) (.bool ch.cut))
        change Aside0 (Below wr.heap.size wr (put4 w7 gb (.int .i64 ch.file) (.int .i64 (ch.at_ : Int)) (.string ch.text) (.bool ch.cut))) at HB8
        clear b0 b1 b2 b3 y0 y1 y2 y3 f0 f1 f2 f3 HXb HBb
        generalize put4 w7 gb (.int .i64 ch.file) (.int .i64 (ch.at_ : Int)) (.string ch.text) (.bool ch.cut) = w8 at HX8 HB8 ⊢
        have q0 : w8.cell? ⟨gb, 0, none⟩ = some (.int .i64 ch.file) := (blk_cell HX8.out 0).trans rfl
        have q1 : w8.cell? ⟨gb, 1, none⟩ = some (.int .i64 (ch.at_ : Int)) := (blk_cell HX8.out 1).trans rfl
        have q2 : w8.cell? ⟨gb, 2, none⟩ = some (.string ch.text) := (blk_cell HX8.out 2).trans rfl
        have q3 : w8.cell? ⟨gb, 3, none⟩ = some (.bool ch.cut) := (blk_cell HX8.out 3).trans rfl
        by_cases hne : (ch.file != 1) = true
        · have HNE := Aside0.mk hne
          have hls := HLN.out
          go_wp2_with (first
            | ((with_reducible refine gate_builtin (b := .append) (xs := #[.tmp 38, .tmp 40]) rfl ?_); at_builtin; refine Kd.R_append kC (w0 := w4) w4.heap.size rfl (.tmp 38) (.tmp 40) 148 181 (.agg #[.int .i64 0, .int .i64 0, .string ⟨#[]⟩, .bool false]) 40 rfl Try.underlying148 info181 rfl (by decide) (by omega) (.slice A6 ls.length c6) ls ch _ (fun _ => True) (fun _ => False) rfl rfl ?aP (fun _ hk => hk.elim) ?aF ?aO ?aB ?aS ?aL ?_; (case aP => exact kC_M ch); (case aB => exact below_step HBr.out HB8.out); (case aF => exact (fun _ _ => trivial)); (case aO => exact Kd.R_below HOr.out HB8.out); (case aS => exact below_size (below_step HBr.out HB8.out)); (case aL => omega); intro v1 w9 ho hb hg hat; have HO9 := Aside0.mk ho; have HB9 := Aside0.mk hb; clear ho hb hg hat))
          go_roundw
          case rel => exact ⟨j + 1, by omega, by go_num, ⟨by rw [HTN.out, if_pos HNE.out]; exact HO9.out⟩, HB9⟩
          case measure => simp [intOf]; omega
        · have hne' : (ch.file != 1) = false := by simpa using hne
          have HNE := Aside0.mk hne
          clear hne
          go_wp2_with (fail)
          go_roundw
          case rel => exact ⟨j + 1, by omega, by go_num, ⟨by rw [HTN.out, if_neg HNE.out]; exact Kd.R_below HOr.out HB8.out⟩, ⟨below_step HBr.out HB8.out⟩⟩
          case measure => simp [intOf]; omega
      · obtain rfl : j = s.ws.length := by omega
        rw [List.take_length] at HOr ⊢
        clear hlt hj
        have q4 : wr.cell? ⟨g, 2, none⟩ = some (.slice A4 s.ws.length c4) := (blk_cell (blk_below HX4.out HBr.out) 2).trans rfl
        have z4 := blk_frozen (blk_below HX4.out HBr.out) 2
        go_wp2_with (fail)
        go_ret
        have HN4 := Aside0.mk (Kd.R_lower (Kd.R_mono (Kd.R_bound HOr.out) (ok' := fun k => (O k ∨ w.heap.size ≤ k) ∧ k ≠ g) (fun k hk => ⟨.inr (Nat.le_trans (Nat.le_trans HSZ.out HS4.out) hk.2.1), fun he => absurd (blk_lt HX4.out) (Nat.not_lt.mpr (by rw [← he]; exact hk.2.1))⟩)) (below_size HB4.out))
        refine ⟨by rw [HE.out]; rfl, ?_, (below_then HB4.out (below_size HB4.out) HBr.out).setCell (p := ⟨g, 2, none⟩) HG.out _, (HK4.out.below HBr.out).setCell (p := ⟨g, 2, none⟩) (.inl HO.out) _⟩
        unfold St.synced
        rw [if_pos HE.out]
        exact ⟨_, blk_put (blk_below HX4.out HBr.out) 2 _ rfl, HG.out, .inl HO.out, Kd.R_far HN4.out (fun k hk => hk.2) _⟩
  · have HE := Aside0.mk e0
    rw [e0]
    clear e0
    go_wp2_with (fail)
    go_ret
    refine ⟨by rw [HE.out]; rfl, RD.mono ?_ (fun k hk => .inl hk), HB2.out, HKw.out⟩
    unfold St.synced
    rw [if_neg (by rw [HE.out]; decide)]
    exact HD2.out
end Go.Proofs.Ythaoaaboempajaa.Disk
namespace Go.Proofs.Ythaoaaboempajaa.Disk
open Go.RowKit Go.Proofs.YthaoaaboempajaaW.PrintWords Go.Proofs.YthaoaaboempajaaW.PrintLast Go.Proofs.YthaoaaboempajaaW.PrintMore Go.Proofs.YthaoaaboempajaaX Go.Proofs.Ythaoaaboempajaa.QDiskRuns
set_option linter.unusedVariables false
set_option linter.unusedSimpArgs false
set_option maxHeartbeats 8000000 in
set_option maxRecDepth 100000 in
theorem rcrash.calls (g : Nat) (O : Nat → Prop) (s : St) (m : Nat) (Ak : Option Addr) (ck : Nat) (keep : List Int) (w0 w : World) (hB : Below w0.heap.size w0 w) (hD : RD w w0.heap.size g O s) (hok : s.ok m) (hm : m ≤ 1000000000)
    (hk : ∀ W', Kept w W' O → (Kd.int .i64).C W' Ak keep.length keep) (hkl : keep.length ≤ 9223372036854775807) :
    Calls Try.prog 85 #[.pointer (some ⟨g, 0, none⟩), .slice Ak keep.length ck] w fun e w' => e = .returned (.tuple #[]) ∧
      RD w' w0.heap.size g (fun k => O k ∨ w.heap.size ≤ k) (s.crashed keep) ∧ Below w0.heap.size w0 w' ∧ Kept w w' O := by
  obtain ⟨x2, hb, hg, hO, hr⟩ := hD
  have hcs := hok.c
  have hns := hok.n
  have HW := Aside0.mk (show s.ws.length ≤ 1000000000 by omega)
  have HWS := Aside0.mk hok.ws
  have HL0 := Aside0.mk hok.l0
  have HL1 := Aside0.mk hok.l1
  have HB := Aside0.mk hB
  have HG := Aside0.mk hg
  have HO := Aside0.mk hO
  have HR := Aside0.mk (Kd.R_mono (Kd.R_bound hr) (ok' := fun k => (O k ∧ k ≠ g) ∧ k < w.heap.size) (fun k h => ⟨h.1, h.2.2.1⟩))
  have HX := Aside0.mk hb
  have HKP := Aside0.mk hk
  have HKL := Aside0.mk hkl
  clear hB hb hg hO hr hok hm hcs hns hk hkl
  obtain ⟨A4, c4, e4⟩ := Kd.R_slice HR.out
  subst e4
  go_enter Try.func85, Try.ntmps85
  have q4 : w.cell? ⟨g, 2, none⟩ = some (.slice A4 s.ws.length c4) := (blk_cell HX.out 2).trans rfl
  go_wp2_with (fail)
  clear q4
  go_loopw [12] (fun v12 wr => ∃ (j : Nat), j ≤ s.ws.length ∧ v12 = .int .i64 (j : Int) ∧ Aside0 (wr.heap[g]? = some (.cells (rcells (.string (crashB 0 keep 0 (s.ws.take j) s.l0)) (.string (crashB 1 keep 0 (s.ws.take j) s.l1)) (.slice A4 s.ws.length c4) s.f s.d s.c) 150 (0, 0))) ∧ Aside0 (kC.R 181 wr w0.heap.size (fun k => (O k ∧ k ≠ g) ∧ k < w.heap.size) (.slice A4 s.ws.length c4) s.ws) ∧ Aside0 (Below w0.heap.size w0 wr) ∧ Aside0 (Kept w wr O)) (fun v12 _ => s.ws.length - (intOf v12).toNat)
  case atStart => exact ⟨0, Nat.zero_le _, rfl, HX, HR, HB, ⟨Kept.refl _ _⟩⟩
  case round =>
    clear HB HR HX
    obtain ⟨j, hj, rfl, HXr, HRr, HBr, HKr⟩ := hrel
    have hm := HW.out
    by_cases hlt : j < s.ws.length
    · have t_ : decide ((j : Int) < (s.ws.length : Int)) = true := decide_eq_true (by omega)
      obtain ⟨ad, hA, f0, f1, f2, f3⟩ := at_C (Kd.R_reads' HRr.out).2.2 j hlt
      subst hA
      have HC0 := Aside0.mk (crashB_step 0 keep hlt s.l0)
      have HC1 := Aside0.mk (crashB_step 1 keep hlt s.l1)
      have HCH := Aside0.mk (HWS.out (chgAt s.ws j) (by unfold chgAt; rw [List.getD_eq_getElem?_getD, List.getElem?_eq_getElem hlt, Option.getD_some]; exact List.getElem_mem hlt))
      have HS0 := Aside0.mk (size_crashB 0 keep (s.ws.take j) 0 s.l0 HL0.out (fun c hc => (HWS.out c (List.mem_of_mem_take hc)).2))
      have HS1 := Aside0.mk (size_crashB 1 keep (s.ws.take j) 0 s.l1 HL1.out (fun c hc => (HWS.out c (List.mem_of_mem_take hc)).2))
      generalize chgAt s.ws j = ch at f0 f1 f2 f3 HC0 HC1 HCH
      generalize crashB 0 keep 0 (s.ws.take j) s.l0 = m0 at HXr HC0 HS0
      generalize crashB 1 keep 0 (s.ws.take j) s.l1 = m1 at HXr HC1 HS1
      go_upto_region 3 with ((with_reducible refine gate_dst (N := 5) rfl ?_); refine box_event ?hg (N := 5) ?hd (cs := #[.int .i64 0, .int .i64 0, .string ⟨#[]⟩, .bool false]) (t := 181) ?hr ?_; (case hd => rfl); (case hg => rfl); (case hr => first | (go_simp; done) | (go_simp; rfl)); intro gb hgb w7 hbox hb; have HXb := Aside0.mk hbox; have HBb := Aside0.mk hb; have HGb := Aside0.mk hgb; have b0 : w7.cell? ⟨gb, 0, none⟩ = some (.int .i64 0) := (blk_cell hbox 0).trans rfl; have b1 : w7.cell? ⟨gb, 1, none⟩ = some (.int .i64 0) := (blk_cell hbox 1).trans rfl; have b2 : w7.cell? ⟨gb, 2, none⟩ = some (.string ⟨#[]⟩) := (blk_cell hbox 2).trans rfl; have b3 : w7.cell? ⟨gb, 3, none⟩ = some (.bool false) := (blk_cell hbox 3).trans rfl; have y0 := blk_frozen hbox 0; have y1 := blk_frozen hbox 1; have y2 := blk_frozen hbox 2; have y3 := blk_frozen hbox 3; clear hgb hbox hb)
      have hput : (((w7.setCell ⟨gb, 0, none⟩ (.int .i64 ch.file)).setCell ⟨gb, 1, none⟩ (.int .i64 (ch.at_ : Int))).setCell ⟨gb, 2, none⟩ (.string ch.text)).setCell ⟨gb, 3, none⟩ (.bool ch.cut) = put4 w7 gb (.int .i64 ch.file) (.int .i64 (ch.at_ : Int)) (.string ch.text) (.bool ch.cut) := rfl
      rw [hput]
      clear hput
      have HX8 := Aside0.mk (put4_blk (a := .int .i64 ch.file) (b := .int .i64 (ch.at_ : Int)) (c := .string ch.text) (d := .bool ch.cut) HXb.out)
      have HB8 := Aside0.mk (HBb.out.setCell (p := ⟨gb, 0, none⟩) (by rw [HGb.out]; exact Nat.le_refl _) (.int .i64 ch.file) |>.setCell (p := ⟨gb, 1, none⟩) (by rw [HGb.out]; exact Nat.le_refl _) (.int .i64 (ch.at_ : Int)) |>.setCell (p := ⟨gb, 2, none⟩) (by rw [HGb.out]; exact Nat.le_refl _) (.string ch.text) |>.setCell (p := ⟨gb, 3, none⟩) (by rw [HGb.out]; exact Nat.le_refl _) (.bool ch.cut))
      change Aside0 (Below wr.heap.size wr (put4 w7 gb (.int .i64 ch.file) (.int .i64 (ch.at_ : Int)) (.string ch.text) (.bool ch.cut))) at HB8
      clear b0 b1 b2 b3 y0 y1 y2 y3 f0 f1 f2 f3 HXb HBb
      generalize put4 w7 gb (.int .i64 ch.file) (.int .i64 (ch.at_ : Int)) (.string ch.text) (.bool ch.cut) = w8 at HX8 HB8 ⊢
      have q0 : w8.cell? ⟨gb, 0, none⟩ = some (.int .i64 ch.file) := (blk_cell HX8.out 0).trans rfl
      have q1 : w8.cell? ⟨gb, 1, none⟩ = some (.int .i64 (ch.at_ : Int)) := (blk_cell HX8.out 1).trans rfl
      have q2 : w8.cell? ⟨gb, 2, none⟩ = some (.string ch.text) := (blk_cell HX8.out 2).trans rfl
      have q3 : w8.cell? ⟨gb, 3, none⟩ = some (.bool ch.cut) := (blk_cell HX8.out 3).trans rfl
      have HKb := Aside0.mk (HKr.out.below HB8.out)
      have HKC := Aside0.mk (HKP.out _ HKb.out)
      have HHW := Aside0.mk (show ∃ h, h = howOf keep j from ⟨_, rfl⟩)
      clear q0 q1 q2 q3
      go_upto_if 19 with (fail)
      go_cut [6] from 19 to 26 (fun v6 wx => v6 = .int .i64 (howOf keep j) ∧ w8 = wx)
      case first =>
        by_cases hk0 : keep.length = 0
        · have e_ : howOf keep j = 0 := how_none hk0
          have HEE := Aside0.mk e_
          have g_ : decide ((keep.length : Int) > 0) = false := decide_eq_false (by omega)
          have g2_ : ¬ 0 < keep.length := by omega
          have g3_ : decide (0 < keep.length) = false := decide_eq_false g2_
          have g4_ : ¬ (0 : Int) < (keep.length : Int) := by omega
          clear hk0 e_
          go_wp2_with (fail)
          go_meet
          case rel => exact ⟨by rw [HEE.out], rfl⟩
        · have e_ : howOf keep j = keep.getD (j % keep.length) 0 := how_keep (by omega)
          have HEE := Aside0.mk e_
          have g_ : decide ((keep.length : Int) > 0) = true := decide_eq_true (by omega)
          have g2_ : 0 < keep.length := by omega
          have g3_ : decide (0 < keep.length) = true := decide_eq_true g2_
          have hlt2 : j % keep.length < keep.length := Nat.mod_lt _ (by omega)
          obtain ⟨adk, hAk, fk⟩ := at_I HKC.out (j % keep.length) hlt2
          subst hAk
          have m_ : Int.tmod (j : Int) (keep.length : Int) = ((j % keep.length : Nat) : Int) := (Int.ofNat_tmod j keep.length).symm
          have hkl := HKL.out
          have m0_ : ¬ ((keep.length : Int) = 0) := by omega
          have m1_ : ((keep.length : Int) == 0) = false := by simpa using m0_
          have m2_ : IntKind.i64.wrap ((j % keep.length : Nat) : Int) = ((j % keep.length : Nat) : Int) := IntWalk.i64_in _ (by omega)
          generalize j % keep.length = jk at *
          generalize keep.getD jk 0 = kv at fk HEE
          clear hk0 e_
          go_wp2_with (fail)
          go_meet
          case rel => exact ⟨by rw [HEE.out], rfl⟩
      case rest =>
        obtain ⟨rfl, hw⟩ := hcut
        subst hw
        clear HHW HKC
        have HRn := Aside0.mk (Kd.R_below HRr.out HB8.out)
        have HXn := Aside0.mk (blk_below HXr.out HB8.out)
        have HNEg := Aside0.mk (show gb ≠ g by rw [HGb.out]; exact Nat.ne_of_gt (blk_lt HXr.out))
        have HGw := Aside0.mk (show w0.heap.size ≤ gb by rw [HGb.out]; exact HBr.out.size)
        have HGk := Aside0.mk (show w.heap.size ≤ gb by rw [HGb.out]; exact HKr.out.1)
        have HBn := Aside0.mk (below_step HBr.out HB8.out)
        clear HB8 HRr HXr HBr HKr
        generalize howOf keep j = h at HC0 HC1 ⊢
        go_upto_region 6 with (fail)
        go_cut [32] from 27 to 32 (fun v32 wx => v32 = .bool (decide (¬ (h = 1 ∨ h = 2))) ∧ w8 = wx)
        case first =>
          by_cases h1 : h = 1
          · subst h1
            go_wp2_with (fail)
            go_meet
            case rel => exact ⟨by simp, rfl⟩
          · by_cases h2 : h = 2
            · subst h2
              go_wp2_with (fail)
              go_meet
              case rel => exact ⟨by simp, rfl⟩
            · have e1 : (h == 1) = false := beq_false h1
              have e2 : (h == 2) = false := beq_false h2
              have e3 : (h != 1) = true := by simp [bne, e1]
              have e4 : (h != 2) = true := by simp [bne, e2]
              have HN := Aside0.mk (show ¬ (h = 1 ∨ h = 2) from fun hh => hh.elim h1 h2)
              clear h1 h2
              go_wp2_with (fail)
              go_meet
              case rel => exact ⟨by rw [decide_eq_true HN.out], rfl⟩
        case rest =>
        obtain ⟨rfl, hw⟩ := hcut
        subst hw
        go_upto_if 32 with (fail)
        by_cases hy : h = 1 ∨ h = 2
        · rw [decide_eq_false (not_not_intro hy)]
          have HY := Aside0.mk hy
          clear hy
          have q3 : w8.cell? ⟨gb, 3, none⟩ = some (.bool ch.cut) := (blk_cell HX8.out 3).trans rfl
          go_upto_region 7 with (fail)
          go_cut [39] from 33 to 39 (fun v39 wx => v39 = .bool (decide (h = 2 ∧ ch.cut = false)) ∧ w8 = wx)
          case first =>
            by_cases h2 : h = 2
            · subst h2
              by_cases hcc : ch.cut = false
              · rw [hcc] at q3
                have HCC := Aside0.mk hcc
                clear hcc
                go_wp2_with (fail)
                go_meet
                case rel => exact ⟨by have hq := HCC.out; simp [hq], rfl⟩
              · have hcc' : ch.cut = true := by simpa using hcc
                rw [hcc'] at q3
                have HCC := Aside0.mk hcc
                clear hcc'
                clear hcc
                go_wp2_with (fail)
                go_meet
                case rel => exact ⟨by rw [decide_eq_false (fun hh => HCC.out hh.2)], rfl⟩
            · have e2 : (h == 2) = false := beq_false h2
              have HN2 := Aside0.mk h2
              clear h2
              go_wp2_with (fail)
              go_meet
              case rel => exact ⟨by rw [decide_eq_false (fun hh => HN2.out hh.1)], rfl⟩
          case rest =>
          obtain ⟨rfl, hw⟩ := hcut
          subst hw
          clear q3
          go_upto_if 39 with (fail)
          go_cut [] from 39 to 47 (fun wx => Aside0 (wx.heap[gb]? = some (.cells (chgCells (keptAs h ch)) 181 (0, 0))) ∧ Aside0 (Kept w8 wx (fun k => k = gb)) ∧ Aside0 (Below w0.heap.size w0 wx) ∧ Aside0 (Kept w wx O))
          case first =>
            have q2 : w8.cell? ⟨gb, 2, none⟩ = some (.string ch.text) := (blk_cell HX8.out 2).trans rfl
            have z2 := blk_frozen HX8.out 2
            by_cases h2 : h = 2 ∧ ch.cut = false
            · have HH2 := Aside0.mk h2
              have g_ : decide (h = 2 ∧ ch.cut = false) = true := decide_eq_true h2
              rw [g_]
              clear g_ h2
              have s_ : ch.text.size ≤ 67108864 := by have := HCH.out.2; unfold maxFile at this; omega
              have d_ : Int.tdiv (ch.text.size : Int) 2 = ((ch.text.size / 2 : Nat) : Int) := rfl
              have w_ : IntKind.i64.wrap ((ch.text.size / 2 : Nat) : Int) = ((ch.text.size / 2 : Nat) : Int) := IntWalk.i64_in _ (by omega)
              have l_ : ch.text.size / 2 ≤ ch.text.size := by omega
              go_wp2_with (fail)
              go_meet
              case rel => exact ⟨⟨by
                have hp := blk_put HX8.out 2 (.string (ch.text.extract 0 (ch.text.size / 2))) rfl
                have hk2 : keptAs h ch = { ch with text := ch.text.extract 0 (ch.text.size / 2) } := by
                  unfold keptAs halved
                  rw [if_pos HH2.out.1, if_neg (by rw [HH2.out.2]; decide)]
                rw [hk2]
                exact hp⟩, ⟨set_kept⟩, ⟨HBn.out.setCell (p := ⟨gb, 2, none⟩) HGw.out _⟩, ⟨HKb.out.setCell (p := ⟨gb, 2, none⟩) (.inr HGk.out) _⟩⟩
            · have HH2 := Aside0.mk h2
              have g_ : decide (h = 2 ∧ ch.cut = false) = false := decide_eq_false h2
              rw [g_]
              clear g_ h2
              go_wp2_with (fail)
              go_meet
              case rel => exact ⟨⟨by
                have hk2 : keptAs h ch = ch := by
                  unfold keptAs halved
                  split
                  · rename_i h3
                    rw [if_pos]
                    cases hc : ch.cut
                    · exact absurd ⟨h3, hc⟩ HH2.out
                    · rfl
                  · rfl
                rw [hk2]
                exact HX8.out⟩, ⟨Kept.refl _ _⟩, HBn, HKb⟩
          case rest =>
          obtain ⟨HXb, HK9, HB9, HKw9⟩ := hcut
          have HR9 := Aside0.mk (Kd.R_kept HRn.out HK9.out (fun k h1 he => by have h2 := h1.2; rw [he] at h2; exact absurd HGk.out (Nat.not_le.mpr h2)))
          have HX9 := Aside0.mk (blk_kept HXn.out HK9.out (fun he => HNEg.out he.symm))
          have HS9 := Aside0.mk (show w.heap.size ≤ wc.heap.size from HKw9.out.1)
          clear HX8 HK9 HRn HXn HBn HKb
          have HLE := Aside0.mk (keptAs_le h ch)
          obtain ⟨c2_, hc2⟩ : ∃ c2_, c2_ = keptAs h ch := ⟨_, rfl⟩
          rw [← hc2] at HXb HLE
          have HC2 := Aside0.mk hc2
          clear hc2
          obtain ⟨f2, a2, t2, u2⟩ := c2_
          have HAT := Aside0.mk (show a2 + t2.size ≤ 67108864 by have h1 := HLE.out; have h2 := HCH.out.2; unfold maxFile at h2; dsimp only at h1; omega)
          have HFF := Aside0.mk (show f2 = ch.file from HLE.out.2.2)
          have HSm0 := Aside0.mk (show m0.size ≤ 67108864 from HS0.out)
          have HSm1 := Aside0.mk (show m1.size ≤ 67108864 from HS1.out)
          clear HLE
          rcases HCH.out.1 with hf | hf
          · have HCF := Aside0.mk hf
            obtain rfl : f2 = 0 := HFF.out.trans hf
            clear hf
            have q0 : wc.cell? ⟨gb, 0, none⟩ = some (.int .i64 0) := (blk_cell HXb.out 0).trans rfl
            have q1 : wc.cell? ⟨gb, 1, none⟩ = some (.int .i64 (a2 : Int)) := (blk_cell HXb.out 1).trans rfl
            have q2 : wc.cell? ⟨gb, 2, none⟩ = some (.string t2) := (blk_cell HXb.out 2).trans rfl
            have q3 : wc.cell? ⟨gb, 3, none⟩ = some (.bool u2) := (blk_cell HXb.out 3).trans rfl
            have q4 : wc.cell? ⟨g, 0, none⟩ = some (.string m0) := (blk_cell HX9.out 0).trans rfl
            have HON := Aside0.mk (act_on_is ⟨0, a2, t2, u2⟩ m0 HSm0.out HAT.out)
            go_upto_region 9 with (fail)
            go_region_law (first
              | (refine goes_ Try.func154 (by kernel_rfl) rfl #[chgV ⟨0, a2, t2, u2⟩, .string m0] (by rfl) rfl rfl (by (try simp only [List.map_toArray, List.map_cons, List.map_nil]); first | done | rfl) ?_; refine (relstoreref_act_on.calls 0 (a2 : Int) t2 u2 m0 (onB ⟨0, a2, t2, u2⟩ m0) _ HON.out).mono ?_; rintro e w6 ⟨rfl, hb⟩; refine ⟨_, rfl, ?_⟩; have HB6 := Aside0.mk (below_step (below_drew (Below.refl _ wc)) hb); have HXA := Aside0.mk (blk_below (blk_drew HX9.out) hb); have z6 := blk_frozen HXA.out 0; have c6_ : w6.cell? ⟨g, 0, none⟩ = some (.string m0) := (blk_cell HXA.out 0).trans rfl; have p6_ : w6.cell? ⟨gb, 0, none⟩ = some (.int .i64 0) := (blk_cell (blk_below (blk_drew HXb.out) hb) 0).trans rfl; clear hb))
            all_goals
              clear q0 q1 q2 q3 q4
              go_wp2_with (fail)
              have HXF := Aside0.mk (blk_put HXA.out 0 (.string (onB ⟨0, a2, t2, u2⟩ m0)) rfl)
              have HRF := Aside0.mk (Kd.R_far (Kd.R_below HR9.out HB6.out) (p := ⟨g, 0, none⟩) (fun k hk => hk.1.2) (.string (onB ⟨0, a2, t2, u2⟩ m0)))
              have HBF := Aside0.mk ((below_step HB9.out HB6.out).setCell (p := ⟨g, 0, none⟩) HG.out (.string (onB ⟨0, a2, t2, u2⟩ m0)))
              have HKF := Aside0.mk ((HKw9.out.below HB6.out).setCell (p := ⟨g, 0, none⟩) (.inl HO.out) (.string (onB ⟨0, a2, t2, u2⟩ m0)))
              go_roundw
              case rel =>
                refine ⟨j + 1, by omega, by go_num, ⟨?_⟩, HRF, HBF, HKF⟩
                rw [HC0.out, HC1.out, kept1_eq HCF.out HY.out, kept1_ne (f := 1) (by rw [HCF.out]; decide), ← HC2.out]
                exact HXF.out
              case measure => simp [intOf]; omega
          · have HCF := Aside0.mk hf
            obtain rfl : f2 = 1 := HFF.out.trans hf
            clear hf
            have q0 : wc.cell? ⟨gb, 0, none⟩ = some (.int .i64 1) := (blk_cell HXb.out 0).trans rfl
            have q1 : wc.cell? ⟨gb, 1, none⟩ = some (.int .i64 (a2 : Int)) := (blk_cell HXb.out 1).trans rfl
            have q2 : wc.cell? ⟨gb, 2, none⟩ = some (.string t2) := (blk_cell HXb.out 2).trans rfl
            have q3 : wc.cell? ⟨gb, 3, none⟩ = some (.bool u2) := (blk_cell HXb.out 3).trans rfl
            have q4 : wc.cell? ⟨g, 1, none⟩ = some (.string m1) := (blk_cell HX9.out 1).trans rfl
            have HON := Aside0.mk (act_on_is ⟨1, a2, t2, u2⟩ m1 HSm1.out HAT.out)
            go_upto_region 9 with (fail)
            go_region_law (first
              | (refine goes_ Try.func154 (by kernel_rfl) rfl #[chgV ⟨1, a2, t2, u2⟩, .string m1] (by rfl) rfl rfl (by (try simp only [List.map_toArray, List.map_cons, List.map_nil]); first | done | rfl) ?_; refine (relstoreref_act_on.calls 1 (a2 : Int) t2 u2 m1 (onB ⟨1, a2, t2, u2⟩ m1) _ HON.out).mono ?_; rintro e w6 ⟨rfl, hb⟩; refine ⟨_, rfl, ?_⟩; have HB6 := Aside0.mk (below_step (below_drew (Below.refl _ wc)) hb); have HXA := Aside0.mk (blk_below (blk_drew HX9.out) hb); have z6 := blk_frozen HXA.out 1; have c6_ : w6.cell? ⟨g, 1, none⟩ = some (.string m1) := (blk_cell HXA.out 1).trans rfl; have p6_ : w6.cell? ⟨gb, 0, none⟩ = some (.int .i64 1) := (blk_cell (blk_below (blk_drew HXb.out) hb) 0).trans rfl; clear hb))
            all_goals
              clear q0 q1 q2 q3 q4
              go_wp2_with (fail)
              have HXF := Aside0.mk (blk_put HXA.out 1 (.string (onB ⟨1, a2, t2, u2⟩ m1)) rfl)
              have HRF := Aside0.mk (Kd.R_far (Kd.R_below HR9.out HB6.out) (p := ⟨g, 1, none⟩) (fun k hk => hk.1.2) (.string (onB ⟨1, a2, t2, u2⟩ m1)))
              have HBF := Aside0.mk ((below_step HB9.out HB6.out).setCell (p := ⟨g, 1, none⟩) HG.out (.string (onB ⟨1, a2, t2, u2⟩ m1)))
              have HKF := Aside0.mk ((HKw9.out.below HB6.out).setCell (p := ⟨g, 1, none⟩) (.inl HO.out) (.string (onB ⟨1, a2, t2, u2⟩ m1)))
              go_roundw
              case rel =>
                refine ⟨j + 1, by omega, by go_num, ⟨?_⟩, HRF, HBF, HKF⟩
                rw [HC0.out, HC1.out, kept1_ne (f := 0) (by rw [HCF.out]; decide), kept1_eq HCF.out HY.out, ← HC2.out]
                exact HXF.out
              case measure => simp [intOf]; omega
        · rw [decide_eq_true hy]
          have HY := Aside0.mk hy
          clear hy
          go_wp2_with (fail)
          go_roundw
          case rel => exact ⟨j + 1, by omega, by go_num, ⟨by rw [HC0.out, HC1.out, kept1_no HY.out, kept1_no HY.out]; exact HXn.out⟩, HRn, HBn, HKb⟩
          case measure => simp [intOf]; omega
    · obtain rfl : j = s.ws.length := by omega
      rw [List.take_length] at HXr
      clear hlt hj
      generalize hm0 : crashB 0 keep 0 s.ws s.l0 = m0 at HXr
      generalize hm1 : crashB 1 keep 0 s.ws s.l1 = m1 at HXr
      have HM0 := Aside0.mk hm0
      have HM1 := Aside0.mk hm1
      clear hm0 hm1
      have p2 : wr.cell? ⟨g, 2, none⟩ = some (.slice A4 s.ws.length c4) := (blk_cell HXr.out 2).trans rfl
      have p3 : wr.cell? ⟨g, 3, none⟩ = some (.int .i64 s.f) := (blk_cell HXr.out 3).trans rfl
      have p4 : wr.cell? ⟨g, 4, none⟩ = some (.bool s.d) := (blk_cell HXr.out 4).trans rfl
      have z2 := blk_frozen HXr.out 2
      have z3 := blk_frozen HXr.out 3
      have z4 := blk_frozen HXr.out 4
      go_wp2_with (fail)
      refine bodyPost_end (v := .tuple #[]) (by first | rfl | (simp [results, Try.f85]; done) | (simp [results, Try.f85]; rfl)) rfl ?_
      refine ⟨rfl, ?_, ((HBr.out.setCell (p := ⟨g, 2, none⟩) HG.out _).setCell (p := ⟨g, 3, none⟩) HG.out _).setCell (p := ⟨g, 4, none⟩) HG.out _, ((HKr.out.setCell (p := ⟨g, 2, none⟩) (.inl HO.out) _).setCell (p := ⟨g, 3, none⟩) (.inl HO.out) _).setCell (p := ⟨g, 4, none⟩) (.inl HO.out) _⟩
      refine ⟨.slice none 0 0, ?_, HG.out, .inl HO.out, Kd.R_nil _ _ _ _ _⟩
      have hp := blk_put (blk_put (blk_put HXr.out 2 (.slice none 0 0) rfl) 3 (.int .i64 (-1)) rfl) 4 (.bool false) rfl
      show _ = some (Obj.cells (rcells (.string (crashB 0 keep 0 s.ws s.l0)) (.string (crashB 1 keep 0 s.ws s.l1)) (.slice none 0 0) (-1) false s.c) 150 (0, 0))
      rw [HM0.out, HM1.out]
      exact hp
end Go.Proofs.Ythaoaaboempajaa.Disk
namespace Go.Proofs.Ythaoaaboempajaa.Disk
open Go.RowKit Go.Proofs.YthaoaaboempajaaW.PrintWords Go.Proofs.YthaoaaboempajaaW.PrintLast Go.Proofs.YthaoaaboempajaaW.PrintMore Go.Proofs.YthaoaaboempajaaX Go.Proofs.Ythaoaaboempajaa.QDiskRuns
set_option linter.unusedVariables false
set_option linter.unusedSimpArgs false
def St.sync (s : St) (f : Int) : Int × St := if rightB f 0 0 = true then ((turn s.f s.d s.c).1, s.synced f) else (1, s)
theorem sync.calls (g : Nat) (O : Nat → Prop) (s : St) (f : Int) (m : Nat) (w0 w : World) (hB : Below w0.heap.size w0 w) (hD : DD w w0.heap.size g O s) (hok : s.ok m) (hm : m ≤ 1000000000) :
    Calls Try.prog 131 #[.pointer (some ⟨g, 0, none⟩), .int .i64 f] w fun e w' => e = .returned (.int .i64 (s.sync f).1) ∧
      DD w' w0.heap.size g (fun k => O k ∨ w.heap.size ≤ k) (s.sync f).2 ∧ Below w0.heap.size w0 w' ∧ Kept w w' O := by
  by_cases hr : rightB f 0 0 = true
  · have hs : s.sync f = ((turn s.f s.d s.c).1, s.synced f) := by unfold St.sync; rw [if_pos hr]
    rw [hs]
    rcases (right_file hr).1 with rfl | rfl
    · exact sync.calls0 g O s m w0 w hB hD hok hm
    · exact sync.calls1 g O s m w0 w hB hD hok hm
  · have hr' : rightB f 0 0 = false := by simpa using hr
    have hs : s.sync f = (1, s) := by unfold St.sync; rw [if_neg hr]
    rw [hs]
    have HRT := Aside0.mk hr'
    have HB := Aside0.mk hB
    have HD := Aside0.mk hD
    clear hr hr' hs hB hD hok hm
    go_enter Try.func131, Try.ntmps131
    go_wp2_with (go_at_call 164; (refine (disk_right.calls f 0 0 false _ (by rw [right_is, HRT.out])).mono ?_); rintro e2 w2 ⟨rfl, hd2⟩; have HW2 := Aside0.mk hd2; clear hd2)
    go_ret
    exact ⟨rfl, DX.mono (drawn_keep HW2.out HD.out) (fun k hk => .inl hk), below_step HB.out HW2.out.below, Kept.of_below HW2.out.below O⟩
theorem rsync.calls (g : Nat) (O : Nat → Prop) (s : St) (f : Int) (m : Nat) (w0 w : World) (hB : Below w0.heap.size w0 w) (hD : RD w w0.heap.size g O s) (hok : s.ok m) (hm : m ≤ 1000000000) :
    Calls Try.prog 132 #[.pointer (some ⟨g, 0, none⟩), .int .i64 f] w fun e w' => e = .returned (.int .i64 (s.sync f).1) ∧
      RD w' w0.heap.size g (fun k => O k ∨ w.heap.size ≤ k) (s.sync f).2 ∧ Below w0.heap.size w0 w' ∧ Kept w w' O := by
  by_cases hr : rightB f 0 0 = true
  · have hs : s.sync f = ((turn s.f s.d s.c).1, s.synced f) := by unfold St.sync; rw [if_pos hr]
    rw [hs]
    rcases (right_file hr).1 with rfl | rfl
    · exact rsync.calls0 g O s m w0 w hB hD hok hm
    · exact rsync.calls1 g O s m w0 w hB hD hok hm
  · have hr' : rightB f 0 0 = false := by simpa using hr
    have hs : s.sync f = (1, s) := by unfold St.sync; rw [if_neg hr]
    rw [hs]
    have HRT := Aside0.mk hr'
    have HB := Aside0.mk hB
    have HD := Aside0.mk hD
    clear hr hr' hs hB hD hok hm
    go_enter Try.func132, Try.ntmps132
    go_wp2_with (go_at_call 105; (refine (relstoreref_in.calls f 0 1 false _ (by rw [in_is, HRT.out])).mono ?_); rintro e2 w2 ⟨rfl, hd2⟩; have HW2 := Aside0.mk hd2; clear hd2)
    go_ret
    exact ⟨rfl, RD.mono (drawn_keepR HW2.out HD.out) (fun k hk => .inl hk), below_step HB.out HW2.out.below, Kept.of_below HW2.out.below O⟩
theorem St.ok.mono {s : St} {m n : Nat} (h : s.ok m) (hn : m ≤ n) : s.ok n := ⟨h.l0, h.l1, h.ws, h.f, ⟨h.c.1, by have := h.c.2; omega⟩, h.n⟩
theorem St.ok.write {s : St} {m : Nat} (h : s.ok m) (f a : Int) (t : ByteArray) : (s.write f a t).2.ok (m + 1) := by
  unfold St.write
  split
  · rename_i hr
    obtain ⟨hf, ha, hn, han⟩ := right_file hr
    exact h.changed hf (by unfold maxFile; dsimp only; omega)
  · exact h.mono (Nat.le_succ m)
theorem St.ok.cutTo {s : St} {m : Nat} (h : s.ok m) (f a : Int) : (s.cutTo f a).2.ok (m + 1) := by
  unfold St.cutTo
  split
  · rename_i hr
    obtain ⟨hf, ha, hn, han⟩ := right_file hr
    exact h.changed hf (by unfold maxFile; rw [show ByteArray.empty.size = 0 from rfl]; dsimp only; omega)
  · exact h.mono (Nat.le_succ m)
theorem St.ok.sync {s : St} {m : Nat} (h : s.ok m) (f : Int) : (s.sync f).2.ok (m + 1) := by
  unfold St.sync
  split
  · exact h.synced
  · exact h.mono (Nat.le_succ m)
def LT (w0 w : World) (gd gr : Nat) (X : Nat → Prop) (s1 s2 : St) (m : Nat) : Prop :=
  ∃ O1 O2, DD w w0.heap.size gd O1 s1 ∧ RD w w0.heap.size gr O2 s2 ∧ (∀ k, O1 k → w0.heap.size ≤ k ∧ k < w.heap.size ∧ ¬ O2 k ∧ ¬ X k) ∧ (∀ k, O2 k → w0.heap.size ≤ k ∧ k < w.heap.size ∧ ¬ X k) ∧ (∀ k, X k → k < w.heap.size) ∧ Below w0.heap.size w0 w ∧ s1.ok m ∧ s2.ok m
def Same (X : Nat → Prop) (w w' : World) : Prop := ∀ k, X k → w'.heap[k]? = w.heap[k]?
section
variable {w0 w w' : World} {gd gr : Nat} {X : Nat → Prop} {s1 s2 s1' s2' : St} {m : Nat}
theorem DX.narrow2 {base g : Nat} {O : Nat → Prop} {a0 b0 a1 b1 : ByteArray} {ws : List Chg} {f c : Int} {d : Bool} (h : DX w base g O a0 b0 a1 b1 ws f d c) : DX w base g (fun k => O k ∧ base ≤ k ∧ k < w.heap.size) a0 b0 a1 b1 ws f d c := by
  obtain ⟨lab, x0, x1, x2, x3, x4, hb, hg, hO, hl, hr⟩ := h
  refine ⟨lab, x0, x1, x2, x3, x4, hb, hg, ⟨hO, hg, blk_lt hb⟩, hl, ⟨?_, ?_, ?_, ?_, ?_⟩⟩
  · exact Kd.R_mono (Kd.R_bound hr.r0) (fun k h => ⟨⟨h.1.1, h.2.1, h.2.2.1⟩, h.1.2⟩)
  · exact Kd.R_mono (Kd.R_bound hr.r1) (fun k h => ⟨⟨h.1.1, h.2.1, h.2.2.1⟩, h.1.2⟩)
  · exact Kd.R_mono (Kd.R_bound hr.r2) (fun k h => ⟨⟨h.1.1, h.2.1, h.2.2.1⟩, h.1.2⟩)
  · exact Kd.R_mono (Kd.R_bound hr.r3) (fun k h => ⟨⟨h.1.1, h.2.1, h.2.2.1⟩, h.1.2⟩)
  · exact Kd.R_mono (Kd.R_bound hr.r4) (fun k h => ⟨⟨h.1.1, h.2.1, h.2.2.1⟩, h.1.2⟩)
theorem RD.narrow2 {base g : Nat} {O : Nat → Prop} {s : St} (h : RD w base g O s) : RD w base g (fun k => O k ∧ base ≤ k ∧ k < w.heap.size) s := by
  obtain ⟨x2, hb, hg, hO, hr⟩ := h
  exact ⟨x2, hb, hg, ⟨hO, hg, blk_lt hb⟩, Kd.R_mono (Kd.R_bound hr) (fun k h1 => ⟨⟨h1.1.1, h1.2.1, h1.2.2.1⟩, h1.1.2⟩)⟩
theorem LT.below (h : LT w0 w gd gr X s1 s2 m) (hb : Below w.heap.size w w') : LT w0 w' gd gr X s1 s2 m := by
  obtain ⟨O1, O2, h1, h2, h3, h4, h5, h6, h7, h8⟩ := h
  have hs := hb.size
  exact ⟨O1, O2, DX.apart h1 (S := fun _ => False) (Kept.of_below hb _) (fun _ _ h => h), RD.apart h2 (S := fun _ => False) (Kept.of_below hb _) (fun _ _ h => h), fun k hk => ⟨(h3 k hk).1, Nat.lt_of_lt_of_le (h3 k hk).2.1 hs, (h3 k hk).2.2⟩, fun k hk => ⟨(h4 k hk).1, Nat.lt_of_lt_of_le (h4 k hk).2.1 hs, (h4 k hk).2.2⟩, fun k hk => Nat.lt_of_lt_of_le (h5 k hk) hs, below_step h6 hb, h7, h8⟩
theorem LT.drew (h : LT w0 w gd gr X s1 s2 m) : LT w0 w.drew gd gr X s1 s2 m := h.below (below_drew (Below.refl _ w))
theorem LT.drewN (h : LT w0 w gd gr X s1 s2 m) (n : Nat) : LT w0 (w.drewN n) gd gr X s1 s2 m := h.below (pw_below_drewN (Below.refl _ w) n)
theorem LT.more (h : LT w0 w gd gr X s1 s2 m) (hb : Below w.heap.size w w') {Y : Nat → Prop} (hY : ∀ k, Y k → (X k ∨ w.heap.size ≤ k) ∧ k < w'.heap.size) : LT w0 w' gd gr Y s1 s2 m := by
  have hs := hb.size
  obtain ⟨O1, O2, h1, h2, h3, h4, h5, h6, h7, h8⟩ := h
  refine ⟨O1, O2, DX.apart h1 (S := fun _ => False) (Kept.of_below hb _) (fun _ _ h => h), RD.apart h2 (S := fun _ => False) (Kept.of_below hb _) (fun _ _ h => h), fun k hk => ⟨(h3 k hk).1, Nat.lt_of_lt_of_le (h3 k hk).2.1 hs, (h3 k hk).2.2.1, fun hy => ?_⟩, fun k hk => ⟨(h4 k hk).1, Nat.lt_of_lt_of_le (h4 k hk).2.1 hs, fun hy => ?_⟩, fun k hk => (hY k hk).2, below_step h6 hb, h7, h8⟩
  · rcases (hY k hy).1 with h | h
    · exact (h3 k hk).2.2.2 h
    · exact absurd (h3 k hk).2.1 (Nat.not_lt.mpr h)
  · rcases (hY k hy).1 with h | h
    · exact (h4 k hk).2.2 h
    · exact absurd (h4 k hk).2.1 (Nat.not_lt.mpr h)
theorem LT.less (h : LT w0 w gd gr X s1 s2 m) {Y : Nat → Prop} (hY : ∀ k, Y k → X k) : LT w0 w gd gr Y s1 s2 m :=
  h.more (Below.refl _ _) (fun k hk => ⟨.inl (hY k hk), by obtain ⟨O1, O2, h1, h2, h3, h4, h5, h6, h7, h8⟩ := h; exact h5 k (hY k hk)⟩)
theorem LT.ok (h : LT w0 w gd gr X s1 s2 m) : s1.ok m ∧ s2.ok m := by obtain ⟨O1, O2, h1, h2, h3, h4, h5, h6, h7, h8⟩ := h; exact ⟨h7, h8⟩
theorem LT.hB (h : LT w0 w gd gr X s1 s2 m) : Below w0.heap.size w0 w := by obtain ⟨O1, O2, h1, h2, h3, h4, h5, h6, h7, h8⟩ := h; exact h6
theorem LT.up (h : LT w0 w gd gr X s1 s2 m) {n : Nat} (hn : m ≤ n) : LT w0 w gd gr X s1 s2 n := by obtain ⟨O1, O2, h1, h2, h3, h4, h5, h6, h7, h8⟩ := h; exact ⟨O1, O2, h1, h2, h3, h4, h5, h6, h7.mono hn, h8.mono hn⟩
theorem LT.onD {f : FuncId} {args : Array Value} {V : Value} (h : LT w0 w gd gr X s1 s2 m) {n : Nat} (hn : m ≤ n) (hok : s1'.ok n)
    (hc : ∀ O1, DD w w0.heap.size gd O1 s1 → (∀ k, O1 k → w0.heap.size ≤ k ∧ k < w.heap.size ∧ ¬ X k) → Calls Try.prog f args w fun e w' => e = .returned V ∧ DD w' w0.heap.size gd (fun k => O1 k ∨ w.heap.size ≤ k) s1' ∧ Below w0.heap.size w0 w' ∧ Kept w w' O1) :
    Calls Try.prog f args w fun e w' => e = .returned V ∧ LT w0 w' gd gr X s1' s2 n ∧ Same X w w' ∧ w.heap.size ≤ w'.heap.size := by
  obtain ⟨O1, O2, h1, h2, h3, h4, h5, h6, h7, h8⟩ := h
  refine (hc O1 h1 (fun k hk => ⟨(h3 k hk).1, (h3 k hk).2.1, (h3 k hk).2.2.2⟩)).mono ?_
  rintro e w' ⟨rfl, hd, hb, hk⟩
  have hs := hk.1
  refine ⟨rfl, ⟨_, O2, DX.narrow2 hd, RD.apart h2 hk (fun k ho h1k => (h3 k h1k).2.2.1 ho), fun k hk' => ⟨hk'.2.1, hk'.2.2, fun ho => ?_, fun hx => ?_⟩, fun k hk' => ⟨(h4 k hk').1, Nat.lt_of_lt_of_le (h4 k hk').2.1 hs, (h4 k hk').2.2⟩, fun k hx => Nat.lt_of_lt_of_le (h5 k hx) hs, hb, hok, h8.mono hn⟩, fun k hx => hk.2 k (h5 k hx) (fun h1k => (h3 k h1k).2.2.2 hx), hs⟩
  · rcases hk'.1 with h | h
    · exact (h3 k h).2.2.1 ho
    · exact absurd (h4 k ho).2.1 (Nat.not_lt.mpr h)
  · rcases hk'.1 with h | h
    · exact (h3 k h).2.2.2 hx
    · exact absurd (h5 k hx) (Nat.not_lt.mpr h)
theorem LT.onR {f : FuncId} {args : Array Value} {V : Value} (h : LT w0 w gd gr X s1 s2 m) {n : Nat} (hn : m ≤ n) (hok : s2'.ok n)
    (hc : ∀ O1, RD w w0.heap.size gr O1 s2 → (∀ k, O1 k → w0.heap.size ≤ k ∧ k < w.heap.size ∧ ¬ X k) → Calls Try.prog f args w fun e w' => e = .returned V ∧ RD w' w0.heap.size gr (fun k => O1 k ∨ w.heap.size ≤ k) s2' ∧ Below w0.heap.size w0 w' ∧ Kept w w' O1) :
    Calls Try.prog f args w fun e w' => e = .returned V ∧ LT w0 w' gd gr X s1 s2' n ∧ Same X w w' ∧ w.heap.size ≤ w'.heap.size := by
  obtain ⟨O1, O2, h1, h2, h3, h4, h5, h6, h7, h8⟩ := h
  refine (hc O2 h2 h4).mono ?_
  rintro e w' ⟨rfl, hd, hb, hk⟩
  have hs := hk.1
  refine ⟨rfl, ⟨O1, _, DX.apart h1 hk (fun k ho h2k => (h3 k ho).2.2.1 h2k), RD.narrow2 hd, fun k hk' => ⟨(h3 k hk').1, Nat.lt_of_lt_of_le (h3 k hk').2.1 hs, fun ho => ?_, (h3 k hk').2.2.2⟩, fun k hk' => ⟨hk'.2.1, hk'.2.2, fun hx => ?_⟩, fun k hx => Nat.lt_of_lt_of_le (h5 k hx) hs, hb, h7.mono hn, hok⟩, fun k hx => hk.2 k (h5 k hx) (fun h1k => (h4 k h1k).2.2 hx), hs⟩
  · rcases ho.1 with h | h
    · exact (h3 k hk').2.2.1 h
    · exact absurd (h3 k hk').2.1 (Nat.not_lt.mpr h)
  · rcases hk'.1 with h | h
    · exact (h4 k h).2.2 hx
    · exact absurd (h5 k hx) (Nat.not_lt.mpr h)
end
section
variable {w0 w : World} {gd gr : Nat} {X : Nat → Prop} {s1 s2 : St} {m : Nat}
theorem LT.write (h : LT w0 w gd gr X s1 s2 m) (hm : m ≤ 1000000) (f a : Int) (t : ByteArray) : Calls Try.prog 125 #[.pointer (some ⟨gd, 0, none⟩), .int .i64 f, .int .i64 a, .string t] w fun e w' => e = .returned (.int .i64 (s1.write f a t).1) ∧ LT w0 w' gd gr X (s1.write f a t).2 s2 (m + 1) ∧ Same X w w' ∧ w.heap.size ≤ w'.heap.size :=
  h.onD (Nat.le_succ m) (h.ok.1.write f a t) (fun O hD _ => write.calls gd O s1 f a t m w0 w h.hB hD h.ok.1 (by omega))
theorem LT.cut (h : LT w0 w gd gr X s1 s2 m) (hm : m ≤ 1000000) (f a : Int) : Calls Try.prog 127 #[.pointer (some ⟨gd, 0, none⟩), .int .i64 f, .int .i64 a] w fun e w' => e = .returned (.int .i64 (s1.cutTo f a).1) ∧ LT w0 w' gd gr X (s1.cutTo f a).2 s2 (m + 1) ∧ Same X w w' ∧ w.heap.size ≤ w'.heap.size :=
  h.onD (Nat.le_succ m) (h.ok.1.cutTo f a) (fun O hD _ => cut.calls gd O s1 f a m w0 w h.hB hD h.ok.1 (by omega))
theorem LT.sync (h : LT w0 w gd gr X s1 s2 m) (hm : m ≤ 1000000) (f : Int) : Calls Try.prog 131 #[.pointer (some ⟨gd, 0, none⟩), .int .i64 f] w fun e w' => e = .returned (.int .i64 (s1.sync f).1) ∧ LT w0 w' gd gr X (s1.sync f).2 s2 (m + 1) ∧ Same X w w' ∧ w.heap.size ≤ w'.heap.size :=
  h.onD (Nat.le_succ m) (h.ok.1.sync f) (fun O hD _ => sync.calls gd O s1 f m w0 w h.hB hD h.ok.1 (by omega))
theorem LT.rwrite (h : LT w0 w gd gr X s1 s2 m) (hm : m ≤ 1000000) (f a : Int) (t : ByteArray) : Calls Try.prog 126 #[.pointer (some ⟨gr, 0, none⟩), .int .i64 f, .int .i64 a, .string t] w fun e w' => e = .returned (.int .i64 (s2.write f a t).1) ∧ LT w0 w' gd gr X s1 (s2.write f a t).2 (m + 1) ∧ Same X w w' ∧ w.heap.size ≤ w'.heap.size :=
  h.onR (Nat.le_succ m) (h.ok.2.write f a t) (fun O hD _ => rwrite.calls gr O s2 f a t m w0 w h.hB hD h.ok.2 (by omega))
theorem LT.rcut (h : LT w0 w gd gr X s1 s2 m) (hm : m ≤ 1000000) (f a : Int) : Calls Try.prog 128 #[.pointer (some ⟨gr, 0, none⟩), .int .i64 f, .int .i64 a] w fun e w' => e = .returned (.int .i64 (s2.cutTo f a).1) ∧ LT w0 w' gd gr X s1 (s2.cutTo f a).2 (m + 1) ∧ Same X w w' ∧ w.heap.size ≤ w'.heap.size :=
  h.onR (Nat.le_succ m) (h.ok.2.cutTo f a) (fun O hD _ => rcut.calls gr O s2 f a m w0 w h.hB hD h.ok.2 (by omega))
theorem LT.rsync (h : LT w0 w gd gr X s1 s2 m) (hm : m ≤ 1000000) (f : Int) : Calls Try.prog 132 #[.pointer (some ⟨gr, 0, none⟩), .int .i64 f] w fun e w' => e = .returned (.int .i64 (s2.sync f).1) ∧ LT w0 w' gd gr X s1 (s2.sync f).2 (m + 1) ∧ Same X w w' ∧ w.heap.size ≤ w'.heap.size :=
  h.onR (Nat.le_succ m) (h.ok.2.sync f) (fun O hD _ => rsync.calls gr O s2 f m w0 w h.hB hD h.ok.2 (by omega))
theorem LT.fail (h : LT w0 w gd gr X s1 s2 m) (n : Int) (hn : n < 9223372036854775808) : Calls Try.prog 64 #[.pointer (some ⟨gd, 0, none⟩), .int .i64 n] w fun e w' => e = .returned (.tuple #[]) ∧ LT w0 w' gd gr X (s1.failed n) s2 m ∧ Same X w w' ∧ w.heap.size ≤ w'.heap.size :=
  h.onD (Nat.le_refl m) (h.ok.1.failed hn) (fun O hD _ => by
    obtain ⟨lab, x0, x1, x2, x3, x4, hb, hg, hO, hl, hr⟩ := hD
    refine (fail.calls gd x0 x1 x2 x3 x4 s1.f s1.d s1.c n w0 w h.hB hg hb).mono ?_
    rintro e w' ⟨rfl, hx, hb', hk, hs⟩
    exact ⟨rfl, ⟨lab, x0, x1, x2, x3, x4, hx, hg, .inl hO, hl, (hr.only hk hl).mono (fun k hk => .inl hk)⟩, hb', hk.mono (fun k he => by rw [he]; exact hO)⟩)
theorem LT.rfail (h : LT w0 w gd gr X s1 s2 m) (n : Int) (hn : n < 9223372036854775808) : Calls Try.prog 84 #[.pointer (some ⟨gr, 0, none⟩), .int .i64 n] w fun e w' => e = .returned (.tuple #[]) ∧ LT w0 w' gd gr X s1 (s2.failed n) m ∧ Same X w w' ∧ w.heap.size ≤ w'.heap.size :=
  h.onR (Nat.le_refl m) (h.ok.2.failed hn) (fun O hD _ => by
    obtain ⟨x2, hb, hg, hO, hr⟩ := hD
    refine (rfail.calls gr _ _ x2 s2.f s2.d s2.c n w0 w h.hB hg hb).mono ?_
    rintro e w' ⟨rfl, hx, hb', hk, hs⟩
    exact ⟨rfl, ⟨x2, hx, hg, .inl hO, Kd.R_mono (Kd.R_kept hr hk (fun k h1 he => h1.2 he)) (fun k h1 => ⟨.inl h1.1, h1.2⟩)⟩, hb', hk.mono (fun k he => by rw [he]; exact hO)⟩)
theorem LT.crash (h : LT w0 w gd gr X s1 s2 m) (hm : m ≤ 1000000) (Ak : Option Addr) (ck : Nat) (keep : List Int) (hk : ∀ W', Kept w W' (fun k => w0.heap.size ≤ k ∧ ¬ X k) → (Kd.int .i64).C W' Ak keep.length keep) (hkl : keep.length ≤ 9223372036854775807) : Calls Try.prog 73 #[.pointer (some ⟨gd, 0, none⟩), .slice Ak keep.length ck] w fun e w' => e = .returned (.tuple #[]) ∧ LT w0 w' gd gr X (s1.crashed keep) s2 m ∧ Same X w w' ∧ w.heap.size ≤ w'.heap.size :=
  h.onD (Nat.le_refl m) h.ok.1.crashed (fun O hD hO => crash.calls gd O s1 m Ak ck keep w0 w h.hB hD h.ok.1 (by omega) (fun W' hW => hk W' (hW.mono (fun k h1 => ⟨(hO k h1).1, (hO k h1).2.2⟩))) hkl)
theorem LT.rcrash (h : LT w0 w gd gr X s1 s2 m) (hm : m ≤ 1000000) (Ak : Option Addr) (ck : Nat) (keep : List Int) (hk : ∀ W', Kept w W' (fun k => w0.heap.size ≤ k ∧ ¬ X k) → (Kd.int .i64).C W' Ak keep.length keep) (hkl : keep.length ≤ 9223372036854775807) : Calls Try.prog 85 #[.pointer (some ⟨gr, 0, none⟩), .slice Ak keep.length ck] w fun e w' => e = .returned (.tuple #[]) ∧ LT w0 w' gd gr X s1 (s2.crashed keep) m ∧ Same X w w' ∧ w.heap.size ≤ w'.heap.size :=
  h.onR (Nat.le_refl m) h.ok.2.crashed (fun O hD hO => rcrash.calls gr O s2 m Ak ck keep w0 w h.hB hD h.ok.2 (by omega) (fun W' hW => hk W' (hW.mono (fun k h1 => ⟨(hO k h1).1, (hO k h1).2.2⟩))) hkl)
theorem LT.size (h : LT w0 w gd gr X s1 s2 m) (f : Int) : Calls Try.prog 129 #[.pointer (some ⟨gd, 0, none⟩), .int .i64 f] w fun e w' => e = .returned (.tuple #[.int .i64 (s1.size f).1, .int .i64 (s1.size f).2]) ∧ Drawn0 w w' := by
  obtain ⟨O1, O2, h1, h2, h3, h4, h5, h6, h7, h8⟩ := h
  exact size.calls gd O1 s1 f w0 w h1
theorem LT.read (h : LT w0 w gd gr X s1 s2 m) (f a n : Int) : Calls Try.prog 123 #[.pointer (some ⟨gd, 0, none⟩), .int .i64 f, .int .i64 a, .int .i64 n] w fun e w' => e = .returned (.tuple #[.string (s1.read f a n).1, .int .i64 (s1.read f a n).2]) ∧ Drawn0 w w' := by
  obtain ⟨O1, O2, h1, h2, h3, h4, h5, h6, h7, h8⟩ := h
  exact read.calls gd O1 s1 f a n w0 w h1
theorem LT.rsize (h : LT w0 w gd gr X s1 s2 m) (hm : m ≤ 1000000) (f : Int) : Calls Try.prog 130 #[.pointer (some ⟨gr, 0, none⟩), .int .i64 f] w fun e w' => e = .returned (.tuple #[.int .i64 (s2.size f).1, .int .i64 (s2.size f).2]) ∧ Below w.heap.size w w' := by
  obtain ⟨O1, O2, h1, h2, h3, h4, h5, h6, h7, h8⟩ := h
  exact rsize.calls gr O2 s2 f m w0.heap.size w h2 h8 (by omega)
theorem LT.rread (h : LT w0 w gd gr X s1 s2 m) (hm : m ≤ 1000000) (f a n : Int) : Calls Try.prog 124 #[.pointer (some ⟨gr, 0, none⟩), .int .i64 f, .int .i64 a, .int .i64 n] w fun e w' => e = .returned (.tuple #[.string (s2.read f a n).1, .int .i64 (s2.read f a n).2]) ∧ Below w.heap.size w w' := by
  obtain ⟨O1, O2, h1, h2, h3, h4, h5, h6, h7, h8⟩ := h
  exact rread.calls gr O2 s2 f a n m w0.heap.size w h2 h8 (by omega)
theorem LT.seen (h : LT w0 w gd gr X s1 s2 m) (hm : m ≤ 1000000) (f : Int) (hf : f = 0 ∨ f = 1) : Calls Try.prog 136 #[.pointer (some ⟨gr, 0, none⟩), .int .i64 f] w fun e w' => e = .returned (.string (seenOf s2 f)) ∧ Below w.heap.size w w' := by
  obtain ⟨O1, O2, h1, h2, h3, h4, h5, h6, h7, h8⟩ := h
  rcases hf with rfl | rfl
  · rw [seenOf0]
    exact seen.calls0 gr O2 s2 m w0.heap.size w h2 h8 (by omega)
  · rw [seenOf1]
    exact seen.calls1 gr O2 s2 m w0.heap.size w h2 h8 (by omega)
theorem LT.down (h : LT w0 w gd gr X s1 s2 m) : Calls Try.prog 72 #[.pointer (some ⟨gd, 0, none⟩)] w fun e w' => e = .returned (.bool s1.d) ∧ w' = w := by
  obtain ⟨O1, O2, ⟨lab, x0, x1, x2, x3, x4, hb, _⟩, _⟩ := h
  exact down.calls gd x0 x1 x2 x3 x4 s1.f s1.d s1.c w hb
theorem LT.count (h : LT w0 w gd gr X s1 s2 m) : Calls Try.prog 134 #[.pointer (some ⟨gd, 0, none⟩)] w fun e w' => e = .returned (.int .i64 s1.c) ∧ w' = w := by
  obtain ⟨O1, O2, ⟨lab, x0, x1, x2, x3, x4, hb, _⟩, _⟩ := h
  exact count.calls gd x0 x1 x2 x3 x4 s1.f s1.d s1.c w hb
theorem LT.waits (h : LT w0 w gd gr X s1 s2 m) : Calls Try.prog 135 #[.pointer (some ⟨gd, 0, none⟩)] w fun e w' => e = .returned (.int .i64 (s1.ws.length : Int)) ∧ w' = w := by
  obtain ⟨O1, O2, ⟨lab, x0, x1, x2, x3, x4, hb, _, _, _, hr⟩, _⟩ := h
  obtain ⟨A4, c4, e4⟩ := Kd.R_slice hr.r4
  subst e4
  exact waits.calls gd x0 x1 x2 x3 A4 s1.ws.length c4 s1.f s1.d s1.c w hb
theorem LT.cells (h : LT w0 w gd gr X s1 s2 m) : ∃ A c, w.cell? ⟨gr, 4, none⟩ = some (.bool s2.d) ∧ w.cell? ⟨gr, 5, none⟩ = some (.int .i64 s2.c) ∧ w.cell? ⟨gr, 2, none⟩ = some (.slice A s2.ws.length c) := by
  obtain ⟨O1, O2, _, ⟨x2, hb, _, _, hr⟩, _⟩ := h
  obtain ⟨A4, c4, e4⟩ := Kd.R_slice hr
  subst e4
  exact ⟨A4, c4, (blk_cell hb 4).trans rfl, (blk_cell hb 5).trans rfl, (blk_cell hb 2).trans rfl⟩
end
end Go.Proofs.Ythaoaaboempajaa.Disk
namespace Go.Proofs.Ythaoaaboempajaa.Log
open Go.RowKit Go.Maps Go.Proofs.Ythaoaaboempajaa.QLogRuns Go.Proofs.Ythaoaaboempajaa.QDiskRuns Go.Proofs.Ythaoaaboempajaa.Disk Go.Proofs.YthaoaaboempajaaW.PrintWords Go.Proofs.YthaoaaboempajaaW.PrintLast Go.Proofs.YthaoaaboempajaaW.PrintMore Go.Proofs.YthaoaaboempajaaX
set_option linter.unusedVariables false
set_option linter.unusedSimpArgs false
structure Fr (base : Nat) (P : World → (Nat → Prop) → Prop) : Prop where
  apart : ∀ {w w' : World} {O S : Nat → Prop}, P w O → Kept w w' S → (∀ k, O k → ¬ S k) → P w' O
  mono : ∀ {w : World} {O O' : Nat → Prop}, P w O → (∀ k, O k → O' k) → P w O'
  narrow : ∀ {w : World} {O : Nat → Prop}, P w O → P w (fun k => O k ∧ base ≤ k ∧ k < w.heap.size)
theorem frD (base g : Nat) (s : St) : Fr base (fun w O => DD w base g O s) := ⟨fun h hk hs => DX.apart h hk hs, fun h hs => DX.mono h hs, fun h => DX.narrow2 h⟩
theorem frR (base g : Nat) (s : St) : Fr base (fun w O => RD w base g O s) := ⟨fun h hk hs => RD.apart h hk hs, fun h hs => RD.mono h hs, fun h => RD.narrow2 h⟩
def Sep (base : Nat) (P Q : World → (Nat → Prop) → Prop) (w : World) (O : Nat → Prop) : Prop :=
  ∃ O1 O2, P w O1 ∧ Q w O2 ∧ (∀ k, O1 k → O k) ∧ (∀ k, O2 k → O k) ∧ (∀ k, O1 k → O2 k → False) ∧ (∀ k, O1 k → base ≤ k ∧ k < w.heap.size) ∧ (∀ k, O2 k → base ≤ k ∧ k < w.heap.size)
section
variable {base : Nat} {P P' Q Q' : World → (Nat → Prop) → Prop} {w w' : World} {O S : Nat → Prop}
theorem frSep (hP : Fr base P) (hQ : Fr base Q) : Fr base (Sep base P Q) := by
  refine ⟨?_, ?_, ?_⟩
  · rintro w w' O S ⟨O1, O2, h1, h2, h3, h4, h5, h6, h7⟩ hk hs
    exact ⟨O1, O2, hP.apart h1 hk (fun k h => hs k (h3 k h)), hQ.apart h2 hk (fun k h => hs k (h4 k h)), h3, h4, h5, fun k h => ⟨(h6 k h).1, Nat.lt_of_lt_of_le (h6 k h).2 hk.1⟩, fun k h => ⟨(h7 k h).1, Nat.lt_of_lt_of_le (h7 k h).2 hk.1⟩⟩
  · rintro w O O' ⟨O1, O2, h1, h2, h3, h4, h5, h6, h7⟩ hs
    exact ⟨O1, O2, h1, h2, fun k h => hs k (h3 k h), fun k h => hs k (h4 k h), h5, h6, h7⟩
  · rintro w O ⟨O1, O2, h1, h2, h3, h4, h5, h6, h7⟩
    exact ⟨O1, O2, h1, h2, fun k h => ⟨h3 k h, h6 k h⟩, fun k h => ⟨h4 k h, h7 k h⟩, h5, h6, h7⟩
theorem Sep.swap (h : Sep base P Q w O) : Sep base Q P w O := by
  obtain ⟨O1, O2, h1, h2, h3, h4, h5, h6, h7⟩ := h
  exact ⟨O2, O1, h2, h1, h4, h3, fun k a b => h5 k b a, h7, h6⟩
theorem Sep.onL (h : Sep base P Q w O) (hP' : Fr base P') (hQ : Fr base Q) : ∃ O1, P w O1 ∧ (∀ k, O1 k → O k) ∧ (∀ k, O1 k → base ≤ k ∧ k < w.heap.size) ∧
    ∀ w', P' w' (fun k => O1 k ∨ w.heap.size ≤ k) → Kept w w' O1 → Sep base P' Q w' (fun k => O k ∨ w.heap.size ≤ k) ∧ Kept w w' O := by
  obtain ⟨O1, O2, h1, h2, h3, h4, h5, h6, h7⟩ := h
  refine ⟨O1, h1, h3, h6, fun w' hp hk => ⟨⟨_, O2, hP'.narrow hp, hQ.apart h2 hk (fun k a b => h5 k b a), fun k a => a.1.imp (h3 k) id, fun k a => .inl (h4 k a), fun k a b => ?_, fun k a => a.2, fun k a => ⟨(h7 k a).1, Nat.lt_of_lt_of_le (h7 k a).2 hk.1⟩⟩, hk.mono h3⟩⟩
  rcases a.1 with a | a
  · exact h5 k a b
  · exact absurd (h7 k b).2 (Nat.not_lt.mpr a)
theorem Sep.onR (h : Sep base P Q w O) (hP : Fr base P) (hQ' : Fr base Q') : ∃ O2, Q w O2 ∧ (∀ k, O2 k → O k) ∧ (∀ k, O2 k → base ≤ k ∧ k < w.heap.size) ∧
    ∀ w', Q' w' (fun k => O2 k ∨ w.heap.size ≤ k) → Kept w w' O2 → Sep base P Q' w' (fun k => O k ∨ w.heap.size ≤ k) ∧ Kept w w' O := by
  obtain ⟨O2, h1, h2, h3, back⟩ := h.swap.onL hQ' hP
  exact ⟨O2, h1, h2, h3, fun w' hq hk => ⟨(back w' hq hk).1.swap, (back w' hq hk).2⟩⟩
end
def idxFrom : Nat → List (Nat × ByteArray) → Int → Nat → Nat
  | _, [], _, acc => acc
  | i, c :: r, x, acc => idxFrom (i + 1) r x (if (c.1 : Int) = x then i + 1 else acc)
def idx (fr : List (Nat × ByteArray)) (x : Int) : Int := (idxFrom 0 fr x 0 : Nat)
theorem idxFrom_snoc : ∀ (fr : List (Nat × ByteArray)) (i : Nat) (c : Nat × ByteArray) (x : Int) (acc : Nat), idxFrom i (fr ++ [c]) x acc = if (c.1 : Int) = x then i + fr.length + 1 else idxFrom i fr x acc
  | [], i, c, x, acc => by simp [idxFrom]
  | d :: fr, i, c, x, acc => by
    have := idxFrom_snoc fr (i + 1) c x (if (d.1 : Int) = x then i + 1 else acc)
    simp only [List.cons_append, idxFrom, List.length_cons]
    rw [this]
    split
    · omega
    · rfl
theorem idx_nil (x : Int) : idx [] x = 0 := rfl
theorem idx_snoc (fr : List (Nat × ByteArray)) (c : Nat × ByteArray) (x : Int) : idx (fr ++ [c]) x = if (c.1 : Int) = x then ((fr.length + 1 : Nat) : Int) else idx fr x := by
  unfold idx
  rw [idxFrom_snoc]
  split
  · rw [Nat.zero_add]
  · rfl
theorem idx_le (fr : List (Nat × ByteArray)) (x : Int) : 0 ≤ idx fr x ∧ idx fr x ≤ fr.length := by
  refine ⟨by unfold idx; omega, ?_⟩
  have h : ∀ (fr : List (Nat × ByteArray)) (i acc : Nat), acc ≤ i → idxFrom i fr x acc ≤ i + fr.length := by
    intro fr
    induction fr with
    | nil => intro i acc h; simpa [idxFrom] using h
    | cons c r ih =>
      intro i acc h
      have := ih (i + 1) (if (c.1 : Int) = x then i + 1 else acc) (by split <;> omega)
      simp only [idxFrom, List.length_cons]
      omega
  have := h fr 0 0 (Nat.le_refl _)
  unfold idx
  omega
structure Lg where
  fr : List (Nat × ByteArray)
  kept : Nat
  pages : Nat
  slot : Nat
  number : Nat
structure Lg.ok (g : Lg) : Prop where
  n : g.fr.length ≤ 65280
  kept : g.kept ≤ g.fr.length
  pages : g.pages ≤ 4294967295
  slot : g.slot = 0 ∨ g.slot = 1
  number : 1 ≤ g.number ∧ g.number ≤ 3
  fr : ∀ c ∈ g.fr, c.1 < 4294967296 ∧ c.2.size = 1024
def lcells (gd : Nat) (n pg : Int) (bn : Nat) (k pk : Int) (bk : Nat) (sl nu : Int) : Array Value :=
  #[.pointer (some ⟨gd, 0, none⟩), .int .i64 n, .int .i64 pg, .map (some bn), .int .i64 k, .int .i64 pk, .map (some bk), .int .i64 sl, .int .i64 nu]
def LX (base gl gd : Nat) (g : Lg) (w : World) (O : Nat → Prop) : Prop :=
  ∃ bn bk, w.heap[gl]? = some (.cells (lcells gd g.fr.length g.pages bn g.kept g.pages bk g.slot g.number) 167 (0, 0)) ∧ MapF w bn g.fr.length (idx g.fr) ∧ MapF w bk g.kept (idx (g.fr.take g.kept)) ∧ bn ≠ bk ∧ O gl ∧ O bn ∧ O bk ∧ base ≤ gl ∧ base ≤ bn ∧ base ≤ bk
theorem frL (base gl gd : Nat) (g : Lg) : Fr base (LX base gl gd g) := by
  refine ⟨?_, ?_, ?_⟩
  · rintro w w' O S ⟨bn, bk, h1, h2, h3, h4, h5, h6, h7, h8⟩ hk hs
    exact ⟨bn, bk, blk_kept h1 hk (hs gl h5), h2.kept (hk.2 bn h2.lt (hs bn h6)), h3.kept (hk.2 bk h3.lt (hs bk h7)), h4, h5, h6, h7, h8⟩
  · rintro w O O' ⟨bn, bk, h1, h2, h3, h4, h5, h6, h7, h8⟩ hs
    exact ⟨bn, bk, h1, h2, h3, h4, hs _ h5, hs _ h6, hs _ h7, h8⟩
  · rintro w O ⟨bn, bk, h1, h2, h3, h4, h5, h6, h7, h8⟩
    exact ⟨bn, bk, h1, h2, h3, h4, ⟨h5, h8.1, blk_lt h1⟩, ⟨h6, h8.2.1, h2.lt⟩, ⟨h7, h8.2.2, h3.lt⟩, h8⟩
def PL (w : World) (base gd gl : Nat) (O : Nat → Prop) (s : St) (g : Lg) : Prop := Sep base (fun w O => DD w base gd O s) (LX base gl gd g) w O
theorem frPL (base gd gl : Nat) (s : St) (g : Lg) : Fr base (fun w O => PL w base gd gl O s g) := frSep (frD base gd s) (frL base gl gd g)
def Lg.append (s : St) (g : Lg) (n : Int) (t : ByteArray) : Int × St × Lg :=
  if n < 0 ∨ n ≥ 2147483648 ∨ t.size ≠ 1024 then (1, s, g)
  else if 64 + 1028 * g.fr.length + 1028 > 67108864 then (8, s, g)
  else if (s.write 1 ((64 + 1028 * g.fr.length : Nat) : Int) (fourB n.toNat ++ t)).1 = 0 then (0, (s.write 1 ((64 + 1028 * g.fr.length : Nat) : Int) (fourB n.toNat ++ t)).2, { g with fr := g.fr ++ [(n.toNat, t)] })
  else ((s.write 1 ((64 + 1028 * g.fr.length : Nat) : Int) (fourB n.toNat ++ t)).1, (s.write 1 ((64 + 1028 * g.fr.length : Nat) : Int) (fourB n.toNat ++ t)).2, g)
def Lg.tell (s : St) (g : Lg) (frames pages : Nat) : Int × St × Lg :=
  let a := s.write 1 ((16 + 24 * (1 - g.slot) : Nat) : Int) (slotB (g.number % 3 + 1) frames pages)
  if a.1 ≠ 0 then (a.1, a.2, g) else
  let b := a.2.sync 1
  if b.1 ≠ 0 then (b.1, b.2, g) else (0, b.2, { g with slot := 1 - g.slot, number := g.number % 3 + 1 })
end Go.Proofs.Ythaoaaboempajaa.Log
namespace Go.Proofs.Ythaoaaboempajaa.Log
open Go.RowKit Go.Maps Go.Proofs.Ythaoaaboempajaa.QLogRuns Go.Proofs.Ythaoaaboempajaa.QDiskRuns Go.Proofs.Ythaoaaboempajaa.Disk Go.Proofs.YthaoaaboempajaaW.PrintWords Go.Proofs.YthaoaaboempajaaW.PrintLast Go.Proofs.YthaoaaboempajaaW.PrintMore Go.Proofs.YthaoaaboempajaaX
set_option linter.unusedVariables false
set_option linter.unusedSimpArgs false
theorem MapF.ne {w : World} {b n g ty : Nat} {f : Int → Int} {cs : Array Value} (h : MapF w b n f) (hg : w.heap[g]? = some (.cells cs ty (0, 0))) : b ≠ g := by
  obtain ⟨D, ⟨es, clock, h1, _⟩, _⟩ := h
  intro e
  rw [e, hg] at h1
  cases h1
set_option maxHeartbeats 8000000 in
set_option maxRecDepth 100000 in
theorem append.calls (gd gl : Nat) (O : Nat → Prop) (s : St) (g : Lg) (m : Nat) (n : Int) (t : ByteArray) (w0 w : World) (hB : Below w0.heap.size w0 w) (hD : PL w w0.heap.size gd gl O s g) (hok : s.ok m) (hm : m ≤ 900000000) (hg : g.ok)
    (hn : -9223372036854775808 ≤ n ∧ n < 9223372036854775808) :
    Calls Try.prog 67 #[.pointer (some ⟨gl, 0, none⟩), .int .i64 n, .string t] w fun e w' => e = .returned (.int .i64 (Lg.append s g n t).1) ∧
      PL w' w0.heap.size gd gl (fun k => O k ∨ w.heap.size ≤ k) (Lg.append s g n t).2.1 (Lg.append s g n t).2.2 ∧ Below w0.heap.size w0 w' ∧ Kept w w' O := by
  have HB := Aside0.mk hB
  have HD := Aside0.mk hD
  have HOK := Aside0.mk hok
  have HM := Aside0.mk hm
  have HG := Aside0.mk hg
  by_cases hbad : n < 0 ∨ n ≥ 2147483648 ∨ t.size ≠ 1024
  · have HS := Aside0.mk (show Lg.append s g n t = (1, s, g) by unfold Lg.append; rw [if_pos hbad])
    have fin : ∀ w' : World, w' = w → (Ending.returned (Value.int .i64 1) = .returned (.int .i64 (Lg.append s g n t).1) ∧ PL w' w0.heap.size gd gl (fun k => O k ∨ w.heap.size ≤ k) (Lg.append s g n t).2.1 (Lg.append s g n t).2.2 ∧ Below w0.heap.size w0 w' ∧ Kept w w' O) := by
      rintro w' rfl
      rw [HS.out]
      exact ⟨rfl, (frPL _ _ _ _ _).mono HD.out (fun k hk => .inl hk), HB.out, Kept.refl _ _⟩
    have FIN := Aside0.mk fin
    clear fin hB hD hok hm hg
    by_cases h1 : n < 0
    · have q1 : decide (n < 0) = true := decide_eq_true h1
      clear h1 hbad hn
      go_enter Try.func67, Try.ntmps67
      go_wp2_with (fail)
      go_ret
      exact FIN.out _ rfl
    · have q1 : decide (n < 0) = false := decide_eq_false h1
      by_cases h2 : n ≥ 2147483648
      · have q2 : decide (n ≥ 2147483648) = true := decide_eq_true h2
        have q2' : decide (2147483648 ≤ n) = true := decide_eq_true h2
        clear h1 h2 hbad hn
        go_enter Try.func67, Try.ntmps67
        go_wp2_with (fail)
        go_ret
        exact FIN.out _ rfl
      · have q2 : decide (n ≥ 2147483648) = false := decide_eq_false h2
        have q2' : decide (2147483648 ≤ n) = false := decide_eq_false h2
        have h3 : t.size ≠ 1024 := by omega
        have q3 : ((t.size : Int) == 1024) = false := beq_false (by omega)
        have q3' : ((t.size : Int) != 1024) = true := by simp [bne, q3]
        clear h1 h2 h3 hbad hn
        go_enter Try.func67, Try.ntmps67
        go_wp2_with (fail)
        go_ret
        exact FIN.out _ rfl
  · obtain ⟨k, rfl⟩ : ∃ k : Nat, n = (k : Int) := ⟨n.toNat, by omega⟩
    have hk : k < 2147483648 := by omega
    have ht : t.size = 1024 := by omega
    have q1 : decide ((k : Int) < 0) = false := decide_eq_false (by omega)
    have q2 : decide ((k : Int) ≥ 2147483648) = false := decide_eq_false (by omega)
    have q2' : decide ((2147483648 : Int) ≤ (k : Int)) = false := decide_eq_false (by omega)
    have HK := Aside0.mk hk
    have HT := Aside0.mk ht
    have q3 : ((t.size : Int) == 1024) = true := by rw [ht]; rfl
    have q3' : ((t.size : Int) != 1024) = false := by simp [bne, q3]
    have hlen := hg.n
    have w1_ : IntKind.i64.wrap ((g.fr.length : Int) * 1028) = (g.fr.length : Int) * 1028 := IntWalk.i64_in _ (by omega)
    have w2_ : IntKind.i64.wrap (64 + (g.fr.length : Int) * 1028) = 64 + (g.fr.length : Int) * 1028 := IntWalk.i64_in _ (by omega)
    have w3_ : IntKind.i64.wrap (64 + (g.fr.length : Int) * 1028 + 1028) = 64 + (g.fr.length : Int) * 1028 + 1028 := IntWalk.i64_in _ (by omega)
    have w4_ : IntKind.i64.wrap ((g.fr.length : Int) + 1) = (g.fr.length : Int) + 1 := IntWalk.i64_in _ (by omega)
    obtain ⟨O1, O2, hd, ⟨bn, bk, hx, hmn, hmk, hne, hgl, hbn, hbk, hb1, hb2, hb3⟩, -⟩ := id hD
    have HX := Aside0.mk hx
    have p0 : w.cell? ⟨gl, 0, none⟩ = some (.pointer (some ⟨gd, 0, none⟩)) := (blk_cell hx 0).trans rfl
    have p1 : w.cell? ⟨gl, 1, none⟩ = some (.int .i64 (g.fr.length : Int)) := (blk_cell hx 1).trans rfl
    clear hd hx hmn hmk hne hgl hbn hbk hb1 hb2 hb3
    by_cases hlarge : 64 + 1028 * g.fr.length + 1028 > 67108864
    · have HS := Aside0.mk (show Lg.append s g (k : Int) t = (8, s, g) by unfold Lg.append; rw [if_neg hbad, if_pos hlarge])
      have d_ : decide (64 + (g.fr.length : Int) * 1028 + 1028 > 67108864) = true := decide_eq_true (by omega)
      have d2_ : decide (67108864 < 64 + (g.fr.length : Int) * 1028 + 1028) = true := decide_eq_true (by omega)
      clear hB hD hok hm hg hbad hk ht hlen hlarge hn
      go_enter Try.func67, Try.ntmps67
      go_wp2_with (fail)
      go_ret
      refine ⟨by rw [HS.out]; rfl, ?_⟩
      rw [HS.out]
      exact ⟨(frPL _ _ _ _ _).mono HD.out (fun k hk => .inl hk), HB.out, Kept.refl _ _⟩
    · have d_ : decide (64 + (g.fr.length : Int) * 1028 + 1028 > 67108864) = false := decide_eq_false (by omega)
      have d2_ : decide (67108864 < 64 + (g.fr.length : Int) * 1028 + 1028) = false := decide_eq_false (by omega)
      have HLG := Aside0.mk hlarge
      have e4 : (fourB k).size + t.size = 1028 := by rw [size_four, ht]
      have HFR := Aside0.mk (four_is k)
      have hs : Lg.append s g (k : Int) t = if (s.write 1 ((64 + 1028 * g.fr.length : Nat) : Int) (fourB k ++ t)).1 = 0 then (0, (s.write 1 ((64 + 1028 * g.fr.length : Nat) : Int) (fourB k ++ t)).2, { g with fr := g.fr ++ [(k, t)] }) else ((s.write 1 ((64 + 1028 * g.fr.length : Nat) : Int) (fourB k ++ t)).1, (s.write 1 ((64 + 1028 * g.fr.length : Nat) : Int) (fourB k ++ t)).2, g) := by
        unfold Lg.append
        rw [if_neg hbad, if_neg hlarge, Int.toNat_natCast]
      have HAT := Aside0.mk (show ((64 + 1028 * g.fr.length : Nat) : Int) = 64 + (g.fr.length : Int) * 1028 by omega)
      rw [HAT.out] at hs
      obtain ⟨fk, hfk⟩ : ∃ fk, fk = fourB k := ⟨_, rfl⟩
      rw [← hfk] at hs HFR e4
      have sz1 : ¬ (9223372036854775807 < fk.size + t.size) := by omega
      have sz2 : (9223372036854775807 < fk.size + t.size) = False := eq_false sz1
      have HWR := Aside0.mk (show ∃ r, r = s.write 1 (64 + (g.fr.length : Int) * 1028) (fk ++ t) from ⟨_, rfl⟩)
      obtain ⟨⟨c, s2⟩, hr⟩ := HWR.out
      rw [← hr] at hs
      have HR := Aside0.mk hr
      have HS := Aside0.mk hs
      have HOK2 := Aside0.mk (show s2.ok (m + 1) by have h := hok.write 1 (64 + (g.fr.length : Int) * 1028) (fk ++ t); rw [← hr] at h; exact h)
      clear hB hD hok hm hg hbad hk ht hlen hlarge hn e4 hfk hr hs HWR sz1
      go_enter Try.func67, Try.ntmps67
      go_upto_region 6 with (fail)
      go_cut [8] from 30 to 39 (fun v8 wx => v8 = .int .i64 c ∧ Aside0 (PL wx w0.heap.size gd gl (fun k => O k ∨ w.heap.size ≤ k) s2 g) ∧ Aside0 (Kept w wx O) ∧ Aside0 (Below w0.heap.size w0 wx))
      case first =>
        go_region_law (first
          | (refine goes_ Try.func141 (by kernel_rfl) rfl #[.int .i64 (k : Int)] (by rfl) rfl rfl (by (try simp only [List.map_toArray, List.map_cons, List.map_nil]); first | done | rfl) ?_; (with_reducible refine (wal_four.calls (k : Int) fk _ HFR.out).mono ?_); rintro e w3 ⟨rfl, hb⟩; refine ⟨_, rfl, ?_⟩; have HB3 := Aside0.mk (below_step (below_drew (Below.refl _ w)) hb); have HD3 := Aside0.mk ((frPL _ _ _ _ _).apart HD.out (S := fun _ => False) (Kept.of_below HB3.out _) (fun _ _ h => h)); have HBB := Aside0.mk (below_step HB.out HB3.out); have p3 : w3.cell? ⟨gl, 0, none⟩ = some (.pointer (some ⟨gd, 0, none⟩)) := (blk_cell (blk_below HX.out HB3.out) 0).trans rfl; clear hb)
          | (refine goes_ Try.func125 (by kernel_rfl) rfl #[.pointer (some ⟨gd, 0, none⟩), .int .i64 1, .int .i64 (64 + (g.fr.length : Int) * 1028), .string (fk ++ t)] (by rfl) rfl rfl (by (try simp only [List.map_toArray, List.map_cons, List.map_nil]); first | done | rfl) ?_; obtain ⟨O1, h1, h2, h3, back⟩ := Sep.onL HD3.out (frD _ _ s2) (frL _ _ _ _); have hw := write.calls gd O1 s 1 (64 + (g.fr.length : Int) * 1028) (fk ++ t) m w0 _ HBB.out h1 HOK.out (Nat.le_trans HM.out (by decide)); rw [← HR.out] at hw; refine hw.mono ?_; rintro e w4 ⟨rfl, hd, hb, hk⟩; refine ⟨_, rfl, ?_⟩; have HD4 := Aside0.mk (back _ hd hk).1; have HK4 := Aside0.mk ((Kept.of_below HB3.out O).then_ (back _ hd hk).2 (fun k hk => .inl hk)); have HB4 := Aside0.mk hb; have HS4 := Aside0.mk HB3.out.size; clear hd hb hk hw back h1 h2 h3))
        all_goals
          try go_frame
          go_wp2_with (fail)
          go_meet
          case rel => exact ⟨rfl, ⟨(frPL _ _ _ _ _).mono HD4.out (fun k hk => hk.imp id (Nat.le_trans HS4.out))⟩, HK4, HB4⟩
      case rest =>
        obtain ⟨rfl, HD4, HK4, HB4⟩ := hcut
        clear p0 p1 HX HD HB HR HOK
        obtain ⟨O1, O2, hd, ⟨bn, bk, hx, hmn, hmk, hne, hgl, hbn, hbk, hb1, hb2, hb3⟩, ho1, ho2, hdis, hbd1, hbd2⟩ := id HD4.out
        by_cases hc0 : c = 0
        · subst hc0
          have HS0 := Aside0.mk (show Lg.append s g (k : Int) t = (0, s2, { g with fr := g.fr ++ [(k, t)] }) from HS.out.trans (if_pos rfl))
          have HX := Aside0.mk hx
          have HNG := Aside0.mk (hmn.ne hx)
          have HKG := Aside0.mk (hmk.ne hx)
          have HMN := Aside0.mk hmn
          have HMK := Aside0.mk hmk
          have HNE := Aside0.mk hne
          have HSEP := Aside0.mk (And.intro hd (And.intro hgl (And.intro hbn (And.intro hbk (And.intro hb1 (And.intro hb2 (And.intro hb3 (And.intro ho1 (And.intro ho2 (And.intro hdis (And.intro hbd1 hbd2)))))))))))
          have p1 : wc.cell? ⟨gl, 1, none⟩ = some (.int .i64 (g.fr.length : Int)) := (blk_cell hx 1).trans rfl
          have z1 := blk_frozen hx 1
          clear hd hx hmn hmk hne hgl hbn hbk hb1 hb2 hb3 ho1 ho2 hdis hbd1 hbd2
          go_upto_region 10 with (fail)
          have HX5 := Aside0.mk (show (wc.setCell ⟨gl, 1, none⟩ (.int .i64 ((g.fr.length : Int) + 1))).heap[gl]? = some (.cells (lcells gd ((g.fr.length : Int) + 1) g.pages bn g.kept g.pages bk g.slot g.number) 167 (0, 0)) from blk_put HX.out 1 _ rfl)
          have HMN5 := Aside0.mk (HMN.out.kept (w' := wc.setCell ⟨gl, 1, none⟩ (.int .i64 ((g.fr.length : Int) + 1))) (Below.heap_setCell wc ⟨gl, 1, none⟩ _ _ HNG.out))
          have HMK5 := Aside0.mk (HMK.out.kept (w' := wc.setCell ⟨gl, 1, none⟩ (.int .i64 ((g.fr.length : Int) + 1))) (Below.heap_setCell wc ⟨gl, 1, none⟩ _ _ HKG.out))
          have HK5 := Aside0.mk (show Kept wc (wc.setCell ⟨gl, 1, none⟩ (.int .i64 ((g.fr.length : Int) + 1))) (fun j => j = gl ∨ j = bn) from set_kept.mono (fun j hj => .inl hj))
          have HB5 := Aside0.mk (HB4.out.setCell (p := ⟨gl, 1, none⟩) HSEP.out.2.2.2.2.1 (.int .i64 ((g.fr.length : Int) + 1)))
          clear p1 z1 HMN HMK HX
          generalize wc.setCell ⟨gl, 1, none⟩ (.int .i64 ((g.fr.length : Int) + 1)) = w5 at HX5 HMN5 HMK5 HK5 HB5 ⊢
          have p3 : w5.cell? ⟨gl, 3, none⟩ = some (.map (some bn)) := (blk_cell HX5.out 3).trans rfl
          have p1 : w5.cell? ⟨gl, 1, none⟩ = some (.int .i64 ((g.fr.length : Int) + 1)) := (blk_cell HX5.out 1).trans rfl
          have hlen := HG.out.n
          obtain ⟨w6, hrun, hm6, hg6⟩ := MapF.put (w := w5.drew) (HMN5.out.kept rfl) (by unfold maxLen; omega) (x := (k : Int)) (y := (g.fr.length : Int) + 1) (wf_int (by have := HK.out; omega)) (wf_int (by omega))
          have HM6 := Aside0.mk hm6
          have HG6 := Aside0.mk hg6
          clear hm6 hg6 hlen
          go_region
          all_goals
            try go_frame
            go_wp2_with (fail)
            go_ret
            obtain ⟨hd, hgl, hbn, hbk, hb1, hb2, hb3, ho1, ho2, hdis, hbd1, hbd2⟩ := HSEP.out
            have hk6 : Kept wc w6 (fun j => j = gl ∨ j = bn) := HK5.out.then_ (Kept.of_grown HG6.out (Kept.drew (Kept.refl w5 (fun j => j = gl ∨ j = bn))) (fun j hj => .inl (.inr (Option.some.inj hj).symm))) (fun j hj => .inl hj)
            have hs6 := hk6.1
            refine ⟨by rw [HS0.out]; rfl, ?_, HB5.out.drew.grown HG6.out (below_size HB5.out.drew) (fun j hj => by cases hj; exact hb2), HK4.out.then_ hk6 (fun j hj => hj.elim (fun e => by rw [e]; exact ho2 _ hgl) (fun e => by rw [e]; exact ho2 _ hbn))⟩
            rw [HS0.out]
            refine ⟨O1, O2, (frD _ _ _).apart hd hk6 (fun j hj he => he.elim (fun e => hdis j hj (by rw [e]; exact hgl)) (fun e => hdis j hj (by rw [e]; exact hbn))), ?_, ho1, ho2, hdis, fun j hj => ⟨(hbd1 j hj).1, Nat.lt_of_lt_of_le (hbd1 j hj).2 hs6⟩, fun j hj => ⟨(hbd2 j hj).1, Nat.lt_of_lt_of_le (hbd2 j hj).2 hs6⟩⟩
            refine ⟨bn, bk, ?_, ?_, ?_, HNE.out, hgl, hbn, hbk, hb1, hb2, hb3⟩
            · have hb := blk_grown (blk_drew HX5.out) HG6.out (fun e => HNG.out (Option.some.inj e).symm)
              rw [show ((g.fr ++ [(k, t)]).length : Int) = (g.fr.length : Int) + 1 by simp]
              exact hb
            · have h := HM6.out
              rw [show (g.fr ++ [(k, t)]).length = g.fr.length + 1 by simp]
              rw [show idx (g.fr ++ [(k, t)]) = fun z => if z = (k : Int) then (g.fr.length : Int) + 1 else idx g.fr z from funext fun z => by
                rw [idx_snoc]
                by_cases e : z = (k : Int)
                · rw [if_pos e.symm, if_pos e]; omega
                · rw [if_neg (fun h => e h.symm), if_neg e]]
              exact h
            · rw [show (g.fr ++ [(k, t)]).take g.kept = g.fr.take g.kept from List.take_append_of_le_length HG.out.kept]
              exact HMK5.out.kept (HG6.out.block bk HMK5.out.lt (fun e => HNE.out (Option.some.inj e).symm))
        · have q_ : (c != 0) = true := by simp [bne, beq_false hc0]
          have HC0 := Aside0.mk hc0
          clear hc0 hd hx hmn hmk hne hgl hbn hbk hb1 hb2 hb3 ho1 ho2 hdis hbd1 hbd2
          go_wp2_with (fail)
          go_ret
          refine ⟨by rw [HS.out, if_neg HC0.out]; rfl, ?_⟩
          rw [HS.out, if_neg HC0.out]
          exact ⟨HD4.out, HB4.out, HK4.out⟩
end Go.Proofs.Ythaoaaboempajaa.Log
namespace Go.Proofs.Ythaoaaboempajaa.Log
open Go.RowKit Go.Maps Go.Proofs.Ythaoaaboempajaa.QLogRuns Go.Proofs.Ythaoaaboempajaa.QDiskRuns Go.Proofs.Ythaoaaboempajaa.Disk Go.Proofs.YthaoaaboempajaaW.PrintWords Go.Proofs.YthaoaaboempajaaW.PrintLast Go.Proofs.YthaoaaboempajaaW.PrintMore Go.Proofs.YthaoaaboempajaaX
set_option linter.unusedVariables false
set_option linter.unusedSimpArgs false
set_option maxHeartbeats 8000000 in
set_option maxRecDepth 100000 in
theorem done_176_177 (gs : Nat) (a1 a2 : Array Value) (c1 c2 : Int) (P1 P2 : World → Prop) (w : World)
    (hs : w.heap[gs]? = some (.cells #[.func (.func 176) #[] a1, .func (.func 177) #[] a2] 95 (0, 0)))
    (h1 : Calls Try.prog 176 a1 w fun e w' => e = .returned (.int .i64 c1) ∧ P1 w' ∧ w'.heap[gs]? = w.heap[gs]?)
    (h2 : c1 = 0 → ∀ w1 : World, P1 w1 → w1.heap[gs]? = w.heap[gs]? → Calls Try.prog 177 a2 w1 fun e w' => e = .returned (.int .i64 c2) ∧ P2 w' ∧ w'.heap[gs]? = w1.heap[gs]?)
    : Calls Try.prog 142 #[.slice (some ⟨gs, 0, none⟩) 2 2] w fun e w' => e = .returned (.int .i64 (if c1 ≠ 0 then c1 else c2)) ∧ (if c1 ≠ 0 then P1 w' else P2 w') := by
  have H1 := Aside0.mk h1
  have H2 := Aside0.mk h2
  have HS := Aside0.mk hs
  have k0 : w.cell? ⟨gs, 0, none⟩ = some (.func (.func 176) #[] a1) := (blk_cell hs 0).trans rfl
  have k1 : w.cell? ⟨gs, 1, none⟩ = some (.func (.func 177) #[] a2) := (blk_cell hs 1).trans rfl
  clear hs h1 h2
  by_cases e1 : c1 = 0
  · subst e1
    have G2 := Aside0.mk (H2.out rfl); clear H2
    by_cases e2 : c2 = 0
    · subst e2
      go_enter Try.func142, Try.ntmps142
      go_wp2_with (fail)
      refine wp_loop_rounds 3 ?_
      rw [rounds_succ]
      have X1 := Aside0.mk (H1.out)
      go_wp2_with (go_at_call 176; (with_reducible refine X1.out.mono ?_); rintro e w1 ⟨rfl, p_, k_⟩; have K1 := Aside0.mk k_; have PP1 := Aside0.mk p_; clear p_ k_)
      clear k0
      rw [rounds_succ]
      have X2 := Aside0.mk (G2.out _ PP1.out (K1.out))
      have k1 : w1.cell? ⟨gs, 1, none⟩ = some (.func (.func 177) #[] a2) := (blk_cell ((K1.out).trans HS.out) 1).trans rfl
      go_wp2_with (go_at_call 177; (with_reducible refine X2.out.mono ?_); rintro e w2 ⟨rfl, p_, k_⟩; have K2 := Aside0.mk k_; have PP2 := Aside0.mk p_; clear p_ k_)
      clear k1
      rw [rounds_succ]
      go_wp2_with (fail)
      go_ret
      exact ⟨by simp, by simpa using PP2.out⟩
    · have q2 : (c2 != 0) = true := by simp [bne, beq_false e2]
      have E2 := Aside0.mk e2
      go_enter Try.func142, Try.ntmps142
      go_wp2_with (fail)
      refine wp_loop_rounds 3 ?_
      rw [rounds_succ]
      have X1 := Aside0.mk (H1.out)
      go_wp2_with (go_at_call 176; (with_reducible refine X1.out.mono ?_); rintro e w1 ⟨rfl, p_, k_⟩; have K1 := Aside0.mk k_; have PP1 := Aside0.mk p_; clear p_ k_)
      clear k0
      rw [rounds_succ]
      have X2 := Aside0.mk (G2.out _ PP1.out (K1.out))
      have k1 : w1.cell? ⟨gs, 1, none⟩ = some (.func (.func 177) #[] a2) := (blk_cell ((K1.out).trans HS.out) 1).trans rfl
      go_wp2_with (go_at_call 177; (with_reducible refine X2.out.mono ?_); rintro e w2 ⟨rfl, p_, k_⟩; have K2 := Aside0.mk k_; have PP2 := Aside0.mk p_; clear p_ k_)
      clear k1
      go_ret
      exact ⟨by simp, by simpa using PP2.out⟩
  · have q1 : (c1 != 0) = true := by simp [bne, beq_false e1]
    have E1 := Aside0.mk e1
    go_enter Try.func142, Try.ntmps142
    go_wp2_with (fail)
    refine wp_loop_rounds 3 ?_
    rw [rounds_succ]
    have X1 := Aside0.mk (H1.out)
    go_wp2_with (go_at_call 176; (with_reducible refine X1.out.mono ?_); rintro e w1 ⟨rfl, p_, k_⟩; have K1 := Aside0.mk k_; have PP1 := Aside0.mk p_; clear p_ k_)
    clear k0
    go_ret
    exact ⟨by simp [E1.out], by simpa [E1.out] using PP1.out⟩
set_option maxHeartbeats 8000000 in
set_option maxRecDepth 100000 in
theorem done_143_144_145 (gs : Nat) (a1 a2 a3 : Array Value) (c1 c2 c3 : Int) (P1 P2 P3 : World → Prop) (w : World)
    (hs : w.heap[gs]? = some (.cells #[.func (.func 143) #[] a1, .func (.func 144) #[] a2, .func (.func 145) #[] a3] 95 (0, 0)))
    (h1 : Calls Try.prog 143 a1 w fun e w' => e = .returned (.int .i64 c1) ∧ P1 w' ∧ w'.heap[gs]? = w.heap[gs]?)
    (h2 : c1 = 0 → ∀ w1 : World, P1 w1 → w1.heap[gs]? = w.heap[gs]? → Calls Try.prog 144 a2 w1 fun e w' => e = .returned (.int .i64 c2) ∧ P2 w' ∧ w'.heap[gs]? = w1.heap[gs]?)
    (h3 : c1 = 0 → c2 = 0 → ∀ w1 : World, P2 w1 → w1.heap[gs]? = w.heap[gs]? → Calls Try.prog 145 a3 w1 fun e w' => e = .returned (.int .i64 c3) ∧ P3 w' ∧ w'.heap[gs]? = w1.heap[gs]?)
    : Calls Try.prog 142 #[.slice (some ⟨gs, 0, none⟩) 3 3] w fun e w' => e = .returned (.int .i64 (if c1 ≠ 0 then c1 else if c2 ≠ 0 then c2 else c3)) ∧ (if c1 ≠ 0 then P1 w' else if c2 ≠ 0 then P2 w' else P3 w') := by
  have H1 := Aside0.mk h1
  have H2 := Aside0.mk h2
  have H3 := Aside0.mk h3
  have HS := Aside0.mk hs
  have k0 : w.cell? ⟨gs, 0, none⟩ = some (.func (.func 143) #[] a1) := (blk_cell hs 0).trans rfl
  have k1 : w.cell? ⟨gs, 1, none⟩ = some (.func (.func 144) #[] a2) := (blk_cell hs 1).trans rfl
  have k2 : w.cell? ⟨gs, 2, none⟩ = some (.func (.func 145) #[] a3) := (blk_cell hs 2).trans rfl
  clear hs h1 h2 h3
  by_cases e1 : c1 = 0
  · subst e1
    have G2 := Aside0.mk (H2.out rfl); clear H2
    by_cases e2 : c2 = 0
    · subst e2
      have G3 := Aside0.mk (H3.out rfl rfl); clear H3
      by_cases e3 : c3 = 0
      · subst e3
        go_enter Try.func142, Try.ntmps142
        go_wp2_with (fail)
        refine wp_loop_rounds 4 ?_
        rw [rounds_succ]
        have X1 := Aside0.mk (H1.out)
        go_wp2_with (go_at_call 143; (with_reducible refine X1.out.mono ?_); rintro e w1 ⟨rfl, p_, k_⟩; have K1 := Aside0.mk k_; have PP1 := Aside0.mk p_; clear p_ k_)
        clear k0
        rw [rounds_succ]
        have X2 := Aside0.mk (G2.out _ PP1.out (K1.out))
        have k1 : w1.cell? ⟨gs, 1, none⟩ = some (.func (.func 144) #[] a2) := (blk_cell ((K1.out).trans HS.out) 1).trans rfl
        go_wp2_with (go_at_call 144; (with_reducible refine X2.out.mono ?_); rintro e w2 ⟨rfl, p_, k_⟩; have K2 := Aside0.mk k_; have PP2 := Aside0.mk p_; clear p_ k_)
        clear k1
        rw [rounds_succ]
        have X3 := Aside0.mk (G3.out _ PP2.out (K2.out.trans (K1.out)))
        have k2 : w2.cell? ⟨gs, 2, none⟩ = some (.func (.func 145) #[] a3) := (blk_cell ((K2.out.trans (K1.out)).trans HS.out) 2).trans rfl
        go_wp2_with (go_at_call 145; (with_reducible refine X3.out.mono ?_); rintro e w3 ⟨rfl, p_, k_⟩; have K3 := Aside0.mk k_; have PP3 := Aside0.mk p_; clear p_ k_)
        clear k2
        rw [rounds_succ]
        go_wp2_with (fail)
        go_ret
        exact ⟨by simp, by simpa using PP3.out⟩
      · have q3 : (c3 != 0) = true := by simp [bne, beq_false e3]
        have E3 := Aside0.mk e3
        go_enter Try.func142, Try.ntmps142
        go_wp2_with (fail)
        refine wp_loop_rounds 4 ?_
        rw [rounds_succ]
        have X1 := Aside0.mk (H1.out)
        go_wp2_with (go_at_call 143; (with_reducible refine X1.out.mono ?_); rintro e w1 ⟨rfl, p_, k_⟩; have K1 := Aside0.mk k_; have PP1 := Aside0.mk p_; clear p_ k_)
        clear k0
        rw [rounds_succ]
        have X2 := Aside0.mk (G2.out _ PP1.out (K1.out))
        have k1 : w1.cell? ⟨gs, 1, none⟩ = some (.func (.func 144) #[] a2) := (blk_cell ((K1.out).trans HS.out) 1).trans rfl
        go_wp2_with (go_at_call 144; (with_reducible refine X2.out.mono ?_); rintro e w2 ⟨rfl, p_, k_⟩; have K2 := Aside0.mk k_; have PP2 := Aside0.mk p_; clear p_ k_)
        clear k1
        rw [rounds_succ]
        have X3 := Aside0.mk (G3.out _ PP2.out (K2.out.trans (K1.out)))
        have k2 : w2.cell? ⟨gs, 2, none⟩ = some (.func (.func 145) #[] a3) := (blk_cell ((K2.out.trans (K1.out)).trans HS.out) 2).trans rfl
        go_wp2_with (go_at_call 145; (with_reducible refine X3.out.mono ?_); rintro e w3 ⟨rfl, p_, k_⟩; have K3 := Aside0.mk k_; have PP3 := Aside0.mk p_; clear p_ k_)
        clear k2
        go_ret
        exact ⟨by simp, by simpa using PP3.out⟩
    · have q2 : (c2 != 0) = true := by simp [bne, beq_false e2]
      have E2 := Aside0.mk e2
      go_enter Try.func142, Try.ntmps142
      go_wp2_with (fail)
      refine wp_loop_rounds 4 ?_
      rw [rounds_succ]
      have X1 := Aside0.mk (H1.out)
      go_wp2_with (go_at_call 143; (with_reducible refine X1.out.mono ?_); rintro e w1 ⟨rfl, p_, k_⟩; have K1 := Aside0.mk k_; have PP1 := Aside0.mk p_; clear p_ k_)
      clear k0
      rw [rounds_succ]
      have X2 := Aside0.mk (G2.out _ PP1.out (K1.out))
      have k1 : w1.cell? ⟨gs, 1, none⟩ = some (.func (.func 144) #[] a2) := (blk_cell ((K1.out).trans HS.out) 1).trans rfl
      go_wp2_with (go_at_call 144; (with_reducible refine X2.out.mono ?_); rintro e w2 ⟨rfl, p_, k_⟩; have K2 := Aside0.mk k_; have PP2 := Aside0.mk p_; clear p_ k_)
      clear k1
      go_ret
      exact ⟨by simp [E2.out], by simpa [E2.out] using PP2.out⟩
  · have q1 : (c1 != 0) = true := by simp [bne, beq_false e1]
    have E1 := Aside0.mk e1
    go_enter Try.func142, Try.ntmps142
    go_wp2_with (fail)
    refine wp_loop_rounds 4 ?_
    rw [rounds_succ]
    have X1 := Aside0.mk (H1.out)
    go_wp2_with (go_at_call 143; (with_reducible refine X1.out.mono ?_); rintro e w1 ⟨rfl, p_, k_⟩; have K1 := Aside0.mk k_; have PP1 := Aside0.mk p_; clear p_ k_)
    clear k0
    go_ret
    exact ⟨by simp [E1.out], by simpa [E1.out] using PP1.out⟩
set_option maxHeartbeats 8000000 in
set_option maxRecDepth 100000 in
theorem done_147_148_149 (gs : Nat) (a1 a2 a3 : Array Value) (c1 c2 c3 : Int) (P1 P2 P3 : World → Prop) (w : World)
    (hs : w.heap[gs]? = some (.cells #[.func (.func 147) #[] a1, .func (.func 148) #[] a2, .func (.func 149) #[] a3] 95 (0, 0)))
    (h1 : Calls Try.prog 147 a1 w fun e w' => e = .returned (.int .i64 c1) ∧ P1 w' ∧ w'.heap[gs]? = w.heap[gs]?)
    (h2 : c1 = 0 → ∀ w1 : World, P1 w1 → w1.heap[gs]? = w.heap[gs]? → Calls Try.prog 148 a2 w1 fun e w' => e = .returned (.int .i64 c2) ∧ P2 w' ∧ w'.heap[gs]? = w1.heap[gs]?)
    (h3 : c1 = 0 → c2 = 0 → ∀ w1 : World, P2 w1 → w1.heap[gs]? = w.heap[gs]? → Calls Try.prog 149 a3 w1 fun e w' => e = .returned (.int .i64 c3) ∧ P3 w' ∧ w'.heap[gs]? = w1.heap[gs]?)
    : Calls Try.prog 142 #[.slice (some ⟨gs, 0, none⟩) 3 3] w fun e w' => e = .returned (.int .i64 (if c1 ≠ 0 then c1 else if c2 ≠ 0 then c2 else c3)) ∧ (if c1 ≠ 0 then P1 w' else if c2 ≠ 0 then P2 w' else P3 w') := by
  have H1 := Aside0.mk h1
  have H2 := Aside0.mk h2
  have H3 := Aside0.mk h3
  have HS := Aside0.mk hs
  have k0 : w.cell? ⟨gs, 0, none⟩ = some (.func (.func 147) #[] a1) := (blk_cell hs 0).trans rfl
  have k1 : w.cell? ⟨gs, 1, none⟩ = some (.func (.func 148) #[] a2) := (blk_cell hs 1).trans rfl
  have k2 : w.cell? ⟨gs, 2, none⟩ = some (.func (.func 149) #[] a3) := (blk_cell hs 2).trans rfl
  clear hs h1 h2 h3
  by_cases e1 : c1 = 0
  · subst e1
    have G2 := Aside0.mk (H2.out rfl); clear H2
    by_cases e2 : c2 = 0
    · subst e2
      have G3 := Aside0.mk (H3.out rfl rfl); clear H3
      by_cases e3 : c3 = 0
      · subst e3
        go_enter Try.func142, Try.ntmps142
        go_wp2_with (fail)
        refine wp_loop_rounds 4 ?_
        rw [rounds_succ]
        have X1 := Aside0.mk (H1.out)
        go_wp2_with (go_at_call 147; (with_reducible refine X1.out.mono ?_); rintro e w1 ⟨rfl, p_, k_⟩; have K1 := Aside0.mk k_; have PP1 := Aside0.mk p_; clear p_ k_)
        clear k0
        rw [rounds_succ]
        have X2 := Aside0.mk (G2.out _ PP1.out (K1.out))
        have k1 : w1.cell? ⟨gs, 1, none⟩ = some (.func (.func 148) #[] a2) := (blk_cell ((K1.out).trans HS.out) 1).trans rfl
        go_wp2_with (go_at_call 148; (with_reducible refine X2.out.mono ?_); rintro e w2 ⟨rfl, p_, k_⟩; have K2 := Aside0.mk k_; have PP2 := Aside0.mk p_; clear p_ k_)
        clear k1
        rw [rounds_succ]
        have X3 := Aside0.mk (G3.out _ PP2.out (K2.out.trans (K1.out)))
        have k2 : w2.cell? ⟨gs, 2, none⟩ = some (.func (.func 149) #[] a3) := (blk_cell ((K2.out.trans (K1.out)).trans HS.out) 2).trans rfl
        go_wp2_with (go_at_call 149; (with_reducible refine X3.out.mono ?_); rintro e w3 ⟨rfl, p_, k_⟩; have K3 := Aside0.mk k_; have PP3 := Aside0.mk p_; clear p_ k_)
        clear k2
        rw [rounds_succ]
        go_wp2_with (fail)
        go_ret
        exact ⟨by simp, by simpa using PP3.out⟩
      · have q3 : (c3 != 0) = true := by simp [bne, beq_false e3]
        have E3 := Aside0.mk e3
        go_enter Try.func142, Try.ntmps142
        go_wp2_with (fail)
        refine wp_loop_rounds 4 ?_
        rw [rounds_succ]
        have X1 := Aside0.mk (H1.out)
        go_wp2_with (go_at_call 147; (with_reducible refine X1.out.mono ?_); rintro e w1 ⟨rfl, p_, k_⟩; have K1 := Aside0.mk k_; have PP1 := Aside0.mk p_; clear p_ k_)
        clear k0
        rw [rounds_succ]
        have X2 := Aside0.mk (G2.out _ PP1.out (K1.out))
        have k1 : w1.cell? ⟨gs, 1, none⟩ = some (.func (.func 148) #[] a2) := (blk_cell ((K1.out).trans HS.out) 1).trans rfl
        go_wp2_with (go_at_call 148; (with_reducible refine X2.out.mono ?_); rintro e w2 ⟨rfl, p_, k_⟩; have K2 := Aside0.mk k_; have PP2 := Aside0.mk p_; clear p_ k_)
        clear k1
        rw [rounds_succ]
        have X3 := Aside0.mk (G3.out _ PP2.out (K2.out.trans (K1.out)))
        have k2 : w2.cell? ⟨gs, 2, none⟩ = some (.func (.func 149) #[] a3) := (blk_cell ((K2.out.trans (K1.out)).trans HS.out) 2).trans rfl
        go_wp2_with (go_at_call 149; (with_reducible refine X3.out.mono ?_); rintro e w3 ⟨rfl, p_, k_⟩; have K3 := Aside0.mk k_; have PP3 := Aside0.mk p_; clear p_ k_)
        clear k2
        go_ret
        exact ⟨by simp, by simpa using PP3.out⟩
    · have q2 : (c2 != 0) = true := by simp [bne, beq_false e2]
      have E2 := Aside0.mk e2
      go_enter Try.func142, Try.ntmps142
      go_wp2_with (fail)
      refine wp_loop_rounds 4 ?_
      rw [rounds_succ]
      have X1 := Aside0.mk (H1.out)
      go_wp2_with (go_at_call 147; (with_reducible refine X1.out.mono ?_); rintro e w1 ⟨rfl, p_, k_⟩; have K1 := Aside0.mk k_; have PP1 := Aside0.mk p_; clear p_ k_)
      clear k0
      rw [rounds_succ]
      have X2 := Aside0.mk (G2.out _ PP1.out (K1.out))
      have k1 : w1.cell? ⟨gs, 1, none⟩ = some (.func (.func 148) #[] a2) := (blk_cell ((K1.out).trans HS.out) 1).trans rfl
      go_wp2_with (go_at_call 148; (with_reducible refine X2.out.mono ?_); rintro e w2 ⟨rfl, p_, k_⟩; have K2 := Aside0.mk k_; have PP2 := Aside0.mk p_; clear p_ k_)
      clear k1
      go_ret
      exact ⟨by simp [E2.out], by simpa [E2.out] using PP2.out⟩
  · have q1 : (c1 != 0) = true := by simp [bne, beq_false e1]
    have E1 := Aside0.mk e1
    go_enter Try.func142, Try.ntmps142
    go_wp2_with (fail)
    refine wp_loop_rounds 4 ?_
    rw [rounds_succ]
    have X1 := Aside0.mk (H1.out)
    go_wp2_with (go_at_call 147; (with_reducible refine X1.out.mono ?_); rintro e w1 ⟨rfl, p_, k_⟩; have K1 := Aside0.mk k_; have PP1 := Aside0.mk p_; clear p_ k_)
    clear k0
    go_ret
    exact ⟨by simp [E1.out], by simpa [E1.out] using PP1.out⟩
set_option maxHeartbeats 8000000 in
set_option maxRecDepth 100000 in
theorem done_171_172_173_175 (gs : Nat) (a1 a2 a3 a4 : Array Value) (c1 c2 c3 c4 : Int) (P1 P2 P3 P4 : World → Prop) (w : World)
    (hs : w.heap[gs]? = some (.cells #[.func (.func 171) #[] a1, .func (.func 172) #[] a2, .func (.func 173) #[] a3, .func (.func 175) #[] a4] 95 (0, 0)))
    (h1 : Calls Try.prog 171 a1 w fun e w' => e = .returned (.int .i64 c1) ∧ P1 w' ∧ w'.heap[gs]? = w.heap[gs]?)
    (h2 : c1 = 0 → ∀ w1 : World, P1 w1 → w1.heap[gs]? = w.heap[gs]? → Calls Try.prog 172 a2 w1 fun e w' => e = .returned (.int .i64 c2) ∧ P2 w' ∧ w'.heap[gs]? = w1.heap[gs]?)
    (h3 : c1 = 0 → c2 = 0 → ∀ w1 : World, P2 w1 → w1.heap[gs]? = w.heap[gs]? → Calls Try.prog 173 a3 w1 fun e w' => e = .returned (.int .i64 c3) ∧ P3 w' ∧ w'.heap[gs]? = w1.heap[gs]?)
    (h4 : c1 = 0 → c2 = 0 → c3 = 0 → ∀ w1 : World, P3 w1 → w1.heap[gs]? = w.heap[gs]? → Calls Try.prog 175 a4 w1 fun e w' => e = .returned (.int .i64 c4) ∧ P4 w' ∧ w'.heap[gs]? = w1.heap[gs]?)
    : Calls Try.prog 142 #[.slice (some ⟨gs, 0, none⟩) 4 4] w fun e w' => e = .returned (.int .i64 (if c1 ≠ 0 then c1 else if c2 ≠ 0 then c2 else if c3 ≠ 0 then c3 else c4)) ∧ (if c1 ≠ 0 then P1 w' else if c2 ≠ 0 then P2 w' else if c3 ≠ 0 then P3 w' else P4 w') := by
  have H1 := Aside0.mk h1
  have H2 := Aside0.mk h2
  have H3 := Aside0.mk h3
  have H4 := Aside0.mk h4
  have HS := Aside0.mk hs
  have k0 : w.cell? ⟨gs, 0, none⟩ = some (.func (.func 171) #[] a1) := (blk_cell hs 0).trans rfl
  have k1 : w.cell? ⟨gs, 1, none⟩ = some (.func (.func 172) #[] a2) := (blk_cell hs 1).trans rfl
  have k2 : w.cell? ⟨gs, 2, none⟩ = some (.func (.func 173) #[] a3) := (blk_cell hs 2).trans rfl
  have k3 : w.cell? ⟨gs, 3, none⟩ = some (.func (.func 175) #[] a4) := (blk_cell hs 3).trans rfl
  clear hs h1 h2 h3 h4
  by_cases e1 : c1 = 0
  · subst e1
    have G2 := Aside0.mk (H2.out rfl); clear H2
    by_cases e2 : c2 = 0
    · subst e2
      have G3 := Aside0.mk (H3.out rfl rfl); clear H3
      by_cases e3 : c3 = 0
      · subst e3
        have G4 := Aside0.mk (H4.out rfl rfl rfl); clear H4
        by_cases e4 : c4 = 0
        · subst e4
          go_enter Try.func142, Try.ntmps142
          go_wp2_with (fail)
          refine wp_loop_rounds 5 ?_
          rw [rounds_succ]
          have X1 := Aside0.mk (H1.out)
          go_wp2_with (go_at_call 171; (with_reducible refine X1.out.mono ?_); rintro e w1 ⟨rfl, p_, k_⟩; have K1 := Aside0.mk k_; have PP1 := Aside0.mk p_; clear p_ k_)
          clear k0
          rw [rounds_succ]
          have X2 := Aside0.mk (G2.out _ PP1.out (K1.out))
          have k1 : w1.cell? ⟨gs, 1, none⟩ = some (.func (.func 172) #[] a2) := (blk_cell ((K1.out).trans HS.out) 1).trans rfl
          go_wp2_with (go_at_call 172; (with_reducible refine X2.out.mono ?_); rintro e w2 ⟨rfl, p_, k_⟩; have K2 := Aside0.mk k_; have PP2 := Aside0.mk p_; clear p_ k_)
          clear k1
          rw [rounds_succ]
          have X3 := Aside0.mk (G3.out _ PP2.out (K2.out.trans (K1.out)))
          have k2 : w2.cell? ⟨gs, 2, none⟩ = some (.func (.func 173) #[] a3) := (blk_cell ((K2.out.trans (K1.out)).trans HS.out) 2).trans rfl
          go_wp2_with (go_at_call 173; (with_reducible refine X3.out.mono ?_); rintro e w3 ⟨rfl, p_, k_⟩; have K3 := Aside0.mk k_; have PP3 := Aside0.mk p_; clear p_ k_)
          clear k2
          rw [rounds_succ]
          have X4 := Aside0.mk (G4.out _ PP3.out (K3.out.trans (K2.out.trans (K1.out))))
          have k3 : w3.cell? ⟨gs, 3, none⟩ = some (.func (.func 175) #[] a4) := (blk_cell ((K3.out.trans (K2.out.trans (K1.out))).trans HS.out) 3).trans rfl
          go_wp2_with (go_at_call 175; (with_reducible refine X4.out.mono ?_); rintro e w4 ⟨rfl, p_, k_⟩; have K4 := Aside0.mk k_; have PP4 := Aside0.mk p_; clear p_ k_)
          clear k3
          rw [rounds_succ]
          go_wp2_with (fail)
          go_ret
          exact ⟨by simp, by simpa using PP4.out⟩
        · have q4 : (c4 != 0) = true := by simp [bne, beq_false e4]
          have E4 := Aside0.mk e4
          go_enter Try.func142, Try.ntmps142
          go_wp2_with (fail)
          refine wp_loop_rounds 5 ?_
          rw [rounds_succ]
          have X1 := Aside0.mk (H1.out)
          go_wp2_with (go_at_call 171; (with_reducible refine X1.out.mono ?_); rintro e w1 ⟨rfl, p_, k_⟩; have K1 := Aside0.mk k_; have PP1 := Aside0.mk p_; clear p_ k_)
          clear k0
          rw [rounds_succ]
          have X2 := Aside0.mk (G2.out _ PP1.out (K1.out))
          have k1 : w1.cell? ⟨gs, 1, none⟩ = some (.func (.func 172) #[] a2) := (blk_cell ((K1.out).trans HS.out) 1).trans rfl
          go_wp2_with (go_at_call 172; (with_reducible refine X2.out.mono ?_); rintro e w2 ⟨rfl, p_, k_⟩; have K2 := Aside0.mk k_; have PP2 := Aside0.mk p_; clear p_ k_)
          clear k1
          rw [rounds_succ]
          have X3 := Aside0.mk (G3.out _ PP2.out (K2.out.trans (K1.out)))
          have k2 : w2.cell? ⟨gs, 2, none⟩ = some (.func (.func 173) #[] a3) := (blk_cell ((K2.out.trans (K1.out)).trans HS.out) 2).trans rfl
          go_wp2_with (go_at_call 173; (with_reducible refine X3.out.mono ?_); rintro e w3 ⟨rfl, p_, k_⟩; have K3 := Aside0.mk k_; have PP3 := Aside0.mk p_; clear p_ k_)
          clear k2
          rw [rounds_succ]
          have X4 := Aside0.mk (G4.out _ PP3.out (K3.out.trans (K2.out.trans (K1.out))))
          have k3 : w3.cell? ⟨gs, 3, none⟩ = some (.func (.func 175) #[] a4) := (blk_cell ((K3.out.trans (K2.out.trans (K1.out))).trans HS.out) 3).trans rfl
          go_wp2_with (go_at_call 175; (with_reducible refine X4.out.mono ?_); rintro e w4 ⟨rfl, p_, k_⟩; have K4 := Aside0.mk k_; have PP4 := Aside0.mk p_; clear p_ k_)
          clear k3
          go_ret
          exact ⟨by simp, by simpa using PP4.out⟩
      · have q3 : (c3 != 0) = true := by simp [bne, beq_false e3]
        have E3 := Aside0.mk e3
        go_enter Try.func142, Try.ntmps142
        go_wp2_with (fail)
        refine wp_loop_rounds 5 ?_
        rw [rounds_succ]
        have X1 := Aside0.mk (H1.out)
        go_wp2_with (go_at_call 171; (with_reducible refine X1.out.mono ?_); rintro e w1 ⟨rfl, p_, k_⟩; have K1 := Aside0.mk k_; have PP1 := Aside0.mk p_; clear p_ k_)
        clear k0
        rw [rounds_succ]
        have X2 := Aside0.mk (G2.out _ PP1.out (K1.out))
        have k1 : w1.cell? ⟨gs, 1, none⟩ = some (.func (.func 172) #[] a2) := (blk_cell ((K1.out).trans HS.out) 1).trans rfl
        go_wp2_with (go_at_call 172; (with_reducible refine X2.out.mono ?_); rintro e w2 ⟨rfl, p_, k_⟩; have K2 := Aside0.mk k_; have PP2 := Aside0.mk p_; clear p_ k_)
        clear k1
        rw [rounds_succ]
        have X3 := Aside0.mk (G3.out _ PP2.out (K2.out.trans (K1.out)))
        have k2 : w2.cell? ⟨gs, 2, none⟩ = some (.func (.func 173) #[] a3) := (blk_cell ((K2.out.trans (K1.out)).trans HS.out) 2).trans rfl
        go_wp2_with (go_at_call 173; (with_reducible refine X3.out.mono ?_); rintro e w3 ⟨rfl, p_, k_⟩; have K3 := Aside0.mk k_; have PP3 := Aside0.mk p_; clear p_ k_)
        clear k2
        go_ret
        exact ⟨by simp [E3.out], by simpa [E3.out] using PP3.out⟩
    · have q2 : (c2 != 0) = true := by simp [bne, beq_false e2]
      have E2 := Aside0.mk e2
      go_enter Try.func142, Try.ntmps142
      go_wp2_with (fail)
      refine wp_loop_rounds 5 ?_
      rw [rounds_succ]
      have X1 := Aside0.mk (H1.out)
      go_wp2_with (go_at_call 171; (with_reducible refine X1.out.mono ?_); rintro e w1 ⟨rfl, p_, k_⟩; have K1 := Aside0.mk k_; have PP1 := Aside0.mk p_; clear p_ k_)
      clear k0
      rw [rounds_succ]
      have X2 := Aside0.mk (G2.out _ PP1.out (K1.out))
      have k1 : w1.cell? ⟨gs, 1, none⟩ = some (.func (.func 172) #[] a2) := (blk_cell ((K1.out).trans HS.out) 1).trans rfl
      go_wp2_with (go_at_call 172; (with_reducible refine X2.out.mono ?_); rintro e w2 ⟨rfl, p_, k_⟩; have K2 := Aside0.mk k_; have PP2 := Aside0.mk p_; clear p_ k_)
      clear k1
      go_ret
      exact ⟨by simp [E2.out], by simpa [E2.out] using PP2.out⟩
  · have q1 : (c1 != 0) = true := by simp [bne, beq_false e1]
    have E1 := Aside0.mk e1
    go_enter Try.func142, Try.ntmps142
    go_wp2_with (fail)
    refine wp_loop_rounds 5 ?_
    rw [rounds_succ]
    have X1 := Aside0.mk (H1.out)
    go_wp2_with (go_at_call 171; (with_reducible refine X1.out.mono ?_); rintro e w1 ⟨rfl, p_, k_⟩; have K1 := Aside0.mk k_; have PP1 := Aside0.mk p_; clear p_ k_)
    clear k0
    go_ret
    exact ⟨by simp [E1.out], by simpa [E1.out] using PP1.out⟩
end Go.Proofs.Ythaoaaboempajaa.Log
namespace Go.Proofs.Ythaoaaboempajaa.Log
open Go.RowKit Go.Maps Go.Proofs.Ythaoaaboempajaa.QLogRuns Go.Proofs.Ythaoaaboempajaa.QDiskRuns Go.Proofs.Ythaoaaboempajaa.Disk Go.Proofs.YthaoaaboempajaaW.PrintWords Go.Proofs.YthaoaaboempajaaW.PrintLast Go.Proofs.YthaoaaboempajaaW.PrintMore Go.Proofs.YthaoaaboempajaaX
set_option linter.unusedVariables false
set_option linter.unusedSimpArgs false
structure Lk (base gd gl : Nat) (L : World → (Nat → Prop) → Prop) : Prop where
  fr : Fr base L
  disk : ∀ w O, L w O → w.cell? ⟨gl, 0, none⟩ = some (.pointer (some ⟨gd, 0, none⟩))
theorem lkLX (base gd gl : Nat) (g : Lg) : Lk base gd gl (LX base gl gd g) :=
  ⟨frL _ _ _ _, fun w O h => by obtain ⟨bn, bk, hx, -⟩ := h; exact (blk_cell hx 0).trans rfl⟩
structure WB (w0 w : World) (bx : List (Nat × Obj)) (gd : Nat) (L : World → (Nat → Prop) → Prop) (O : Nat → Prop) (s : St) : Prop where
  hB : Below w0.heap.size w0 w
  hD : Sep w0.heap.size (fun w O => DD w w0.heap.size gd O s) L w O
  bx : ∀ x ∈ bx, w.heap[x.1]? = some x.2 ∧ ¬ O x.1
section
variable {w0 w w' : World} {bx : List (Nat × Obj)} {gd gl : Nat} {L L' : World → (Nat → Prop) → Prop} {O : Nat → Prop} {s s' : St}
theorem WB.below (h : WB w0 w bx gd L O s) (hl : Lk w0.heap.size gd gl L) (hb : Below w.heap.size w w') : WB w0 w' bx gd L O s :=
  ⟨below_step h.hB hb, (frSep (frD _ _ _) hl.fr).apart h.hD (S := fun _ => False) (Kept.of_below hb _) (fun _ _ h => h), fun x hx => ⟨(Kept.of_below hb (fun _ => False)).2 x.1 (by have := (h.bx x hx).1; exact (Array.getElem?_eq_some_iff.mp this).1) (fun h => h) |>.trans (h.bx x hx).1, (h.bx x hx).2⟩⟩
theorem WB.drew (h : WB w0 w bx gd L O s) (hl : Lk w0.heap.size gd gl L) : WB w0 w.drew bx gd L O s := h.below hl (below_drew (Below.refl _ w))
theorem WB.disk (h : WB w0 w bx gd L O s) (hl : Lk w0.heap.size gd gl L) : w.cell? ⟨gl, 0, none⟩ = some (.pointer (some ⟨gd, 0, none⟩)) := by
  obtain ⟨O1, O2, -, h2, -⟩ := h.hD
  exact hl.disk _ _ h2
theorem WB.box (h : WB w0 w bx gd L O s) (b : Nat) (cs : Array Value) (t : TypeId) (hx : (b, Obj.cells cs t (0, 0)) ∈ bx) (i : Nat) : w.cell? ⟨b, i, none⟩ = cs[i]? := by
  have := (h.bx _ hx).1
  exact blk_cell this i
theorem WB.lt (h : WB w0 w bx gd L O s) {x : Nat × Obj} (hx : x ∈ bx) : x.1 < w.heap.size := (Array.getElem?_eq_some_iff.mp (h.bx x hx).1).1
theorem WB.to (h : WB w0 w bx gd L O s) (hd : Sep w0.heap.size (fun w O => DD w w0.heap.size gd O s') L' w' (fun k => O k ∨ w.heap.size ≤ k)) (hb : Below w0.heap.size w0 w') (hk : Kept w w' O) : WB w0 w' bx gd L' (fun k => O k ∨ w.heap.size ≤ k) s' :=
  ⟨hb, hd, fun x hx => ⟨(hk.2 x.1 (h.lt hx) (h.bx x hx).2).trans (h.bx x hx).1, fun ho => ho.elim (h.bx x hx).2 (Nat.not_le.mpr (h.lt hx))⟩⟩
theorem WB.mono {O' : Nat → Prop} (h : WB w0 w bx gd L O s) (hl : Lk w0.heap.size gd gl L) (hO : ∀ k, O k → O' k) (hn : ∀ x ∈ bx, ¬ O' x.1) : WB w0 w bx gd L O' s :=
  ⟨h.hB, (frSep (frD _ _ _) hl.fr).mono h.hD hO, fun x hx => ⟨(h.bx x hx).1, hn x hx⟩⟩
theorem WB.onD {f : FuncId} {args : Array Value} {V : Value} (h : WB w0 w bx gd L O s) (hl : Lk w0.heap.size gd gl L)
    (hc : ∀ O1, DD w w0.heap.size gd O1 s → Calls Try.prog f args w fun e w' => e = .returned V ∧ DD w' w0.heap.size gd (fun k => O1 k ∨ w.heap.size ≤ k) s' ∧ Below w0.heap.size w0 w' ∧ Kept w w' O1) :
    Calls Try.prog f args w fun e w' => e = .returned V ∧ WB w0 w' bx gd L (fun k => O k ∨ w.heap.size ≤ k) s' ∧ Kept w w' O := by
  obtain ⟨O1, h1, h2, h3, back⟩ := Sep.onL h.hD (frD _ _ s') hl.fr
  refine (hc O1 h1).mono ?_
  rintro e w' ⟨rfl, hd, hb, hk⟩
  exact ⟨rfl, h.to (back _ hd hk).1 hb (back _ hd hk).2, (back _ hd hk).2⟩
theorem WB.onL {f : FuncId} {args : Array Value} {V : Value} (h : WB w0 w bx gd L O s)
    (hc : Calls Try.prog f args w fun e w' => e = .returned V ∧ Sep w0.heap.size (fun w O => DD w w0.heap.size gd O s') L' w' (fun k => O k ∨ w.heap.size ≤ k) ∧ Below w0.heap.size w0 w' ∧ Kept w w' O) :
    Calls Try.prog f args w fun e w' => e = .returned V ∧ WB w0 w' bx gd L' (fun k => O k ∨ w.heap.size ≤ k) s' ∧ Kept w w' O := by
  refine hc.mono ?_
  rintro e w' ⟨rfl, hd, hb, hk⟩
  exact ⟨rfl, h.to hd hb hk, hk⟩
end
def Ran (w0 w : World) (bx : List (Nat × Obj)) (gd : Nat) (L : World → (Nat → Prop) → Prop) (O : Nat → Prop) (s : St) (w' : World) : Prop := WB w0 w' bx gd L (fun k => O k ∨ w.heap.size ≤ k) s ∧ Kept w w' O
theorem Ran.next {w0 w w1 w2 : World} {bx : List (Nat × Obj)} {gd gl : Nat} {L L1 L' : World → (Nat → Prop) → Prop} {O : Nat → Prop} {s0 s s' : St} (h0 : WB w0 w bx gd L O s0) (h : Ran w0 w bx gd L1 O s w1) (hl : Lk w0.heap.size gd gl L')
    (h2 : Ran w0 w1 bx gd L' (fun k => O k ∨ w.heap.size ≤ k) s' w2) : Ran w0 w bx gd L' O s' w2 :=
  ⟨h2.1.mono hl (fun k hk => hk.elim id (fun a => .inr (Nat.le_trans h.2.1 a))) (fun x hx ho => ho.elim (h0.bx x hx).2 (Nat.not_le.mpr (h0.lt hx))), h.2.then_ h2.2 (fun k hk => hk)⟩
theorem Ran.keeps {w0 w w1 : World} {bx : List (Nat × Obj)} {gd : Nat} {L L1 : World → (Nat → Prop) → Prop} {O : Nat → Prop} {s0 s : St} (h0 : WB w0 w bx gd L O s0) (h : Ran w0 w bx gd L1 O s w1) {x : Nat × Obj} (hx : x ∈ bx) : w1.heap[x.1]? = w.heap[x.1]? := (h.1.bx x hx).1.trans (h0.bx x hx).1.symm
abbrev pv (g : Nat) : Value := .pointer (some ⟨g, 0, none⟩)
abbrev bx1 (v : Value) (t : TypeId) : Obj := .cells #[v] t (0, 0)
set_option maxHeartbeats 4000000 in
theorem sync177.calls (bl gd gl : Nat) (bx : List (Nat × Obj)) (L : World → (Nat → Prop) → Prop) (O : Nat → Prop) (s : St) (m : Nat) (w0 w : World) (h : WB w0 w bx gd L O s) (hl : Lk w0.heap.size gd gl L) (hok : s.ok m) (hm : m ≤ 900000000) (hb : (bl, bx1 (pv gl) 83) ∈ bx) :
    Calls Try.prog 177 #[pv bl] w fun e w' => e = .returned (.int .i64 (s.sync 1).1) ∧ Ran w0 w bx gd L O (s.sync 1).2 w' := by
  have HC := Aside0.mk (h.onD hl (fun O1 h1 => sync.calls gd O1 s 1 m w0 w h.hB h1 hok (Nat.le_trans hm (by decide))))
  have p0 : w.cell? ⟨bl, 0, none⟩ = some (pv gl) := (h.box _ _ _ hb 0).trans rfl
  have p1 := h.disk hl
  clear hb h hl hok hm
  go_enter Try.func177, Try.ntmps177
  go_wp2_with (go_at_call 131; (with_reducible refine HC.out.mono ?_); rintro e w2 ⟨rfl, h2⟩; have H2 := Aside0.mk h2; clear h2)
  go_ret
  exact ⟨rfl, H2.out⟩
set_option maxHeartbeats 4000000 in
theorem sync144.calls (bl gd gl : Nat) (bx : List (Nat × Obj)) (L : World → (Nat → Prop) → Prop) (O : Nat → Prop) (s : St) (m : Nat) (w0 w : World) (h : WB w0 w bx gd L O s) (hl : Lk w0.heap.size gd gl L) (hok : s.ok m) (hm : m ≤ 900000000) (hb : (bl, bx1 (pv gl) 83) ∈ bx) :
    Calls Try.prog 144 #[pv bl] w fun e w' => e = .returned (.int .i64 (s.sync 1).1) ∧ Ran w0 w bx gd L O (s.sync 1).2 w' := by
  have HC := Aside0.mk (h.onD hl (fun O1 h1 => sync.calls gd O1 s 1 m w0 w h.hB h1 hok (Nat.le_trans hm (by decide))))
  have p0 : w.cell? ⟨bl, 0, none⟩ = some (pv gl) := (h.box _ _ _ hb 0).trans rfl
  have p1 := h.disk hl
  clear hb h hl hok hm
  go_enter Try.func144, Try.ntmps144
  go_wp2_with (go_at_call 131; (with_reducible refine HC.out.mono ?_); rintro e w2 ⟨rfl, h2⟩; have H2 := Aside0.mk h2; clear h2)
  go_ret
  exact ⟨rfl, H2.out⟩
set_option maxHeartbeats 4000000 in
theorem sync172.calls (bl gd gl : Nat) (bx : List (Nat × Obj)) (L : World → (Nat → Prop) → Prop) (O : Nat → Prop) (s : St) (m : Nat) (w0 w : World) (h : WB w0 w bx gd L O s) (hl : Lk w0.heap.size gd gl L) (hok : s.ok m) (hm : m ≤ 900000000) (hb : (bl, bx1 (pv gl) 83) ∈ bx) :
    Calls Try.prog 172 #[pv bl] w fun e w' => e = .returned (.int .i64 (s.sync 1).1) ∧ Ran w0 w bx gd L O (s.sync 1).2 w' := by
  have HC := Aside0.mk (h.onD hl (fun O1 h1 => sync.calls gd O1 s 1 m w0 w h.hB h1 hok (Nat.le_trans hm (by decide))))
  have p0 : w.cell? ⟨bl, 0, none⟩ = some (pv gl) := (h.box _ _ _ hb 0).trans rfl
  have p1 := h.disk hl
  clear hb h hl hok hm
  go_enter Try.func172, Try.ntmps172
  go_wp2_with (go_at_call 131; (with_reducible refine HC.out.mono ?_); rintro e w2 ⟨rfl, h2⟩; have H2 := Aside0.mk h2; clear h2)
  go_ret
  exact ⟨rfl, H2.out⟩
set_option maxHeartbeats 4000000 in
theorem sync175.calls (bl gd gl : Nat) (bx : List (Nat × Obj)) (L : World → (Nat → Prop) → Prop) (O : Nat → Prop) (s : St) (m : Nat) (w0 w : World) (h : WB w0 w bx gd L O s) (hl : Lk w0.heap.size gd gl L) (hok : s.ok m) (hm : m ≤ 900000000) (hb : (bl, bx1 (pv gl) 83) ∈ bx) :
    Calls Try.prog 175 #[pv bl] w fun e w' => e = .returned (.int .i64 (s.sync 1).1) ∧ Ran w0 w bx gd L O (s.sync 1).2 w' := by
  have HC := Aside0.mk (h.onD hl (fun O1 h1 => sync.calls gd O1 s 1 m w0 w h.hB h1 hok (Nat.le_trans hm (by decide))))
  have p0 : w.cell? ⟨bl, 0, none⟩ = some (pv gl) := (h.box _ _ _ hb 0).trans rfl
  have p1 := h.disk hl
  clear hb h hl hok hm
  go_enter Try.func175, Try.ntmps175
  go_wp2_with (go_at_call 131; (with_reducible refine HC.out.mono ?_); rintro e w2 ⟨rfl, h2⟩; have H2 := Aside0.mk h2; clear h2)
  go_ret
  exact ⟨rfl, H2.out⟩
set_option maxHeartbeats 4000000 in
theorem sync148.calls (bl gd gl : Nat) (bx : List (Nat × Obj)) (L : World → (Nat → Prop) → Prop) (O : Nat → Prop) (s : St) (m : Nat) (w0 w : World) (h : WB w0 w bx gd L O s) (hl : Lk w0.heap.size gd gl L) (hok : s.ok m) (hm : m ≤ 900000000) (hb : (bl, bx1 (pv gl) 83) ∈ bx) :
    Calls Try.prog 148 #[pv bl] w fun e w' => e = .returned (.int .i64 (s.sync 0).1) ∧ Ran w0 w bx gd L O (s.sync 0).2 w' := by
  have HC := Aside0.mk (h.onD hl (fun O1 h1 => sync.calls gd O1 s 0 m w0 w h.hB h1 hok (Nat.le_trans hm (by decide))))
  have p0 : w.cell? ⟨bl, 0, none⟩ = some (pv gl) := (h.box _ _ _ hb 0).trans rfl
  have p1 := h.disk hl
  clear hb h hl hok hm
  go_enter Try.func148, Try.ntmps148
  go_wp2_with (go_at_call 131; (with_reducible refine HC.out.mono ?_); rintro e w2 ⟨rfl, h2⟩; have H2 := Aside0.mk h2; clear h2)
  go_ret
  exact ⟨rfl, H2.out⟩
set_option maxHeartbeats 4000000 in
theorem cut171.calls (bl gd gl : Nat) (bx : List (Nat × Obj)) (L : World → (Nat → Prop) → Prop) (O : Nat → Prop) (s : St) (m : Nat) (w0 w : World) (h : WB w0 w bx gd L O s) (hl : Lk w0.heap.size gd gl L) (hok : s.ok m) (hm : m ≤ 900000000) (hb : (bl, bx1 (pv gl) 83) ∈ bx) :
    Calls Try.prog 171 #[pv bl] w fun e w' => e = .returned (.int .i64 (s.cutTo 1 0).1) ∧ Ran w0 w bx gd L O (s.cutTo 1 0).2 w' := by
  have HC := Aside0.mk (h.onD hl (fun O1 h1 => cut.calls gd O1 s 1 0 m w0 w h.hB h1 hok (Nat.le_trans hm (by decide))))
  have p0 : w.cell? ⟨bl, 0, none⟩ = some (pv gl) := (h.box _ _ _ hb 0).trans rfl
  have p1 := h.disk hl
  clear hb h hl hok hm
  go_enter Try.func171, Try.ntmps171
  go_wp2_with (go_at_call 127; (with_reducible refine HC.out.mono ?_); rintro e w2 ⟨rfl, h2⟩; have H2 := Aside0.mk h2; clear h2)
  go_ret
  exact ⟨rfl, H2.out⟩
set_option maxHeartbeats 4000000 in
theorem write176.calls (bl bs bn bf bp gd gl : Nat) (slot n fr pg : Int) (tx : ByteArray) (bx : List (Nat × Obj)) (L : World → (Nat → Prop) → Prop) (O : Nat → Prop) (s : St) (m : Nat) (w0 w : World) (h : WB w0 w bx gd L O s) (hl : Lk w0.heap.size gd gl L) (hok : s.ok m) (hm : m ≤ 900000000)
    (hb : (bl, bx1 (pv gl) 83) ∈ bx) (hbs : (bs, bx1 (.int .i64 slot) 3) ∈ bx) (hbn : (bn, bx1 (.int .i64 n) 3) ∈ bx) (hbf : (bf, bx1 (.int .i64 fr) 3) ∈ bx) (hbp : (bp, bx1 (.int .i64 pg) 3) ∈ bx)
    (hsl : slot = 0 ∨ slot = 1) (htx : wal_slotText.f n fr pg = some tx) :
    Calls Try.prog 176 #[pv bl, pv bs, pv bn, pv bf, pv bp] w fun e w' => e = .returned (.int .i64 (s.write 1 (16 + slot * 24) tx).1) ∧ Ran w0 w bx gd L O (s.write 1 (16 + slot * 24) tx).2 w' := by
  have held : ∀ {w1 : World} {O1 : Nat → Prop} {s1 : St}, WB w0 w1 bx gd L O1 s1 → w1.cell? ⟨bl, 0, none⟩ = some (pv gl) ∧ w1.cell? ⟨gl, 0, none⟩ = some (pv gd) ∧ w1.cell? ⟨bs, 0, none⟩ = some (.int .i64 slot) ∧ w1.cell? ⟨bn, 0, none⟩ = some (.int .i64 n) ∧ w1.cell? ⟨bf, 0, none⟩ = some (.int .i64 fr) ∧ w1.cell? ⟨bp, 0, none⟩ = some (.int .i64 pg) :=
    fun h1 => ⟨(h1.box _ _ _ hb 0).trans rfl, h1.disk hl, (h1.box _ _ _ hbs 0).trans rfl, (h1.box _ _ _ hbn 0).trans rfl, (h1.box _ _ _ hbf 0).trans rfl, (h1.box _ _ _ hbp 0).trans rfl⟩
  have HELD := Aside0.mk @held
  clear held
  have T0 := Aside0.mk h
  have HL := Aside0.mk hl
  have HOK := Aside0.mk hok
  have HM := Aside0.mk (Nat.le_trans hm (by decide : (900000000:Nat) ≤ 1000000000))
  have HT := Aside0.mk htx
  have w1_ : IntKind.i64.wrap (slot * 24) = slot * 24 := IntWalk.i64_in _ (by omega)
  have w2_ : IntKind.i64.wrap (16 + slot * 24) = 16 + slot * 24 := IntWalk.i64_in _ (by omega)
  clear h hl hok hm hsl htx hb hbs hbn hbf hbp
  go_enter Try.func176, Try.ntmps176
  go_upto_region 1 with (fail)
  go_region_held3 (fun w' => w'.cell? ⟨bl, 0, none⟩ = some (pv gl) ∧ w'.cell? ⟨gl, 0, none⟩ = some (pv gd) ∧ w'.cell? ⟨bs, 0, none⟩ = some (.int .i64 slot) ∧ w'.cell? ⟨bn, 0, none⟩ = some (.int .i64 n) ∧ w'.cell? ⟨bf, 0, none⟩ = some (.int .i64 fr) ∧ w'.cell? ⟨bp, 0, none⟩ = some (.int .i64 pg)) (first | exact HELD.out T2.out.1 | exact HELD.out T1.out | exact HELD.out (T0.out.drew HL.out))
    (first
    | (have T1_ := Aside0.mk T1.out; go_at_call 125; (with_reducible refine (T1.out.onD HL.out (fun O1 h1 => write.calls gd O1 s 1 (16 + slot * 24) tx _ w0 _ T1.out.hB h1 HOK.out HM.out)).mono ?_); rintro e w4 ⟨rfl, hd⟩; have T2 := Aside0.mk hd; clear hd)
    | (have T1 := Aside0.mk (T0.out.drew HL.out); go_at_call 174; (with_reducible refine (wal_slotText.calls n fr pg tx _ HT.out).mono ?_); rintro e3 w3 ⟨rfl, hb3⟩; replace T1 := Aside0.mk ((T0.out.drew HL.out).below HL.out hb3); have HB3 := Aside0.mk (below_step (below_drew (Below.refl _ w)) hb3); clear hb3))
  go_wp2_with (fail)
  go_ret
  have hs3 := HB3.out.size
  have hd := T2.out
  exact ⟨rfl, hd.1.mono HL.out (fun k hk => hk.imp id (Nat.le_trans hs3)) (fun x hx ho => ho.elim (T0.out.bx x hx).2 (Nat.not_le.mpr (T0.out.lt hx))), (Kept.of_below HB3.out O).then_ hd.2 (fun k hk => .inl hk)⟩
end Go.Proofs.Ythaoaaboempajaa.Log
