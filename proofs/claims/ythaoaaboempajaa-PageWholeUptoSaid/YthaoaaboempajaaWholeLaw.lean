/- The law PageWhole, walked: it answers true wherever its callees answer as the plain laws tell. Conditions: those answers. -/
import Derived.Test.YthaoaaboempajaaSealsLaw
import Derived.Test.YthaoaaboempajaaQPageWholex3
import Derived.Lib.ConvBytes

namespace Go.Proofs.Ythaoaaboempajaa.QPageSeals
open Go.RowKit Go.Proofs.YthaoaaboempajaaW.PrintWords Go.Proofs.YthaoaaboempajaaW.PrintLast Go.Proofs.YthaoaaboempajaaW.PrintMore Go.Proofs.YthaoaaboempajaaX
open Go.Proofs.Ythaoaaboempajaa.QPageWhole (relstorekeep_pick.f relstorekeep_pick.calls)
set_option linter.unusedVariables false
set_option linter.unusedSimpArgs false
/-- A row of bytes of the law's own. -/
structure BR (gb : Nat) (xs : List Int) (W : World) : Prop where
  cell : ∀ j, j < xs.length → W.cell? ⟨gb, j, none⟩ = some (.int .u8 (xs.getD j 0))
  free : ∀ j, j < xs.length → W.frozen? ⟨gb, j, none⟩ = false
theorem BR.new (W : World) (t : ByteArray) : BR W.heap.size (bytesOf t) (Lib.bytesWorld W 5 t) := by
  refine ⟨fun j hj => ?_, fun j hj => ?_⟩
  · rw [bytesOf_length] at hj
    rw [Lib.bytesWorld_cell W 5 t j hj]
    have hl : j < t.data.toList.length := by rw [data_length]; exact hj
    simp [bytesOf, List.getD_eq_getElem?_getD, List.getElem?_eq_getElem hl]
  · rw [bytesOf_length] at hj
    have h := Lib.bytesWorld_at_new W 5 t
    have hs : t.size ≤ (Lib.bytesCells W 5 t).size := by
      have hc := Lib.bytesWorld_cell W 5 t (t.size - 1) (by omega)
      simp only [World.cell?, h] at hc
      by_cases hlt : t.size - 1 < (Lib.bytesCells W 5 t).size
      · omega
      · rw [Array.getElem?_eq_none (by omega)] at hc
        simp at hc
    simp only [World.frozen?, h]
    simp
    omega
theorem BR.drewN {gb xs W} (h : BR gb xs W) (m : Nat) : BR gb xs (W.drewN m) := ⟨fun j hj => by simpa using h.cell j hj, fun j hj => by simpa using h.free j hj⟩
theorem BR.set {gb xs W} (h : BR gb xs W) (i : Nat) (v : Int) (hi : i < xs.length) : BR gb (xs.set i v) (W.setCell ⟨gb, i, none⟩ (.int .u8 v)) := by
  refine ⟨fun j hj => ?_, fun j hj => ?_⟩
  · rw [List.length_set] at hj
    by_cases e : i = j
    · subst e
      rw [World.cell?_setCell_same _ _ _ (h.cell i hi)]
      simp [List.getD_eq_getElem?_getD, hi]
    · rw [World.cell?_setCell_other _ _ _ _ (by intro h2; apply e; injection h2), h.cell j hj]
      simp [List.getD_eq_getElem?_getD, List.getElem?_set_ne e]
  · rw [List.length_set] at hj
    rw [World.frozen?_setCell]
    exact h.free j hj
theorem BR.reads {gb xs W} (h : BR gb xs W) (n : Nat) (hn : xs.length = n) (hm : n ≤ 9223372036854775807) : ReadsInt W .u8 (some ⟨gb, 0, none⟩) n xs := by
  refine ⟨hn, hm, fun _ => ⟨_, rfl, fun j hj => ?_⟩⟩
  have e : (Addr.mk gb 0 none).add j = ⟨gb, j, none⟩ := by
    unfold Addr.add
    split
    · rename_i h0; subst h0; rfl
    · simp
  rw [e]
  exact h.cell j (by omega)
theorem bytes_below (W : World) (t : ByteArray) : Below W.heap.size W (Lib.bytesWorld W 5 t) := by
  refine ⟨?_, ?_, ?_, ?_, fun k hk => Lib.bytesWorld_at_old W 5 t k hk⟩
  · unfold Lib.bytesWorld World.freeze; rw [if_neg (by decide)]; rfl
  · unfold Lib.bytesWorld World.freeze; rw [if_neg (by decide)]; rfl
  · unfold Lib.bytesWorld World.freeze; rw [if_neg (by decide)]; rfl
  · rw [Lib.bytesWorld_size]; omega
/-- A page that cannot be made is told so. -/
theorem PageWhole.bad (k : Nat) (kd lk at_ by_ : Int) (A : Option Addr) (c : Nat) (l : List ByteArray) (w : World) (hr : Kd.C Kd.string w A l.length l) (hc : l.length ≤ c)
    (e : Int) (h1 : page_Seal.f k kd lk l = some ((⟨#[]⟩ : ByteArray), e)) (he : e = 1 ∨ e = 5) (t2 : ByteArray) (h2 : page_Seal.f k 1 0 [] = some (t2, 0)) :
    Calls Try.prog 7 #[.agg #[.int .i64 kd, .int .i64 lk, .slice A l.length c], .int .i64 at_, .int .i64 by_] w fun e w' => e = .returned (.bool true) ∧ Below w.heap.size w w' := by
  have HR := Aside0.mk hr
  have H1 := Aside0.mk h1
  have H2 := Aside0.mk h2
  have HC := Aside0.mk hc
  clear hr h1 h2 hc
  go_enter Try.func7, Try.ntmps7
  go_upto_region 1 with (first | ((with_reducible refine gate_dst (N := 3) rfl ?_); refine box_event ?hg (N := 3) ?hd (cs := #[.int .i64 kd, .int .i64 lk, .slice A l.length c]) (t := 40) ?hr ?_; (case hd => rfl); (case hg => rfl); (case hr => first | (go_simp; done) | (go_simp; rfl)); intro gp hgp w1 hbox hb; have S := Aside0.mk (LS.mk (w0 := w) hb hbox (Nat.le_of_eq hgp.symm)); clear hgp hb hbox))
  have c0 := S.out.held.1
  have c1 := S.out.held.2.1
  have c2 := S.out.held.2.2
  have HR1 := Aside0.mk (Kd.C_below HR.out S.out.hb)
  go_upto_region 2 with (go_at_call 30; (refine (page_Seal.calls k kd lk A c l _ e _ HR1.out HC.out H1.out).mono ?_); rintro e2 w2 ⟨rfl, hb⟩; have S2 := Aside0.mk (S.out.below hb); clear hb)
  clear c0 c1 c2 HR1
  rcases he with rfl | rfl
  all_goals
    go_upto_region 4 with (go_at_call 30; (refine (page_Seal.calls k 1 0 none 0 [] t2 0 _ (Kd.C_nil _ _) (Nat.le_refl _) H2.out).mono ?_); rintro e3 w3 ⟨rfl, hb⟩; have S3 := Aside0.mk (S2.out.below hb); clear hb)
    go_wp2
    go_ret
    exact ⟨rfl, S3.out.hb⟩
set_option maxHeartbeats 8000000 in
set_option maxRecDepth 100000 in
/-- A page that is made is read again; with another byte it is damaged. -/
theorem PageWhole.good (k : Nat) (kd lk at_ by_ : Int) (A : Option Addr) (c : Nat) (l : List ByteArray) (w : World) (hr : Kd.C Kd.string w A l.length l) (hc : l.length ≤ c)
    (t : ByteArray) (h1 : page_Seal.f k kd lk l = some (t, 0)) (h2 : page_Open.f k t = some (kd, lk, l, 0)) (hz : t.size = 1024) (i j : Nat) (hi : i < 1024) (hj : j < 255)
    (hp1 : relstorekeep_pick.f at_ (t.size : Int) = some (i : Int)) (hp2 : relstorekeep_pick.f by_ 255 = some (j : Int)) (q1 q2 : Int) (qc : List ByteArray)
    (h3 : page_Open.f k (strOfNums ((bytesOf t).set i (Go.bits .xor .u8 ((bytesOf t).getD i 0) ((1 + j : Nat) : Int)))) = some (q1, q2, qc, 4)) :
    Calls Try.prog 7 #[.agg #[.int .i64 kd, .int .i64 lk, .slice A l.length c], .int .i64 at_, .int .i64 by_] w fun e w' => e = .returned (.bool true) ∧ Below w.heap.size w w' := by
  have HR := Aside0.mk hr
  have H1 := Aside0.mk h1
  have H2 := Aside0.mk h2
  have H3 := Aside0.mk h3
  have HP1 := Aside0.mk hp1
  have HP2 := Aside0.mk hp2
  have HC := Aside0.mk hc
  have HZ := Aside0.mk hz
  clear hr h1 h2 h3 hc hp1 hp2 hz
  go_enter Try.func7, Try.ntmps7
  go_upto_region 1 with (first | ((with_reducible refine gate_dst (N := 3) rfl ?_); refine box_event ?hg (N := 3) ?hd (cs := #[.int .i64 kd, .int .i64 lk, .slice A l.length c]) (t := 40) ?hr ?_; (case hd => rfl); (case hg => rfl); (case hr => first | (go_simp; done) | (go_simp; rfl)); intro gp hgp w1 hbox hb; have S := Aside0.mk (LS.mk (w0 := w) hb hbox (Nat.le_of_eq hgp.symm)); clear hgp hb hbox))
  have c0 := S.out.held.1
  have c1 := S.out.held.2.1
  have c2 := S.out.held.2.2
  have HR1 := Aside0.mk (Kd.C_below HR.out S.out.hb)
  go_upto_region 5 with (go_at_call 30; (refine (page_Seal.calls k kd lk A c l t 0 _ HR1.out HC.out H1.out).mono ?_); rintro e2 w2 ⟨rfl, hb⟩; have S2 := Aside0.mk (S.out.below hb); clear hb)
  clear c0 c1 c2 HR1 S
  go_upto_region 6 with (first
    | (go_at_call 34; (refine (page_Open.calls k t kd lk l 0 _ H2.out).mono ?_); rintro e3 w3 ⟨v3, rfl, ho, hb⟩; obtain ⟨Aq, cq, rfl⟩ := Kd.R_slice ho; have S3 := Aside0.mk (S2.out.below hb); have RQ := Aside0.mk (show Kd.C Kd.string _ Aq l.length l ∧ l.length ≤ cq from ⟨(Kd.R_reads' ho).2.2, (Kd.R_reads' ho).2.1⟩); clear ho hb)
    | ((with_reducible refine gate_dst (N := 11) rfl ?_); refine box_event ?hg (N := 11) ?hd (cs := #[.int .i64 0, .int .i64 0, .slice none 0 0]) (t := 40) ?hr ?_; (case hd => rfl); (case hg => rfl); (case hr => first | (go_simp; done) | (go_simp; rfl)); intro gq hg_ w4 hbox hb; have q0 := blk_cell hbox 0; have q1_ := blk_cell hbox 1; have q2_ := blk_cell hbox 2; have z0 := blk_frozen hbox 0; have z1 := blk_frozen hbox 1; have z2 := blk_frozen hbox 2; simp only [List.getElem?_toArray, List.getElem?_cons_zero, List.getElem?_cons_succ] at q0 q1_ q2_; have HB4 := Aside0.mk hb; have BQ := Aside0.mk hbox; have GQ := Aside0.mk (Nat.le_of_eq hg_.symm); clear hg_ hbox hb))
  have hput : ((w4.setCell ⟨gq, 0, none⟩ (.int .i64 kd)).setCell ⟨gq, 1, none⟩ (.int .i64 lk)).setCell ⟨gq, 2, none⟩ (.slice Aq l.length cq) = put3 w4 gq (.int .i64 kd) (.int .i64 lk) (.slice Aq l.length cq) := rfl
  rw [hput]
  clear hput
  have HB5 := Aside0.mk (put3_below (a := .int .i64 kd) (b := .int .i64 lk) (c := .slice Aq l.length cq) HB4.out GQ.out)
  have S5 := Aside0.mk (S3.out.below HB5.out)
  have RQ5 := Aside0.mk (Kd.C_below RQ.out.1 HB5.out)
  have BQ5 := Aside0.mk (put3_blk (a := .int .i64 kd) (b := .int .i64 lk) (c := .slice Aq l.length cq) BQ.out)
  clear q0 q1_ q2_ z0 z1 z2 BQ HB4 HB5 S3 S2 GQ RQ
  generalize put3 w4 gq (.int .i64 kd) (.int .i64 lk) (.slice Aq l.length cq) = w5 at S5 RQ5 BQ5 ⊢
  have c0 := S5.out.held.1
  have c1 := S5.out.held.2.1
  have c2 := S5.out.held.2.2
  have d0 := blk_cell BQ5.out 0
  have d1 := blk_cell BQ5.out 1
  have d2 := blk_cell BQ5.out 2
  simp only [List.getElem?_toArray, List.getElem?_cons_zero, List.getElem?_cons_succ] at d0 d1 d2
  go_wp2_with (fail)
  clear c0 c1 d0 d1
  go_loopw [12, 73] (fun _ v73 wr => ∃ (x n : Nat), x ≤ l.length ∧ v73 = .int .i64 (x : Int) ∧ wr = w5.drewN n) (fun _ v73 _ => l.length - (intOf v73).toNat)
  case atStart => exact ⟨0, 0, Nat.zero_le _, rfl, (by rfl)⟩
  case round =>
    obtain ⟨x, n, hx, rfl, rfl⟩ := hrel
    have hm := HR.out.2.1
    by_cases hlt : x < l.length
    · have HR5 := Aside0.mk (Kd.C_below HR.out S5.out.hb)
      obtain ⟨ad, hA, hxa⟩ := Kd.at_string HR5.out (x : Int) (by omega) (by omega)
      obtain ⟨aq, hQ, hxq⟩ := Kd.at_string RQ5.out (x : Int) (by omega) (by omega)
      have HA := Aside0.mk hA
      have HQ := Aside0.mk hQ
      subst hA
      subst hQ
      generalize hd : rdOf ByteArray.empty l (x : Int) = d at *
      clear hd
      rw [Int.toNat_natCast] at hxa hxq
      have b0 : (0 : Int) ≤ (x : Int) := by omega
      have b1 : (x : Int) < (l.length : Int) := by omega
      go_upto_region 11 with (fail)
      go_quiet (fail)
      go_wp2
      go_roundw
      case rel => exact ⟨x + 1, _, by omega, by go_num, (by first | rfl | (simp only [World.drewN_drewN]))⟩
      case measure => simp [intOf]; omega
    · obtain rfl : x = l.length := by omega
      clear c2 d2
      have cv_ : ∀ W : World, (convert 9 55 (.string t)).run Try.prog W = _ := fun W => Lib.run_convert_string_bytes (P := Try.prog) W 9 55 5 t Try.underlying9 Try.underlying55 Try.underlying5
      go_upto_region 15 with (fail)
      have B0 := BR.new (w5.drewN n) t
      have hbw := below_step (pw_below_drewN S5.out.hb n) (bytes_below (w5.drewN n) t)
      have hgs : (w5.drewN n).heap.size = w5.heap.size := rfl
      rw [hgs] at B0
      have HG := Aside0.mk S5.out.hb.size
      have HBW := Aside0.mk hbw
      clear hbw hgs cv_ S5 RQ5 BQ5
      generalize Lib.bytesWorld (w5.drewN n) 5 t = wb at B0 HBW ⊢
      generalize grownCap (w5.drewN n) t.size 0 5 = cp
      generalize w5.heap.size = gb at B0 HG ⊢
      have hlen : (bytesOf t).length = t.size := bytesOf_length t
      have hx := B0.cell i (by rw [hlen, HZ.out]; exact hi)
      have hf := B0.free i (by rw [hlen, HZ.out]; exact hi)
      have BB := Aside0.mk B0
      have HL := Aside0.mk hlen
      clear B0 hlen
      have e1j : ((1 + j : Nat) : Int) = 1 + (j : Int) := by omega
      rw [e1j] at H3
      generalize (bytesOf t).getD i 0 = x at hx H3
      have b0 : (0 : Int) ≤ (i : Int) := by omega
      have b1 : (i : Int) < (t.size : Int) := by rw [HZ.out]; omega
      have w1_ : IntKind.i64.wrap (1 + (j : Int)) = 1 + (j : Int) := IntWalk.i64_in _ (by omega)
      have w2_ : IntKind.u8.wrap (1 + (j : Int)) = 1 + (j : Int) := IntWalk.u8_in _ (by omega)
      clear e1j
      have cv_ : Aside0 (∀ m : Nat, (convert 55 9 (.slice (some ⟨gb, 0, none⟩) t.size cp)).run Try.prog ((wb.drewN m).setCell ⟨gb, i, none⟩ (.int .u8 (bits .xor .u8 x (1 + (j : Int))))) = .ok (.string (strOfNums ((bytesOf t).set i (bits .xor .u8 x (1 + (j : Int)))))) ((wb.drewN m).setCell ⟨gb, i, none⟩ (.int .u8 (bits .xor .u8 x (1 + (j : Int)))))) := ⟨fun m =>
        string_of_reads Try.underlying55 Try.underlying5 Try.underlying9 (((BB.out.drewN m).set i _ (by rw [HL.out, HZ.out]; exact hi)).reads t.size (by rw [List.length_set, HL.out]) (by rw [HZ.out]; omega))⟩
      go_region_law (first
        | (refine goes_ Try.func39 (by kernel_rfl) rfl #[.int .i64 at_, .int .i64 (t.size : Int)] (by rfl) rfl rfl (by (try simp only [List.map_toArray, List.map_cons, List.map_nil]); first | done | rfl) ?_; refine (relstorekeep_pick.calls _ _ (i : Int) _ HP1.out).mono ?_; rintro e15 w15 ⟨rfl, n15, rfl⟩; refine ⟨_, rfl, ?_⟩)
        | (refine goes_ Try.func39 (by kernel_rfl) rfl #[.int .i64 by_, .int .i64 255] (by rfl) rfl rfl (by (try simp only [List.map_toArray, List.map_cons, List.map_nil]); first | done | rfl) ?_; refine (relstorekeep_pick.calls _ _ (j : Int) _ HP2.out).mono ?_; rintro e16 w16 ⟨rfl, n16, rfl⟩; refine ⟨_, rfl, ?_⟩))
      all_goals
        have cw_ := cv_.out (1 + n15 + n16)
        have HBX := Aside0.mk ((pw_below_drewN HBW.out (1 + n15 + n16)).setCell (p := ⟨gb, i, none⟩) HG.out (.int .u8 (bits .xor .u8 x (1 + (j : Int)))))
        clear hx hf b0 b1 w1_ w2_
        generalize (wb.drewN (1 + n15 + n16)).setCell ⟨gb, i, none⟩ (.int .u8 (bits .xor .u8 x (1 + (j : Int)))) = wz at cw_ HBX ⊢
        go_wp2_with (go_at_call 34; (refine (page_Open.calls k _ q1 q2 qc 4 _ H3.out).mono ?_); rintro e17 w17 ⟨v17, rfl, ho, hb⟩; have HBY := Aside0.mk (below_step HBX.out hb); clear ho hb)
        go_ret
        exact ⟨rfl, HBY.out⟩
end Go.Proofs.Ythaoaaboempajaa.QPageSeals
