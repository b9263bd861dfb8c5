/- Lines of the texts that the claim LogKept rests on, bundled: part 4; no conditions but those that each row names. -/
import Derived.Test.YthaoaaboempajaaMLogKept3
namespace Go.Proofs.Ythaoaaboempajaa.Log
open Go.RowKit Go.Maps Go.Proofs.Ythaoaaboempajaa.QLogRuns Go.Proofs.Ythaoaaboempajaa.QDiskRuns Go.Proofs.Ythaoaaboempajaa.Disk Go.Proofs.YthaoaaboempajaaW.PrintWords Go.Proofs.YthaoaaboempajaaW.PrintLast Go.Proofs.YthaoaaboempajaaW.PrintMore Go.Proofs.YthaoaaboempajaaX
set_option linter.unusedVariables false
set_option linter.unusedSimpArgs false
theorem PL.cells {w : World} {base gd gl : Nat} {O : Nat → Prop} {s : St} {g : Lg} (h : PL w base gd gl O s g) : ∃ bn bk, w.heap[gl]? = some (.cells (lcells gd g.fr.length g.pages bn g.kept g.pages bk g.slot g.number) 167 (0, 0)) ∧ MapF w bn g.fr.length (idx g.fr) ∧ MapF w bk g.kept (idx (g.fr.take g.kept)) ∧ bn ≠ gl ∧ bk ≠ gl ∧ bn ≠ bk ∧ O gl ∧ O bn ∧ O bk ∧ base ≤ gl ∧ base ≤ bn ∧ base ≤ bk := by
  obtain ⟨O1, O2, hd, ⟨bn, bk, hx, hmn, hmk, hne, hgl, hbn, hbk, hb1, hb2, hb3⟩, ho1, ho2, -⟩ := h
  exact ⟨bn, bk, hx, hmn, hmk, hmn.ne hx, hmk.ne hx, hne, ho2 _ hgl, ho2 _ hbn, ho2 _ hbk, hb1, hb2, hb3⟩
theorem PL.upd {w w' : World} {base gd gl : Nat} {O : Nat → Prop} {s : St} {g g' : Lg} (h : PL w base gd gl O s g) (hk : Kept w w' (fun j => j = gl)) (hfr : g'.fr = g.fr) (hkt : g'.kept = g.kept)
    (hx : ∀ bn bk, w.heap[gl]? = some (.cells (lcells gd g.fr.length g.pages bn g.kept g.pages bk g.slot g.number) 167 (0, 0)) → w'.heap[gl]? = some (.cells (lcells gd g.fr.length g'.pages bn g.kept g'.pages bk g'.slot g'.number) 167 (0, 0))) : PL w' base gd gl O s g' := by
  obtain ⟨O1, O2, hd, ⟨bn, bk, hb, hmn, hmk, hne, hgl, hbn, hbk, hb1, hb2, hb3⟩, ho1, ho2, hdis, hbd1, hbd2⟩ := h
  refine ⟨O1, O2, (frD _ _ _).apart hd hk (fun j hj he => hdis j hj (by rw [he]; exact hgl)), ⟨bn, bk, ?_, ?_, ?_, hne, hgl, hbn, hbk, hb1, hb2, hb3⟩, ho1, ho2, hdis, fun j hj => ⟨(hbd1 j hj).1, Nat.lt_of_lt_of_le (hbd1 j hj).2 hk.1⟩, fun j hj => ⟨(hbd2 j hj).1, Nat.lt_of_lt_of_le (hbd2 j hj).2 hk.1⟩⟩
  · rw [hfr, hkt]; exact hx _ _ hb
  · rw [hfr]; exact hmn.kept (hk.2 bn hmn.lt (hmn.ne hb))
  · rw [hfr, hkt]; exact hmk.kept (hk.2 bk hmk.lt (hmk.ne hb))
theorem Lg.tell_is (s : St) (g : Lg) (fr pg : Nat) (at_ : Int) (hat : at_ = ((16 + 24 * (1 - g.slot) : Nat) : Int)) (r1 r2 : Int × St) (h1 : r1 = s.write 1 at_ (slotB (g.number % 3 + 1) fr pg)) (h2 : r2 = r1.2.sync 1) (cF : Int) (hc : cF = if r1.1 ≠ 0 then r1.1 else r2.1) (sF : St) (hs : sF = if r1.1 ≠ 0 then r1.2 else r2.2) :
    Lg.tell s g fr pg = (cF, sF, if cF = 0 then { g with slot := 1 - g.slot, number := g.number % 3 + 1 } else g) := by
  subst hat
  unfold Lg.tell
  simp only
  rw [← h1, ← h2, hc, hs]
  by_cases e1 : r1.1 = 0 <;> by_cases e2 : r2.1 = 0 <;> simp [e1, e2]
set_option maxHeartbeats 8000000 in
set_option maxRecDepth 100000 in
theorem tell.calls (gd gl : Nat) (O : Nat → Prop) (s : St) (g : Lg) (m : Nat) (fr pg : Nat) (w0 w : World) (hB : Below w0.heap.size w0 w) (hD : PL w w0.heap.size gd gl O s g) (hok : s.ok m) (hm : m ≤ 800000000) (hg : g.ok) (hfr : fr ≤ 65536) (hpg : pg ≤ 4294967295) :
    Calls Try.prog 146 #[pv gl, .int .i64 fr, .int .i64 pg] w fun e w' => e = .returned (.int .i64 (Lg.tell s g fr pg).1) ∧
      PL w' w0.heap.size gd gl (fun k => O k ∨ w.heap.size ≤ k) (Lg.tell s g fr pg).2.1 (Lg.tell s g fr pg).2.2 ∧ Below w0.heap.size w0 w' ∧ Kept w w' O := by
  have HB := Aside0.mk hB
  have HD := Aside0.mk hD
  have HOK := Aside0.mk hok
  have HM := Aside0.mk hm
  have HG := Aside0.mk hg
  obtain ⟨bn, bk, hx, -, -, -, -, -, hgl0, -, -, hbase0, -⟩ := PL.cells hD
  have HGL := Aside0.mk hgl0
  have HBASE := Aside0.mk hbase0
  clear hgl0 hbase0
  have HX := Aside0.mk hx
  have hn1 := hg.number
  have hn2 := hg.slot
  obtain ⟨sl, hsl⟩ : ∃ sl : Int, sl = g.slot := ⟨_, rfl⟩
  obtain ⟨nu, hnu⟩ : ∃ nu : Int, nu = g.number := ⟨_, rfl⟩
  rw [← hsl, ← hnu] at hx
  clear hB hD hok hm hg
  go_enter Try.func146, Try.ntmps146
  go_upto_region 1 with (first
    | ((with_reducible refine gate_dst (N := 3) rfl ?_); refine box_event ?hg (N := 3) ?hd (cs := #[pv gl]) (t := 83) ?hr ?_; (case hd => rfl); (case hg => rfl); (case hr => first | (go_simp; done) | (go_simp; rfl)); intro g1 hg1 w1 hbox hb; have HX1 := Aside0.mk hbox; have HB1 := Aside0.mk hb; have HG1 := Aside0.mk hg1; clear hg1 hbox hb)
    | ((with_reducible refine gate_dst (N := 4) rfl ?_); refine box_event ?hg (N := 4) ?hd (cs := #[.int .i64 fr]) (t := 3) ?hr ?_; (case hd => rfl); (case hg => rfl); (case hr => first | (go_simp; done) | (go_simp; rfl)); intro g2 hg2 w2 hbox hb; have HX2 := Aside0.mk hbox; have HB2 := Aside0.mk hb; have HG2 := Aside0.mk hg2; clear hg2 hbox hb)
    | ((with_reducible refine gate_dst (N := 5) rfl ?_); refine box_event ?hg (N := 5) ?hd (cs := #[.int .i64 pg]) (t := 3) ?hr ?_; (case hd => rfl); (case hg => rfl); (case hr => first | (go_simp; done) | (go_simp; rfl)); intro g3 hg3 w3 hbox hb; have HX3 := Aside0.mk hbox; have HB3 := Aside0.mk hb; have HG3 := Aside0.mk hg3; clear hg3 hbox hb))
  try go_frame
  have HBW := Aside0.mk (below_step (below_step (below_step (Below.refl _ w) HB1.out) HB2.out) HB3.out)
  have HX1 := Aside0.mk (blk_below (blk_below HX1.out HB2.out) HB3.out)
  have HX2 := Aside0.mk (blk_below HX2.out HB3.out)
  have HXL := Aside0.mk (blk_below hx HBW.out)
  have p0 : w3.cell? ⟨g1, 0, none⟩ = some (pv gl) := (blk_cell HX1.out 0).trans rfl
  have p0b : ∀ o, (w3.alloc o).cell? ⟨g1, 0, none⟩ = some (pv gl) := fun o => (blk_cell (blk_alloc HX1.out o) 0).trans rfl
  have p0c : ∀ o o', ((w3.alloc o).alloc o').cell? ⟨g1, 0, none⟩ = some (pv gl) := fun o o' => (blk_cell (blk_alloc (blk_alloc HX1.out o) o') 0).trans rfl
  have p1 : w3.cell? ⟨gl, 7, none⟩ = some (.int .i64 sl) := (blk_cell HXL.out 7).trans rfl
  have p1b : ∀ o, (w3.alloc o).cell? ⟨gl, 7, none⟩ = some (.int .i64 sl) := fun o => (blk_cell (blk_alloc HXL.out o) 7).trans rfl
  have p1c : ∀ o o', ((w3.alloc o).alloc o').cell? ⟨gl, 7, none⟩ = some (.int .i64 sl) := fun o o' => (blk_cell (blk_alloc (blk_alloc HXL.out o) o') 7).trans rfl
  have p2 : w3.cell? ⟨gl, 8, none⟩ = some (.int .i64 nu) := (blk_cell HXL.out 8).trans rfl
  have p2b : ∀ o, (w3.alloc o).cell? ⟨gl, 8, none⟩ = some (.int .i64 nu) := fun o => (blk_cell (blk_alloc HXL.out o) 8).trans rfl
  have p2c : ∀ o o', ((w3.alloc o).alloc o').cell? ⟨gl, 8, none⟩ = some (.int .i64 nu) := fun o o' => (blk_cell (blk_alloc (blk_alloc HXL.out o) o') 8).trans rfl
  have d_ : nu.tmod 3 = nu % 3 := Int.tmod_eq_emod_of_nonneg (by omega)
  have v1 : IntKind.i64.wrap (1 - sl) = 1 - sl := IntWalk.i64_in _ (by omega)
  have v2 : IntKind.i64.wrap (nu % 3 + 1) = nu % 3 + 1 := IntWalk.i64_in _ (by omega)
  have v3 : IntKind.i64.wrap (nu % 3) = nu % 3 := IntWalk.i64_in _ (by omega)
  clear hx
  have HSL := Aside0.mk hsl
  have HNU := Aside0.mk hnu
  clear hsl hnu
  go_cut [7, 8] from 10 to 20 (fun v7 v8 wx => ∃ gA gB, v7 = pv gA ∧ v8 = pv gB ∧ Aside0 (Below w3.heap.size w3 wx ∧ wx.heap[gA]? = some (bx1 (.int .i64 (1 - sl)) 3) ∧ wx.heap[gB]? = some (bx1 (.int .i64 (nu % 3 + 1)) 3) ∧ w3.heap.size ≤ gA ∧ w3.heap.size ≤ gB))
  case first =>
    go_region
    all_goals go_wp2_with (fail)
    · go_meet
      case rel =>
        refine ⟨_, _, rfl, rfl, ⟨((((Below.refl _ _).alloc (Nat.le_refl _) _).alloc (Nat.le_trans (Nat.le_succ _) (by simp)) _).drew), blk_drew (blk_alloc (blk_new _ _) _), blk_drew ?_, Nat.le_refl _, Nat.le_succ _⟩⟩
        have h := blk_new (w3.alloc (bx1 (.int .i64 (1 - sl)) 3)) (bx1 (.int .i64 (nu % 3 + 1)) 3)
        rw [show (w3.alloc (bx1 (.int .i64 (1 - sl)) 3)).heap.size = w3.heap.size + 1 by simp] at h
        exact h
    · go_meet
      case rel =>
        refine ⟨_, _, rfl, rfl, ⟨((((Below.refl _ _).alloc (Nat.le_refl _) _).alloc (Nat.le_trans (Nat.le_succ _) (by simp)) _).drew), blk_drew ?_, blk_drew (blk_alloc (blk_new _ _) _), Nat.le_succ _, Nat.le_refl _⟩⟩
        have h := blk_new (w3.alloc (bx1 (.int .i64 (nu % 3 + 1)) 3)) (bx1 (.int .i64 (1 - sl)) 3)
        rw [show (w3.alloc (bx1 (.int .i64 (nu % 3 + 1)) 3)).heap.size = w3.heap.size + 1 by simp] at h
        exact h
  case rest =>
    obtain ⟨gA, gB, rfl, rfl, HC⟩ := hcut
    clear p0 p0b p0c p1 p1b p1c p2 p2b p2c HX
    have HBC := Aside0.mk (below_step HBW.out HC.out.1)
    obtain ⟨O', hO'⟩ : ∃ O' : Nat → Prop, O' = fun k => O k ∧ w0.heap.size ≤ k ∧ k < w.heap.size := ⟨_, rfl⟩
    have HO := Aside0.mk hO'
    obtain ⟨arr, harr⟩ : ∃ arr : Obj, arr = .cells #[.func (.func 176) #[] #[pv g1, pv gA, pv gB, pv g2, pv g3], .func (.func 177) #[] #[pv g1]] 95 (0, 0) := ⟨_, rfl⟩
    have HARR := Aside0.mk harr
    obtain ⟨bx, hbx⟩ : ∃ bx : List (Nat × Obj), bx = [(g1, bx1 (pv gl) 83), (gA, bx1 (.int .i64 (1 - sl)) 3), (gB, bx1 (.int .i64 (nu % 3 + 1)) 3), (g2, bx1 (.int .i64 fr) 3), (g3, bx1 (.int .i64 pg) 3), (wc.heap.size, arr)] := ⟨_, rfl⟩
    have HBX := Aside0.mk hbx
    have hwb : WB w0 (wc.alloc arr) bx gd (LX w0.heap.size gl gd g) O' s := by
      have hba := below_step HBC.out ((Below.refl wc.heap.size wc).alloc (Nat.le_refl _) arr)
      refine ⟨below_step HB.out hba, ?_, ?_⟩
      · rw [HO.out]
        exact (frPL _ _ _ _ _).apart ((frPL _ _ _ _ _).narrow HD.out) (S := fun _ => False) (Kept.of_below hba _) (fun _ _ h => h)
      · have z1 : w.heap.size ≤ g1 := Nat.le_of_eq HG1.out.symm
        have z2 : w.heap.size ≤ g2 := by rw [HG2.out]; exact HB1.out.size
        have z3 : w.heap.size ≤ g3 := by rw [HG3.out]; exact Nat.le_trans HB1.out.size HB2.out.size
        have z4 := HBW.out.size
        have z5 := HBC.out.size
        have no : ∀ k, w.heap.size ≤ k → ¬ O' k := fun k hk ho => by rw [HO.out] at ho; omega
        rw [HBX.out]
        intro x hx
        simp only [List.mem_cons, List.not_mem_nil, or_false] at hx
        rcases hx with rfl | rfl | rfl | rfl | rfl | rfl
        · exact ⟨blk_alloc (blk_below HX1.out HC.out.1) _, no _ z1⟩
        · exact ⟨blk_alloc HC.out.2.1 _, no _ (Nat.le_trans z4 HC.out.2.2.2.1)⟩
        · exact ⟨blk_alloc HC.out.2.2.1 _, no _ (Nat.le_trans z4 HC.out.2.2.2.2)⟩
        · exact ⟨blk_alloc (blk_below HX2.out HC.out.1) _, no _ z2⟩
        · exact ⟨blk_alloc (blk_below HX3.out HC.out.1) _, no _ z3⟩
        · exact ⟨blk_new _ _, no _ z5⟩
    have hmf : ∀ (fn : Fn) (first cap : Array Value) (w : World), (Instr.makeFunc fn first cap).run Try.prog w = .ok (.func fn first cap) w := fun _ _ _ _ => rfl
    have hl := lkLX w0.heap.size gd gl g
    have HL := Aside0.mk hl
    have hat : 16 + (1 - sl) * 24 = ((16 + 24 * (1 - g.slot) : Nat) : Int) := by have := HSL.out; omega
    have htx : wal_slotText.f (nu % 3 + 1) fr pg = some (slotB (g.number % 3 + 1) fr pg) := by
      rw [show nu % 3 + 1 = ((g.number % 3 + 1 : Nat) : Int) by have := HNU.out; omega]
      exact slotText_is _ _ _
    obtain ⟨r1, hr1⟩ : ∃ r, r = s.write 1 (16 + (1 - sl) * 24) (slotB (g.number % 3 + 1) fr pg) := ⟨_, rfl⟩
    obtain ⟨r2, hr2⟩ : ∃ r, r = r1.2.sync 1 := ⟨_, rfl⟩
    obtain ⟨cF, hcF⟩ : ∃ c, c = if r1.1 ≠ 0 then r1.1 else r2.1 := ⟨_, rfl⟩
    obtain ⟨sF, hsF⟩ : ∃ c, c = if r1.1 ≠ 0 then r1.2 else r2.2 := ⟨_, rfl⟩
    have HT := Aside0.mk (Lg.tell_is s g fr pg _ hat r1 r2 hr1 hr2 cF hcF sF hsF)
    have hcall : Calls Try.prog 142 #[.slice (some ⟨wc.heap.size, 0, none⟩) 2 2] (wc.alloc arr) fun e w' => e = .returned (.int .i64 cF) ∧ Ran w0 (wc.alloc arr) bx gd (LX w0.heap.size gl gd g) O' sF w' := by
      have m1 : (wc.heap.size, arr) ∈ bx := by rw [HBX.out]; simp
      have hs := (hwb.bx _ m1).1
      have ok1 : r1.2.ok (m + 1) := by rw [hr1]; exact HOK.out.write _ _ _
      rw [HARR.out] at hs
      refine (done_176_177 wc.heap.size _ _ r1.1 r2.1 (Ran w0 (wc.alloc arr) bx gd (LX w0.heap.size gl gd g) O' r1.2) (Ran w0 (wc.alloc arr) bx gd (LX w0.heap.size gl gd g) O' r2.2) (wc.alloc arr) (by rw [HARR.out]; exact hs) ?_ ?_).mono ?_
      · refine (write176.calls g1 gA gB g2 g3 gd gl (1 - sl) (nu % 3 + 1) fr pg _ bx _ O' s m w0 (wc.alloc arr) hwb hl HOK.out (Nat.le_trans HM.out (by decide)) (by rw [HBX.out]; simp) (by rw [HBX.out]; simp) (by rw [HBX.out]; simp) (by rw [HBX.out]; simp) (by rw [HBX.out]; simp) (by have := HSL.out; omega) htx).mono ?_
        rintro e w' ⟨rfl, hr⟩
        rw [← hr1] at hr ⊢
        exact ⟨rfl, hr, Ran.keeps hwb hr m1⟩
      · intro _ w1' hp1 _
        refine (sync177.calls g1 gd gl bx _ _ r1.2 (m + 1) w0 w1' hp1.1 hl ok1 (by have := HM.out; omega) (by rw [HBX.out]; simp)).mono ?_
        rintro e w' ⟨rfl, hr⟩
        rw [← hr2] at hr ⊢
        exact ⟨rfl, Ran.next hwb hp1 hl hr, Ran.keeps hp1.1 hr m1⟩
      · rintro e w' ⟨rfl, hr⟩
        rw [hcF, hsF]
        refine ⟨rfl, ?_⟩
        by_cases e1 : r1.1 = 0
        · rw [if_neg (fun h => h e1)] at hr ⊢
          exact hr
        · rw [if_pos e1] at hr ⊢
          exact hr
    have HWB := Aside0.mk hwb
    have HCALL := Aside0.mk hcall
    rw [HARR.out] at HCALL
    clear harr hbx hO' hcall hwb hr1 hr2 hcF hsF hat htx hl hmf
    have hmf : ∀ (fn : Fn) (first cap : Array Value) (w : World), (Instr.makeFunc fn first cap).run Try.prog w = .ok (.func fn first cap) w := fun _ _ _ _ => rfl
    go_upto_region 3 with (go_at_call 142; (with_reducible refine HCALL.out.mono ?_); rintro e w5 ⟨rfl, hr⟩; rw [← HARR.out] at hr; have HR := Aside0.mk hr; clear hr)
    have hend : PL w5 w0.heap.size gd gl (fun k => O k ∨ w.heap.size ≤ k) sF g ∧ Below w0.heap.size w0 w5 ∧ Kept w w5 O := by
      have hz := (HBC.out.size)
      have hba := below_step HBC.out ((Below.refl wc.heap.size wc).alloc (Nat.le_refl _) arr)
      refine ⟨(frPL _ _ _ _ _).mono HR.out.1.hD (fun k hk => ?_), HR.out.1.hB, ((Kept.of_below hba O).then_ HR.out.2 (fun k hk => by rw [HO.out] at hk; exact .inl hk.1))⟩
      rcases hk with hk | hk
      · rw [HO.out] at hk; exact .inl hk.1
      · exact .inr (Nat.le_trans hba.size hk)
    have HEND := Aside0.mk hend
    clear hend
    by_cases hc : cF = 0
    · obtain ⟨bn5, bk5, hx5, -⟩ := PL.cells HEND.out.1
      have m1 : (g1, bx1 (pv gl) 83) ∈ bx := by rw [HBX.out]; simp
      have m2 : (gA, bx1 (.int .i64 (1 - sl)) 3) ∈ bx := by rw [HBX.out]; simp
      have m3 : (gB, bx1 (.int .i64 (nu % 3 + 1)) 3) ∈ bx := by rw [HBX.out]; simp
      have b1 := (HR.out.1.bx _ m1).1
      have b2 := (HR.out.1.bx _ m2).1
      have b3 := (HR.out.1.bx _ m3).1
      have n1 : g1 ≠ gl := fun e => by rw [e] at b1; rw [b1] at hx5; cases hx5
      have n2 : gA ≠ gl := fun e => by rw [e] at b2; rw [b2] at hx5; cases hx5
      have n3 : gB ≠ gl := fun e => by rw [e] at b3; rw [b3] at hx5; cases hx5
      have HX5 := Aside0.mk hx5
      have p0 : w5.cell? ⟨g1, 0, none⟩ = some (pv gl) := (blk_cell b1 0).trans rfl
      have p0b : ∀ v, (w5.setCell ⟨gl, 7, none⟩ v).cell? ⟨g1, 0, none⟩ = some (pv gl) := fun v => (blk_cell (blk_far b1 (p := ⟨gl, 7, none⟩) n1 v) 0).trans rfl
      have p1 : w5.cell? ⟨gA, 0, none⟩ = some (.int .i64 (1 - sl)) := (blk_cell b2 0).trans rfl
      have p2 : w5.cell? ⟨gB, 0, none⟩ = some (.int .i64 (nu % 3 + 1)) := (blk_cell b3 0).trans rfl
      have p2b : ∀ v, (w5.setCell ⟨gl, 7, none⟩ v).cell? ⟨gB, 0, none⟩ = some (.int .i64 (nu % 3 + 1)) := fun v => (blk_cell (blk_far b3 (p := ⟨gl, 7, none⟩) n3 v) 0).trans rfl
      have p3 : ∃ v, w5.cell? ⟨gl, 7, none⟩ = some v := ⟨_, (blk_cell hx5 7).trans rfl⟩
      have p4 : ∃ v, w5.cell? ⟨gl, 8, none⟩ = some v := ⟨_, (blk_cell hx5 8).trans rfl⟩
      have p4b : ∀ u, ∃ v, (w5.setCell ⟨gl, 7, none⟩ u).cell? ⟨gl, 8, none⟩ = some v := fun u => ⟨_, (blk_cell (blk_set hx5 7 u) 8).trans rfl⟩
      obtain ⟨x3, p3⟩ := p3
      obtain ⟨x4, p4⟩ := p4
      have z3 := blk_frozen hx5 7
      have z4 := blk_frozen hx5 8
      have z4b : ∀ u, (w5.setCell ⟨gl, 7, none⟩ u).frozen? ⟨gl, 8, none⟩ = false := fun u => blk_frozen (blk_set hx5 7 u) 8
      have HT0 := Aside0.mk (show Lg.tell s g fr pg = (0, sF, { g with slot := 1 - g.slot, number := g.number % 3 + 1 }) by rw [HT.out, if_pos hc, hc])
      clear hx5 b1 b2 b3 n1 n2 n3 m1 m2 m3
      subst hc
      go_upto_region 4 with (fail)
      go_region
      all_goals go_wp2_with (fail)
      go_ret
      rw [HT0.out]
      have hk7 : Kept w5 ((w5.setCell ⟨gl, 7, none⟩ (.int .i64 (1 - sl))).setCell ⟨gl, 8, none⟩ (.int .i64 (nu % 3 + 1))).drew (fun j => j = gl) :=
        (((set_kept (w := w5) (g := gl) (j := 7) (v := .int .i64 (1 - sl))).then_ (set_kept (g := gl) (j := 8) (v := .int .i64 (nu % 3 + 1))) (fun j hj => .inl hj)).then_ (Kept.drew (Kept.refl _ (fun j => j = gl))) (fun j hj => .inl hj))
      refine ⟨rfl, (frPL _ _ _ _ _).mono (PL.upd HEND.out.1 hk7 rfl rfl ?_) (fun k hk => hk), ?_, ?_⟩
      · intro bn' bk' hb'
        have h := blk_drew (blk_put (blk_put hb' 7 (.int .i64 (1 - sl)) rfl) 8 (.int .i64 (nu % 3 + 1)) rfl)
        rw [show (((1 - g.slot : Nat)) : Int) = 1 - sl by have := HSL.out; omega, show ((g.number % 3 + 1 : Nat) : Int) = nu % 3 + 1 by have := HNU.out; omega]
        exact h
      · exact ((HEND.out.2.1.setCell (p := ⟨gl, 7, none⟩) HBASE.out _).setCell (p := ⟨gl, 8, none⟩) HBASE.out _).drew
      · exact HEND.out.2.2.then_ hk7 (fun j hj => .inl (by rw [hj]; exact HGL.out))
    · have q_ : (cF == 0) = false := beq_false hc
      have HC0 := Aside0.mk hc
      go_wp2_with (fail)
      go_ret
      rw [HT.out, if_neg HC0.out]
      exact ⟨rfl, HEND.out⟩
end Go.Proofs.Ythaoaaboempajaa.Log
namespace Go.Proofs.Ythaoaaboempajaa.Log
open Go.RowKit Go.Maps Go.Proofs.Ythaoaaboempajaa.QLogRuns Go.Proofs.Ythaoaaboempajaa.QDiskRuns Go.Proofs.Ythaoaaboempajaa.Disk Go.Proofs.YthaoaaboempajaaW.PrintWords Go.Proofs.YthaoaaboempajaaW.PrintLast Go.Proofs.YthaoaaboempajaaW.PrintMore Go.Proofs.YthaoaaboempajaaX
set_option linter.unusedVariables false
set_option linter.unusedSimpArgs false
def Lg.back (g : Lg) : Lg := { g with fr := g.fr.take g.kept }
theorem Lg.ok.back {g : Lg} (h : g.ok) : g.back.ok :=
  ⟨by have := h.n; have := h.kept; unfold Lg.back; simp; omega, by have := h.kept; unfold Lg.back; simp; omega, h.pages, h.slot, h.number, fun c hc => h.fr c (List.mem_of_mem_take hc)⟩
theorem PL.redo {w w' : World} {base gd gl : Nat} {O : Nat → Prop} {s : St} {g g' : Lg} (h : PL w base gd gl O s g) (hk : Kept w w' (fun j => j = gl)) {n p k p' sl nu : Int} {bn bk bn' bk' : Nat}
    (hx : w.heap[gl]? = some (.cells (lcells gd n p bn k p' bk sl nu) 167 (0, 0)))
    (hx' : w'.heap[gl]? = some (.cells (lcells gd g'.fr.length g'.pages bn' g'.kept g'.pages bk' g'.slot g'.number) 167 (0, 0)))
    (hn : MapF w' bn' g'.fr.length (idx g'.fr)) (hkm : MapF w' bk' g'.kept (idx (g'.fr.take g'.kept))) (hne : bn' ≠ bk')
    (hn' : bn' = bn ∨ bn' = bk ∨ w.heap.size ≤ bn') (hk' : bk' = bn ∨ bk' = bk ∨ w.heap.size ≤ bk') : PL w' base gd gl (fun j => O j ∨ w.heap.size ≤ j) s g' := by
  obtain ⟨O1, O2, hd, ⟨bn0, bk0, hb, hmn, hmk, hne0, hgl, hbn, hbk, hb1, hb2, hb3⟩, ho1, ho2, hdis, hbd1, hbd2⟩ := h
  rw [hx] at hb
  have e0 := Option.some.inj hb
  have e1 : lcells gd n p bn k p' bk sl nu = lcells gd g.fr.length g.pages bn0 g.kept g.pages bk0 g.slot g.number := by injection e0
  have e2 : bn = bn0 := by
    have := congrArg (fun c : Array Value => c[3]?) e1
    simp [lcells] at this
    exact this
  have e3 : bk = bk0 := by
    have := congrArg (fun c : Array Value => c[6]?) e1
    simp [lcells] at this
    exact this
  subst e2
  subst e3
  have hwl := hk.1
  have hbase : base ≤ w.heap.size := Nat.le_trans hb1 (Nat.le_of_lt (blk_lt hx))
  have new : ∀ b, b = bn ∨ b = bk ∨ w.heap.size ≤ b → (O2 b ∨ w.heap.size ≤ b) ∧ base ≤ b := by
    rintro b (rfl | rfl | hb)
    · exact ⟨.inl hbn, hb2⟩
    · exact ⟨.inl hbk, hb3⟩
    · exact ⟨.inr hb, Nat.le_trans hbase hb⟩
  refine ⟨O1, fun j => (O2 j ∨ w.heap.size ≤ j) ∧ j < w'.heap.size, (frD _ _ _).apart hd hk (fun j hj he => hdis j hj (by rw [he]; exact hgl)), ⟨bn', bk', hx', hn, hkm, hne, ⟨.inl hgl, blk_lt hx'⟩, ⟨(new _ hn').1, hn.lt⟩, ⟨(new _ hk').1, hkm.lt⟩, hb1, (new _ hn').2, (new _ hk').2⟩, fun j hj => .inl (ho1 j hj), fun j hj => hj.1.imp (ho2 j) id, fun j h1 h2 => h2.1.elim (hdis j h1) (Nat.not_le.mpr (hbd1 j h1).2), fun j hj => ⟨(hbd1 j hj).1, Nat.lt_of_lt_of_le (hbd1 j hj).2 hwl⟩, fun j hj => ⟨hj.1.elim (fun h => (hbd2 j h).1) (fun h => Nat.le_trans hbase h), hj.2⟩⟩
theorem set3_kept (w : World) (gl a b c : Nat) (u v x : Value) : Kept w (((w.setCell ⟨gl, a, none⟩ u).setCell ⟨gl, b, none⟩ v).setCell ⟨gl, c, none⟩ x) (fun j => j = gl) :=
  ((set_kept (w := w) (g := gl) (j := a) (v := u)).then_ (set_kept (g := gl) (j := b) (v := v)) (fun j hj => .inl hj)).then_ (set_kept (g := gl) (j := c) (v := x)) (fun j hj => .inl hj)
set_option maxHeartbeats 8000000 in
set_option maxRecDepth 100000 in
theorem back.calls (gd gl : Nat) (O : Nat → Prop) (s : St) (g : Lg) (w0 w : World) (hB : Below w0.heap.size w0 w) (hD : PL w w0.heap.size gd gl O s g) (hg : g.ok) :
    Calls Try.prog 70 #[pv gl] w fun e w' => e = .returned (.tuple #[]) ∧
      PL w' w0.heap.size gd gl (fun k => O k ∨ w.heap.size ≤ k) s g.back ∧ Below w0.heap.size w0 w' ∧ Kept w w' O := by
  have HB := Aside0.mk hB
  have HD := Aside0.mk hD
  have HG := Aside0.mk hg
  obtain ⟨bn, bk, hx, hmn, hmk, -⟩ := PL.cells hD
  have HX := Aside0.mk hx
  have p4 : w.cell? ⟨gl, 4, none⟩ = some (.int .i64 g.kept) := (blk_cell hx 4).trans rfl
  have p5 : w.cell? ⟨gl, 5, none⟩ = some (.int .i64 g.pages) := (blk_cell hx 5).trans rfl
  have p6 : w.cell? ⟨gl, 6, none⟩ = some (.map (some bk)) := (blk_cell hx 6).trans rfl
  have hc := copied.calls bk g.kept (idx (g.fr.take g.kept)) g.kept g.pages w hmk (by have := hg.n; have := hg.kept; omega)
  unfold pcells at hc
  have HC := Aside0.mk hc
  clear hB hD hg hx hmn hmk hc
  go_enter Try.func70, Try.ntmps70
  go_wp2_with (go_at_call 140; (with_reducible refine HC.out.mono ?_); rintro e w1 ⟨b', rfl, hb1, hm1, hw1⟩; have HM1 := Aside0.mk hm1; have HW1 := Aside0.mk hw1; have HB1 := Aside0.mk hb1; have HX1 := Aside0.mk (blk_below HX.out hw1); have z1 := blk_frozen HX1.out 1; have z2 := blk_frozen HX1.out 2; have z3 := blk_frozen HX1.out 3; have y1 : ∃ v, w1.cell? ⟨gl, 1, none⟩ = some v := ⟨_, (blk_cell HX1.out 1).trans rfl⟩; have y2 : ∃ v, w1.cell? ⟨gl, 2, none⟩ = some v := ⟨_, (blk_cell HX1.out 2).trans rfl⟩; have y3 : ∃ v, w1.cell? ⟨gl, 3, none⟩ = some v := ⟨_, (blk_cell HX1.out 3).trans rfl⟩; obtain ⟨x1, y1⟩ := y1; obtain ⟨x2, y2⟩ := y2; obtain ⟨x3, y3⟩ := y3; clear hm1 hw1 hb1)
  go_end0
  have hk1 := set3_kept w1 gl 1 2 3 (.int .i64 g.kept) (.int .i64 g.pages) (.map (some b'))
  have hk : Kept w (((w1.setCell ⟨gl, 1, none⟩ (.int .i64 g.kept)).setCell ⟨gl, 2, none⟩ (.int .i64 g.pages)).setCell ⟨gl, 3, none⟩ (.map (some b'))) (fun j => j = gl) := (Kept.of_below HW1.out _).then_ hk1 (fun j hj => .inl hj)
  obtain ⟨bn0, bk0, hx0, hmn0, hmk0, hn0, hk0, hne0, hgl, hbn, hbk, hb1, hb2, hb3⟩ := PL.cells HD.out
  have e0 := HX.out.symm.trans hx0
  have e3 : bk0 = bk := by
    injection e0 with e0
    injection e0 with e0
    have := congrArg (fun c : Array Value => c[6]?) e0
    simp [lcells] at this
    exact this.symm
  subst e3
  have hlt := hmk0.lt
  have l1 : (g.fr.take g.kept).length = g.kept := by have := HG.out.kept; simp; omega
  refine ⟨rfl, PL.redo HD.out hk HX.out (bn' := b') (bk' := bk0) ?_ ?_ ?_ (by have := HB1.out; omega) (.inr (.inr HB1.out)) (.inr (.inl rfl)), ?_, ?_⟩
  · have h := blk_put (blk_put (blk_put HX1.out 1 (.int .i64 g.kept) rfl) 2 (.int .i64 g.pages) rfl) 3 (.map (some b')) rfl
    unfold Lg.back
    simp only [l1]
    exact h
  · unfold Lg.back
    simp only [l1]
    exact HM1.out.kept (hk1.2 b' HM1.out.lt (HM1.out.ne HX1.out))
  · unfold Lg.back
    simp only [List.take_take, Nat.min_self]
    exact hmk0.kept (hk.2 bk0 hlt hk0)
  · exact (((below_step HB.out HW1.out).setCell (p := ⟨gl, 1, none⟩) hb1 _).setCell (p := ⟨gl, 2, none⟩) hb1 _).setCell (p := ⟨gl, 3, none⟩) hb1 _
  · exact hk.mono (fun j hj => by rw [hj]; exact hgl)
end Go.Proofs.Ythaoaaboempajaa.Log
namespace Go.Proofs.Ythaoaaboempajaa.Log
open Go.RowKit Go.Maps Go.Proofs.Ythaoaaboempajaa.QLogRuns Go.Proofs.Ythaoaaboempajaa.QDiskRuns Go.Proofs.Ythaoaaboempajaa.Disk Go.Proofs.YthaoaaboempajaaW.PrintWords Go.Proofs.YthaoaaboempajaaW.PrintLast Go.Proofs.YthaoaaboempajaaW.PrintMore Go.Proofs.YthaoaaboempajaaX
set_option linter.unusedVariables false
set_option linter.unusedSimpArgs false
theorem Lg.ok.append {g : Lg} (h : g.ok) (s : St) (n : Int) (t : ByteArray) : (Lg.append s g n t).2.2.ok := by
  unfold Lg.append
  split
  · exact h
  · rename_i hb
    split
    · exact h
    · rename_i hl
      split
      · refine ⟨by simp; omega, by have := h.kept; simp; omega, h.pages, h.slot, h.number, ?_⟩
        intro c hc
        rcases List.mem_append.mp hc with hc | hc
        · exact h.fr c hc
        · rw [List.mem_singleton] at hc
          subst hc
          exact ⟨by simp only; omega, by simp only; omega⟩
      · exact h
theorem St.ok.appended {s : St} {m : Nat} (h : s.ok m) (g : Lg) (n : Int) (t : ByteArray) : (Lg.append s g n t).2.1.ok (m + 1) := by
  unfold Lg.append
  split
  · exact h.mono (Nat.le_succ m)
  · split
    · exact h.mono (Nat.le_succ m)
    · split
      · exact h.write _ _ _
      · exact h.write _ _ _
theorem Lg.ok.tell {g : Lg} (h : g.ok) (s : St) (f p : Nat) : (Lg.tell s g f p).2.2.ok := by
  unfold Lg.tell
  simp only
  split
  · exact h
  · split
    · exact h
    · exact ⟨h.n, h.kept, h.pages, by have := h.slot; simp only; omega, by simp only; omega, h.fr⟩
theorem St.ok.told {s : St} {m : Nat} (h : s.ok m) (g : Lg) (f p : Nat) : (Lg.tell s g f p).2.1.ok (m + 2) := by
  unfold Lg.tell
  simp only
  split
  · exact (h.write _ _ _).mono (by omega)
  · split
    · exact (h.write _ _ _).sync _
    · exact (h.write _ _ _).sync _
theorem Lg.tell_fr (s : St) (g : Lg) (f p : Nat) : (Lg.tell s g f p).2.2.fr = g.fr ∧ (Lg.tell s g f p).2.2.kept = g.kept ∧ (Lg.tell s g f p).2.2.pages = g.pages := by
  unfold Lg.tell
  simp only
  split
  · exact ⟨rfl, rfl, rfl⟩
  · split <;> exact ⟨rfl, rfl, rfl⟩
structure Run where
  c : Int
  s : St
  g : Lg
def Run.andThen (r : Run) (f : St → Lg → Run) : Run := if r.c ≠ 0 then r else f r.s r.g
def rAppend (n : Int) (t : ByteArray) (s : St) (g : Lg) : Run := ⟨(Lg.append s g n t).1, (Lg.append s g n t).2.1, (Lg.append s g n t).2.2⟩
def rTell (f p : Nat) (s : St) (g : Lg) : Run := ⟨(Lg.tell s g f p).1, (Lg.tell s g f p).2.1, (Lg.tell s g f p).2.2⟩
def rSync (f : Int) (s : St) (g : Lg) : Run := ⟨(s.sync f).1, (s.sync f).2, g⟩
def rCut (f a : Int) (s : St) (g : Lg) : Run := ⟨(s.cutTo f a).1, (s.cutTo f a).2, g⟩
def Lg.commit (s : St) (g : Lg) (n : Int) (t : ByteArray) (p : Int) : Run :=
  if p < 1 ∨ p > 65536 then ⟨1, s, g⟩ else
  let r := ((rAppend n t s g).andThen (rSync 1)).andThen (fun s g => rTell g.fr.length p.toNat s g)
  if r.c = 0 then { r with g := { r.g with pages := p.toNat, kept := r.g.fr.length } } else r
set_option maxHeartbeats 4000000 in
theorem append143.calls (bl b1 b2 gd gl : Nat) (n : Int) (t : ByteArray) (bx : List (Nat × Obj)) (O : Nat → Prop) (s : St) (g : Lg) (m : Nat) (w0 w : World) (h : WB w0 w bx gd (LX w0.heap.size gl gd g) O s) (hok : s.ok m) (hm : m ≤ 900000000) (hg : g.ok) (hn : -9223372036854775808 ≤ n ∧ n < 9223372036854775808)
    (hb : (bl, bx1 (pv gl) 83) ∈ bx) (hb1 : (b1, bx1 (.int .i64 n) 3) ∈ bx) (hb2 : (b2, bx1 (.string t) 9) ∈ bx) :
    Calls Try.prog 143 #[pv bl, pv b1, pv b2] w fun e w' => e = .returned (.int .i64 (rAppend n t s g).c) ∧ Ran w0 w bx gd (LX w0.heap.size gl gd (rAppend n t s g).g) O (rAppend n t s g).s w' := by
  have HC := Aside0.mk (h.onL (append.calls gd gl O s g m n t w0 w h.hB h.hD hok hm hg hn))
  have p0 : w.cell? ⟨bl, 0, none⟩ = some (pv gl) := (h.box _ _ _ hb 0).trans rfl
  have p1 : w.cell? ⟨b1, 0, none⟩ = some (.int .i64 n) := (h.box _ _ _ hb1 0).trans rfl
  have p2 : w.cell? ⟨b2, 0, none⟩ = some (.string t) := (h.box _ _ _ hb2 0).trans rfl
  clear hb hb1 hb2 h hok hm hg hn
  go_enter Try.func143, Try.ntmps143
  go_wp2_with (go_at_call 67; (with_reducible refine HC.out.mono ?_); rintro e w2 ⟨rfl, h2⟩; have H2 := Aside0.mk h2; clear h2)
  go_ret
  exact ⟨rfl, H2.out⟩
theorem WB.cells {w0 w : World} {bx : List (Nat × Obj)} {gd gl : Nat} {g : Lg} {O : Nat → Prop} {s : St} (h : WB w0 w bx gd (LX w0.heap.size gl gd g) O s) : w.cell? ⟨gl, 1, none⟩ = some (.int .i64 g.fr.length) ∧ w.cell? ⟨gl, 2, none⟩ = some (.int .i64 g.pages) := by
  obtain ⟨bn, bk, hx, -⟩ := PL.cells h.hD
  exact ⟨(blk_cell hx 1).trans rfl, (blk_cell hx 2).trans rfl⟩
set_option maxHeartbeats 4000000 in
set_option maxRecDepth 100000 in
theorem tell145.calls (bl b1 gd gl : Nat) (p : Nat) (bx : List (Nat × Obj)) (O : Nat → Prop) (s : St) (g : Lg) (m : Nat) (w0 w : World) (h : WB w0 w bx gd (LX w0.heap.size gl gd g) O s) (hok : s.ok m) (hm : m ≤ 800000000) (hg : g.ok) (hp : p ≤ 65536)
    (hb : (bl, bx1 (pv gl) 83) ∈ bx) (hb1 : (b1, bx1 (.int .i64 p) 3) ∈ bx) :
    Calls Try.prog 145 #[pv bl, pv b1] w fun e w' => e = .returned (.int .i64 (rTell g.fr.length p s g).c) ∧ Ran w0 w bx gd (LX w0.heap.size gl gd (rTell g.fr.length p s g).g) O (rTell g.fr.length p s g).s w' := by
  have hl := lkLX w0.heap.size gd gl g
  have T0 := Aside0.mk h
  have HL := Aside0.mk hl
  have hd := h.drew hl
  have HC := Aside0.mk (hd.onL (tell.calls gd gl O s g m g.fr.length p w0 w.drew hd.hB hd.hD hok (by omega) hg (by have := hg.n; omega) (by omega)))
  have p0 : w.cell? ⟨bl, 0, none⟩ = some (pv gl) := (h.box _ _ _ hb 0).trans rfl
  have p1 : w.cell? ⟨b1, 0, none⟩ = some (.int .i64 p) := (h.box _ _ _ hb1 0).trans rfl
  have p2 := (WB.cells h).1
  have hh : ∀ {w1 : World} {O1 : Nat → Prop} {s1 : St}, WB w0 w1 bx gd (LX w0.heap.size gl gd (Lg.tell s g g.fr.length p).2.2) O1 s1 → w1.cell? ⟨bl, 0, none⟩ = some (pv gl) ∧ w1.cell? ⟨b1, 0, none⟩ = some (.int .i64 p) ∧ w1.cell? ⟨gl, 1, none⟩ = some (.int .i64 g.fr.length) :=
    fun h1 => ⟨(h1.box _ _ _ hb 0).trans rfl, (h1.box _ _ _ hb1 0).trans rfl, by have := (WB.cells h1).1; rw [(Lg.tell_fr s g g.fr.length p).1] at this; exact this⟩
  have HH := Aside0.mk @hh
  clear hh
  clear hb hb1 h hok hm hg hp hl hd
  go_enter Try.func145, Try.ntmps145
  go_upto_region 1 with (fail)
  go_region_held3 (fun w' => w'.cell? ⟨bl, 0, none⟩ = some (pv gl) ∧ w'.cell? ⟨b1, 0, none⟩ = some (.int .i64 p) ∧ w'.cell? ⟨gl, 1, none⟩ = some (.int .i64 g.fr.length)) (first | exact HH.out H2.out.1 | exact ⟨p0, p1, p2⟩)
    (first
    | (go_at_call 146; (with_reducible refine HC.out.mono ?_); rintro e w3 ⟨rfl, hb⟩; have H2 := Aside0.mk hb; clear hb))
  go_wp2_with (fail)
  go_ret
  exact ⟨rfl, H2.out⟩
theorem Run.c2 (r : Run) (f : St → Lg → Run) (h : Lg → St → Run) : True := trivial
theorem Lg.ok.commit {g : Lg} (h : g.ok) (s : St) (n : Int) (t : ByteArray) (p : Int) : (Lg.commit s g n t p).g.ok := by
  unfold Lg.commit
  split
  · exact h
  · rename_i hp
    have h1 : (rAppend n t s g).g.ok := h.append s n t
    have h2 : ((rAppend n t s g).andThen (rSync 1)).g.ok := by
      unfold Run.andThen
      split
      · exact h1
      · exact h1
    have h3 : (((rAppend n t s g).andThen (rSync 1)).andThen (fun s g => rTell g.fr.length p.toNat s g)).g.ok := by
      generalize ((rAppend n t s g).andThen (rSync 1)) = r at h2 ⊢
      unfold Run.andThen
      split
      · exact h2
      · exact Lg.ok.tell h2 _ _ _
    simp only
    generalize (((rAppend n t s g).andThen (rSync 1)).andThen (fun s g => rTell g.fr.length p.toNat s g)) = r at h3 ⊢
    split
    · exact ⟨h3.n, Nat.le_refl _, by simp only; omega, h3.slot, h3.number, h3.fr⟩
    · exact h3
theorem Lg.commit_ok {s : St} {m : Nat} (h : s.ok m) (g : Lg) (n : Int) (t : ByteArray) (p : Int) : (Lg.commit s g n t p).s.ok (m + 4) := by
  unfold Lg.commit
  split
  · exact h.mono (by omega)
  · rename_i hp
    have h1 : (rAppend n t s g).s.ok (m + 1) := St.ok.appended h g n t
    have h2 : ((rAppend n t s g).andThen (rSync 1)).s.ok (m + 2) := by
      unfold Run.andThen
      split
      · exact h1.mono (by omega)
      · exact h1.sync _
    have h3 : (((rAppend n t s g).andThen (rSync 1)).andThen (fun s g => rTell g.fr.length p.toNat s g)).s.ok (m + 4) := by
      generalize ((rAppend n t s g).andThen (rSync 1)) = r at h2 ⊢
      unfold Run.andThen
      split
      · exact h2.mono (by omega)
      · exact St.ok.told h2 _ _ _
    simp only
    split <;> exact h3
set_option maxHeartbeats 8000000 in
set_option maxRecDepth 100000 in
theorem commit.calls (gd gl : Nat) (O : Nat → Prop) (s : St) (g : Lg) (m : Nat) (n : Int) (t : ByteArray) (p : Int) (w0 w : World) (hB : Below w0.heap.size w0 w) (hD : PL w w0.heap.size gd gl O s g) (hok : s.ok m) (hm : m ≤ 700000000) (hg : g.ok)
    (hn : -9223372036854775808 ≤ n ∧ n < 9223372036854775808) :
    Calls Try.prog 69 #[pv gl, .int .i64 n, .string t, .int .i64 p] w fun e w' => e = .returned (.int .i64 (Lg.commit s g n t p).c) ∧
      PL w' w0.heap.size gd gl (fun k => O k ∨ w.heap.size ≤ k) (Lg.commit s g n t p).s (Lg.commit s g n t p).g ∧ Below w0.heap.size w0 w' ∧ Kept w w' O := by
  have HB := Aside0.mk hB
  have HD := Aside0.mk hD
  have HOK := Aside0.mk hok
  have HM := Aside0.mk hm
  have HG := Aside0.mk hg
  have HN := Aside0.mk hn
  clear hB hD hok hm hg hn
  by_cases hp : p < 1 ∨ p > 65536
  · have HS := Aside0.mk (show Lg.commit s g n t p = ⟨1, s, g⟩ by unfold Lg.commit; rw [if_pos hp])
    have fin : ∀ w' : World, Below w.heap.size w w' → (Ending.returned (Value.int .i64 1) = .returned (.int .i64 (Lg.commit s g n t p).c) ∧ PL w' w0.heap.size gd gl (fun k => O k ∨ w.heap.size ≤ k) (Lg.commit s g n t p).s (Lg.commit s g n t p).g ∧ Below w0.heap.size w0 w' ∧ Kept w w' O) := by
      intro w' hb
      rw [HS.out]
      exact ⟨rfl, (frPL _ _ _ _ _).mono ((frPL _ _ _ _ _).apart HD.out (S := fun _ => False) (Kept.of_below hb _) (fun _ _ h => h)) (fun k hk => .inl hk), below_step HB.out hb, Kept.of_below hb _⟩
    have FIN := Aside0.mk fin
    clear fin
    by_cases h1 : p < 1
    · have q1 : decide (p < 1) = true := decide_eq_true h1
      clear h1 hp
      go_enter Try.func69, Try.ntmps69
      go_upto_region 1 with (first
    | ((with_reducible refine gate_dst (N := 4) rfl ?_); refine box_event ?hg (N := 4) ?hd (cs := #[pv gl]) (t := 83) ?hr ?_; (case hd => rfl); (case hg => rfl); (case hr => first | (go_simp; done) | (go_simp; rfl)); intro g1 hg1 w1 hbox hb; have HX1 := Aside0.mk hbox; have HB1 := Aside0.mk hb; have HG1 := Aside0.mk hg1; clear hg1 hbox hb)
    | ((with_reducible refine gate_dst (N := 5) rfl ?_); refine box_event ?hg (N := 5) ?hd (cs := #[.int .i64 n]) (t := 3) ?hr ?_; (case hd => rfl); (case hg => rfl); (case hr => first | (go_simp; done) | (go_simp; rfl)); intro g2 hg2 w2 hbox hb; have HX2 := Aside0.mk hbox; have HB2 := Aside0.mk hb; have HG2 := Aside0.mk hg2; clear hg2 hbox hb)
    | ((with_reducible refine gate_dst (N := 6) rfl ?_); refine box_event ?hg (N := 6) ?hd (cs := #[.string t]) (t := 9) ?hr ?_; (case hd => rfl); (case hg => rfl); (case hr => first | (go_simp; done) | (go_simp; rfl)); intro g3 hg3 w3 hbox hb; have HX3 := Aside0.mk hbox; have HB3 := Aside0.mk hb; have HG3 := Aside0.mk hg3; clear hg3 hbox hb)
    | ((with_reducible refine gate_dst (N := 7) rfl ?_); refine box_event ?hg (N := 7) ?hd (cs := #[.int .i64 p]) (t := 3) ?hr ?_; (case hd => rfl); (case hg => rfl); (case hr => first | (go_simp; done) | (go_simp; rfl)); intro g4 hg4 w4 hbox hb; have HX4 := Aside0.mk hbox; have HB4 := Aside0.mk hb; have HG4 := Aside0.mk hg4; clear hg4 hbox hb))
      have HBW := Aside0.mk (below_step (below_step (below_step (below_step (Below.refl _ w) HB1.out) HB2.out) HB3.out) HB4.out)
      have p7 : w4.cell? ⟨g4, 0, none⟩ = some (.int .i64 p) := (blk_cell HX4.out 0).trans rfl
      go_wp2_with (fail)
      go_ret
      exact FIN.out _ HBW.out
    · have q1 : decide (p < 1) = false := decide_eq_false h1
      have q2 : decide (p > 65536) = true := decide_eq_true (by omega)
      have q2' : decide (65536 < p) = true := decide_eq_true (by omega)
      clear h1 hp
      go_enter Try.func69, Try.ntmps69
      go_upto_region 1 with (first
    | ((with_reducible refine gate_dst (N := 4) rfl ?_); refine box_event ?hg (N := 4) ?hd (cs := #[pv gl]) (t := 83) ?hr ?_; (case hd => rfl); (case hg => rfl); (case hr => first | (go_simp; done) | (go_simp; rfl)); intro g1 hg1 w1 hbox hb; have HX1 := Aside0.mk hbox; have HB1 := Aside0.mk hb; have HG1 := Aside0.mk hg1; clear hg1 hbox hb)
    | ((with_reducible refine gate_dst (N := 5) rfl ?_); refine box_event ?hg (N := 5) ?hd (cs := #[.int .i64 n]) (t := 3) ?hr ?_; (case hd => rfl); (case hg => rfl); (case hr => first | (go_simp; done) | (go_simp; rfl)); intro g2 hg2 w2 hbox hb; have HX2 := Aside0.mk hbox; have HB2 := Aside0.mk hb; have HG2 := Aside0.mk hg2; clear hg2 hbox hb)
    | ((with_reducible refine gate_dst (N := 6) rfl ?_); refine box_event ?hg (N := 6) ?hd (cs := #[.string t]) (t := 9) ?hr ?_; (case hd => rfl); (case hg => rfl); (case hr => first | (go_simp; done) | (go_simp; rfl)); intro g3 hg3 w3 hbox hb; have HX3 := Aside0.mk hbox; have HB3 := Aside0.mk hb; have HG3 := Aside0.mk hg3; clear hg3 hbox hb)
    | ((with_reducible refine gate_dst (N := 7) rfl ?_); refine box_event ?hg (N := 7) ?hd (cs := #[.int .i64 p]) (t := 3) ?hr ?_; (case hd => rfl); (case hg => rfl); (case hr => first | (go_simp; done) | (go_simp; rfl)); intro g4 hg4 w4 hbox hb; have HX4 := Aside0.mk hbox; have HB4 := Aside0.mk hb; have HG4 := Aside0.mk hg4; clear hg4 hbox hb))
      have HBW := Aside0.mk (below_step (below_step (below_step (below_step (Below.refl _ w) HB1.out) HB2.out) HB3.out) HB4.out)
      have p7 : w4.cell? ⟨g4, 0, none⟩ = some (.int .i64 p) := (blk_cell HX4.out 0).trans rfl
      go_wp2_with (fail)
      go_ret
      exact FIN.out _ HBW.out
  · have q1 : decide (p < 1) = false := decide_eq_false (by omega)
    have q2 : decide (p > 65536) = false := decide_eq_false (by omega)
    have q2' : decide (65536 < p) = false := decide_eq_false (by omega)
    obtain ⟨pn, rfl⟩ : ∃ k : Nat, p = (k : Int) := ⟨p.toNat, by omega⟩
    have HP := Aside0.mk (show 1 ≤ pn ∧ pn ≤ 65536 by omega)
    obtain ⟨rA, hrA⟩ : ∃ r, r = rAppend n t s g := ⟨_, rfl⟩
    obtain ⟨rB, hrB⟩ : ∃ r, r = rSync 1 rA.s rA.g := ⟨_, rfl⟩
    obtain ⟨rC, hrC⟩ : ∃ r, r = rTell rB.g.fr.length pn rB.s rB.g := ⟨_, rfl⟩
    obtain ⟨rF, hrF⟩ : ∃ r, r = if rA.c ≠ 0 then rA else if rB.c ≠ 0 then rB else rC := ⟨_, rfl⟩
    have hS : Lg.commit s g n t (pn : Int) = if rF.c = 0 then { rF with g := { rF.g with pages := pn, kept := rF.g.fr.length } } else rF := by
      have e : ((rAppend n t s g).andThen (rSync 1)).andThen (fun s g => rTell g.fr.length pn s g) = rF := by
        have eB : (rA.andThen (rSync 1)) = if rA.c ≠ 0 then rA else rB := by rw [hrB]; rfl
        rw [← hrA, eB, hrF]
        unfold Run.andThen
        by_cases e1 : rA.c = 0 <;> by_cases e2 : rB.c = 0 <;> simp [e1, e2, hrC]
      unfold Lg.commit
      rw [if_neg hp]
      simp only [Int.toNat_natCast]
      rw [e]
    have HS := Aside0.mk hS
    have gokA : rA.g.ok := by rw [hrA]; exact HG.out.append s n t
    have gokB : rB.g.ok := by rw [hrB]; exact gokA
    have gokC : rC.g.ok := by rw [hrC]; exact Lg.ok.tell gokB _ _ _
    have okA : rA.s.ok (m + 1) := by rw [hrA]; exact St.ok.appended HOK.out g n t
    have okB : rB.s.ok (m + 2) := by rw [hrB]; exact okA.sync 1
    have GF := Aside0.mk (show rF.g.ok by rw [hrF]; split; exact gokA; split; exact gokB; exact gokC)
    have HRA := Aside0.mk hrA
    have HRB := Aside0.mk hrB
    have HRC := Aside0.mk hrC
    have HRF := Aside0.mk hrF
    have GA := Aside0.mk gokA
    have GB := Aside0.mk gokB
    have KA := Aside0.mk okA
    have KB := Aside0.mk okB
    clear hp hrA hrB hrC hrF hS gokA gokB gokC okA okB
    obtain ⟨bn00, bk00, -, -, -, -, -, -, hgl00, -⟩ := PL.cells HD.out
    have hgl0 := Aside0.mk hgl00
    clear hgl00
    go_enter Try.func69, Try.ntmps69
    go_upto_region 1 with (first
    | ((with_reducible refine gate_dst (N := 4) rfl ?_); refine box_event ?hg (N := 4) ?hd (cs := #[pv gl]) (t := 83) ?hr ?_; (case hd => rfl); (case hg => rfl); (case hr => first | (go_simp; done) | (go_simp; rfl)); intro g1 hg1 w1 hbox hb; have HX1 := Aside0.mk hbox; have HB1 := Aside0.mk hb; have HG1 := Aside0.mk hg1; clear hg1 hbox hb)
    | ((with_reducible refine gate_dst (N := 5) rfl ?_); refine box_event ?hg (N := 5) ?hd (cs := #[.int .i64 n]) (t := 3) ?hr ?_; (case hd => rfl); (case hg => rfl); (case hr => first | (go_simp; done) | (go_simp; rfl)); intro g2 hg2 w2 hbox hb; have HX2 := Aside0.mk hbox; have HB2 := Aside0.mk hb; have HG2 := Aside0.mk hg2; clear hg2 hbox hb)
    | ((with_reducible refine gate_dst (N := 6) rfl ?_); refine box_event ?hg (N := 6) ?hd (cs := #[.string t]) (t := 9) ?hr ?_; (case hd => rfl); (case hg => rfl); (case hr => first | (go_simp; done) | (go_simp; rfl)); intro g3 hg3 w3 hbox hb; have HX3 := Aside0.mk hbox; have HB3 := Aside0.mk hb; have HG3 := Aside0.mk hg3; clear hg3 hbox hb)
    | ((with_reducible refine gate_dst (N := 7) rfl ?_); refine box_event ?hg (N := 7) ?hd (cs := #[.int .i64 pn]) (t := 3) ?hr ?_; (case hd => rfl); (case hg => rfl); (case hr => first | (go_simp; done) | (go_simp; rfl)); intro g4 hg4 w4 hbox hb; have HX4 := Aside0.mk hbox; have HB4 := Aside0.mk hb; have HG4 := Aside0.mk hg4; clear hg4 hbox hb))
    have HBW := Aside0.mk (below_step (below_step (below_step (below_step (Below.refl _ w) HB1.out) HB2.out) HB3.out) HB4.out)
    have p7 : w4.cell? ⟨g4, 0, none⟩ = some (.int .i64 pn) := (blk_cell HX4.out 0).trans rfl
    go_upto_region 3 with (fail)
    try go_frame
    obtain ⟨O', hO'⟩ : ∃ O' : Nat → Prop, O' = fun k => O k ∧ w0.heap.size ≤ k ∧ k < w.heap.size := ⟨_, rfl⟩
    have HO := Aside0.mk hO'
    obtain ⟨arr, harr⟩ : ∃ arr : Obj, arr = .cells #[.func (.func 143) #[] #[pv g1, pv g2, pv g3], .func (.func 144) #[] #[pv g1], .func (.func 145) #[] #[pv g1, pv g4]] 95 (0, 0) := ⟨_, rfl⟩
    have HARR := Aside0.mk harr
    obtain ⟨bx, hbx⟩ : ∃ bx : List (Nat × Obj), bx = [(g1, bx1 (pv gl) 83), (g2, bx1 (.int .i64 n) 3), (g3, bx1 (.string t) 9), (g4, bx1 (.int .i64 pn) 3), (w4.heap.size, arr)] := ⟨_, rfl⟩
    have HBX := Aside0.mk hbx
    have hwb : WB w0 (w4.alloc arr) bx gd (LX w0.heap.size gl gd g) O' s := by
      have hba := below_step HBW.out ((Below.refl w4.heap.size w4).alloc (Nat.le_refl _) arr)
      refine ⟨below_step HB.out hba, ?_, ?_⟩
      · rw [HO.out]
        exact (frPL _ _ _ _ _).apart ((frPL _ _ _ _ _).narrow HD.out) (S := fun _ => False) (Kept.of_below hba _) (fun _ _ h => h)
      · have z1 : w.heap.size ≤ g1 := Nat.le_of_eq HG1.out.symm
        have z2 : w.heap.size ≤ g2 := by rw [HG2.out]; exact HB1.out.size
        have z3 : w.heap.size ≤ g3 := by rw [HG3.out]; exact Nat.le_trans HB1.out.size HB2.out.size
        have z4 : w.heap.size ≤ g4 := by rw [HG4.out]; exact Nat.le_trans HB1.out.size (Nat.le_trans HB2.out.size HB3.out.size)
        have z5 := HBW.out.size
        have no : ∀ k, w.heap.size ≤ k → ¬ O' k := fun k hk ho => by rw [HO.out] at ho; omega
        rw [HBX.out]
        intro x hx
        simp only [List.mem_cons, List.not_mem_nil, or_false] at hx
        rcases hx with rfl | rfl | rfl | rfl | rfl
        · exact ⟨blk_alloc (blk_below (blk_below (blk_below HX1.out HB2.out) HB3.out) HB4.out) _, no _ z1⟩
        · exact ⟨blk_alloc (blk_below (blk_below HX2.out HB3.out) HB4.out) _, no _ z2⟩
        · exact ⟨blk_alloc (blk_below HX3.out HB4.out) _, no _ z3⟩
        · exact ⟨blk_alloc HX4.out _, no _ z4⟩
        · exact ⟨blk_new _ _, no _ z5⟩
    have hl : ∀ g', Lk w0.heap.size gd gl (LX w0.heap.size gl gd g') := fun g' => lkLX w0.heap.size gd gl g'
    have hcall : Calls Try.prog 142 #[.slice (some ⟨w4.heap.size, 0, none⟩) 3 3] (w4.alloc arr) fun e w' => e = .returned (.int .i64 rF.c) ∧ Ran w0 (w4.alloc arr) bx gd (LX w0.heap.size gl gd rF.g) O' rF.s w' := by
      have m1 : (w4.heap.size, arr) ∈ bx := by rw [HBX.out]; simp
      have hs := (hwb.bx _ m1).1
      rw [HARR.out] at hs
      have hm := HM.out
      refine (done_143_144_145 w4.heap.size _ _ _ rA.c rB.c rC.c (Ran w0 (w4.alloc arr) bx gd (LX w0.heap.size gl gd rA.g) O' rA.s) (Ran w0 (w4.alloc arr) bx gd (LX w0.heap.size gl gd rB.g) O' rB.s) (Ran w0 (w4.alloc arr) bx gd (LX w0.heap.size gl gd rC.g) O' rC.s) (w4.alloc arr) (by rw [HARR.out]; exact hs) ?_ ?_ ?_).mono ?_
      · refine (append143.calls g1 g2 g3 gd gl n t bx O' s g m w0 (w4.alloc arr) hwb HOK.out (by omega) HG.out HN.out (by rw [HBX.out]; simp) (by rw [HBX.out]; simp) (by rw [HBX.out]; simp)).mono ?_
        rintro e w' ⟨rfl, hr⟩
        rw [← HRA.out] at hr ⊢
        exact ⟨rfl, hr, Ran.keeps hwb hr m1⟩
      · intro _ w1' hp1 _
        have hc := sync144.calls g1 gd gl bx _ _ rA.s (m + 1) w0 w1' hp1.1 (hl _) KA.out (by omega) (by rw [HBX.out]; simp)
        refine hc.mono ?_
        rintro e w' ⟨rfl, hr⟩
        have e1 : (rA.s.sync 1).1 = rB.c := by rw [HRB.out]; rfl
        have e2 : (rA.s.sync 1).2 = rB.s := by rw [HRB.out]; rfl
        have e3 : rA.g = rB.g := by rw [HRB.out]; rfl
        rw [e2, e3] at hr
        rw [e1]
        exact ⟨rfl, Ran.next hwb hp1 (hl _) hr, Ran.keeps hp1.1 hr m1⟩
      · intro _ _ w1' hp1 _
        refine (tell145.calls g1 g4 gd gl pn bx _ rB.s rB.g (m + 2) w0 w1' hp1.1 KB.out (by omega) GB.out HP.out.2 (by rw [HBX.out]; simp) (by rw [HBX.out]; simp)).mono ?_
        rintro e w' ⟨rfl, hr⟩
        rw [← HRC.out] at hr ⊢
        exact ⟨rfl, Ran.next hwb hp1 (hl _) hr, Ran.keeps hp1.1 hr m1⟩
      · rintro e w' ⟨rfl, hr⟩
        by_cases e1 : rA.c = 0
        · rw [if_neg (fun h => h e1)] at hr
          by_cases e2 : rB.c = 0
          · rw [if_neg (fun h => h e2)] at hr
            have hF : rF = rC := by rw [HRF.out, if_neg (fun h => h e1), if_neg (fun h => h e2)]
            rw [if_neg (fun h => h e1), if_neg (fun h => h e2), hF]
            exact ⟨rfl, hr⟩
          · rw [if_pos e2] at hr
            have hF : rF = rB := by rw [HRF.out, if_neg (fun h => h e1), if_pos e2]
            rw [if_neg (fun h => h e1), if_pos e2, hF]
            exact ⟨rfl, hr⟩
        · rw [if_pos e1] at hr
          have hF : rF = rA := by rw [HRF.out, if_pos e1]
          rw [if_pos e1, hF]
          exact ⟨rfl, hr⟩
    have HCALL := Aside0.mk hcall
    have hsz : w.heap.size ≤ (w4.alloc arr).heap.size := (below_step HBW.out ((Below.refl w4.heap.size w4).alloc (Nat.le_refl _) arr)).size
    have HWA := Aside0.mk (below_step HBW.out ((Below.refl w4.heap.size w4).alloc (Nat.le_refl _) arr))
    rw [HARR.out] at HCALL
    clear harr hbx hO' hcall hwb hl hsz p7
    have hmf : ∀ (fn : Fn) (first cap : Array Value) (w : World), (Instr.makeFunc fn first cap).run Try.prog w = .ok (.func fn first cap) w := fun _ _ _ _ => rfl
    go_upto_region 4 with (go_at_call 142; (with_reducible refine HCALL.out.mono ?_); rintro e w5 ⟨rfl, hr⟩; rw [← HARR.out] at hr; have HR := Aside0.mk hr; clear hr)
    have hend : PL w5 w0.heap.size gd gl (fun k => O k ∨ w.heap.size ≤ k) rF.s rF.g ∧ Below w0.heap.size w0 w5 ∧ Kept w w5 O := by
      refine ⟨(frPL _ _ _ _ _).mono HR.out.1.hD (fun k hk => ?_), HR.out.1.hB, ((Kept.of_below HWA.out O).then_ HR.out.2 (fun k hk => by rw [HO.out] at hk; exact .inl hk.1))⟩
      rcases hk with hk | hk
      · rw [HO.out] at hk; exact .inl hk.1
      · exact .inr (Nat.le_trans HWA.out.size hk)
    have HEND := Aside0.mk hend
    clear hend
    by_cases hc : rF.c = 0
    · have HS0 := Aside0.mk (HS.out.trans (if_pos hc))
      have q_ : (rF.c == 0) = true := by rw [hc]; rfl
      clear hc
      obtain ⟨bn, bk, hx, hmn, hmk, hn5, hk5, hne, hgl, hbn, hbk, hb1, hb2, hb3⟩ := PL.cells HEND.out.1
      have HX := Aside0.mk hx
      have HMN := Aside0.mk hmn
      have HMN5 := Aside0.mk hmn
      have HF5 := Aside0.mk (And.intro hn5 (And.intro hk5 (And.intro hne (And.intro hgl (And.intro hbn (And.intro hbk (And.intro hb1 (And.intro hb2 hb3))))))))
      have m1 : (g1, bx1 (pv gl) 83) ∈ bx := by rw [HBX.out]; simp
      have m4 : (g4, bx1 (.int .i64 pn) 3) ∈ bx := by rw [HBX.out]; simp
      have b1 := (HR.out.1.bx _ m1).1
      have b4 := (HR.out.1.bx _ m4).1
      have n1 : g1 ≠ gl := fun e => by rw [e] at b1; rw [b1] at hx; cases hx
      have BX1 := Aside0.mk b1
      have N1 := Aside0.mk n1
      have p0 : w5.cell? ⟨g1, 0, none⟩ = some (pv gl) := (blk_cell b1 0).trans rfl
      have p4 : w5.cell? ⟨g4, 0, none⟩ = some (.int .i64 pn) := (blk_cell b4 0).trans rfl
      have p2 : ∃ v, w5.cell? ⟨gl, 2, none⟩ = some v := ⟨_, (blk_cell hx 2).trans rfl⟩
      obtain ⟨x2, p2⟩ := p2
      have z2 := blk_frozen hx 2
      clear hx hmn hmk hn5 hk5 hne hgl hbn hbk hb1 hb2 hb3 m1 m4 b1 b4 n1
      go_upto_region 6 with (fail)
      have HX6 := Aside0.mk (show (w5.setCell ⟨gl, 2, none⟩ (.int .i64 pn)).heap[gl]? = some (.cells (lcells gd rF.g.fr.length pn bn rF.g.kept rF.g.pages bk rF.g.slot rF.g.number) 167 (0, 0)) from blk_put HX.out 2 _ rfl)
      have HM6 := Aside0.mk (HMN.out.kept (w' := w5.setCell ⟨gl, 2, none⟩ (.int .i64 pn)) (Below.heap_setCell w5 ⟨gl, 2, none⟩ _ _ HF5.out.1))
      have BX6 := Aside0.mk (blk_far BX1.out (p := ⟨gl, 2, none⟩) N1.out (.int .i64 pn))
      have HK6 := Aside0.mk (set_kept (w := w5) (g := gl) (j := 2) (v := .int .i64 pn))
      have HB6 := Aside0.mk (HEND.out.2.1.setCell (p := ⟨gl, 2, none⟩) HF5.out.2.2.2.2.2.2.1 (.int .i64 pn))
      clear p0 p4 p2 z2 BX1 HMN
      generalize w5.setCell ⟨gl, 2, none⟩ (.int .i64 pn) = w6 at HX6 HM6 BX6 HK6 HB6 ⊢
      have p0 : w6.cell? ⟨g1, 0, none⟩ = some (pv gl) := (blk_cell BX6.out 0).trans rfl
      have p1 : w6.cell? ⟨gl, 1, none⟩ = some (.int .i64 rF.g.fr.length) := (blk_cell HX6.out 1).trans rfl
      have p2 : w6.cell? ⟨gl, 2, none⟩ = some (.int .i64 pn) := (blk_cell HX6.out 2).trans rfl
      have p3 : w6.cell? ⟨gl, 3, none⟩ = some (.map (some bn)) := (blk_cell HX6.out 3).trans rfl
      have hc := copied.calls bn rF.g.fr.length (idx rF.g.fr) rF.g.fr.length pn w6.drew (HM6.out.kept rfl) (by have := GF.out.n; omega)
      unfold pcells at hc
      have HC := Aside0.mk hc
      clear hc
      go_region_law (first
        | (refine goes_ Try.func140 (by kernel_rfl) rfl #[.agg #[.int .i64 rF.g.fr.length, .int .i64 pn, .map (some bn)]] (by rfl) rfl rfl (by (try simp only [List.map_toArray, List.map_cons, List.map_nil]); first | done | rfl) ?_; (with_reducible refine HC.out.mono ?_); rintro e w7 ⟨b', rfl, hb7, hm7, hw7⟩; refine ⟨_, rfl, ?_⟩; have HB7 := Aside0.mk hb7; have HM7 := Aside0.mk hm7; have HW7 := Aside0.mk (below_step (below_drew (Below.refl _ w6)) hw7); have BX7 := Aside0.mk (blk_below BX6.out HW7.out); have HX7 := Aside0.mk (blk_below HX6.out HW7.out); have p70 : w7.cell? ⟨g1, 0, none⟩ = some (pv gl) := (blk_cell BX7.out 0).trans rfl; have y4 : ∃ v, w7.cell? ⟨gl, 4, none⟩ = some v := ⟨_, (blk_cell HX7.out 4).trans rfl⟩; have y5 : ∃ v, w7.cell? ⟨gl, 5, none⟩ = some v := ⟨_, (blk_cell HX7.out 5).trans rfl⟩; have y6 : ∃ v, w7.cell? ⟨gl, 6, none⟩ = some v := ⟨_, (blk_cell HX7.out 6).trans rfl⟩; obtain ⟨x4, y4⟩ := y4; obtain ⟨x5, y5⟩ := y5; obtain ⟨x6, y6⟩ := y6; have z4 := blk_frozen HX7.out 4; have z5 := blk_frozen HX7.out 5; have z6 := blk_frozen HX7.out 6; clear hb7 hm7 hw7))
      all_goals
        try go_frame
        go_wp2_with (fail)
        go_ret
        rw [HS0.out]
        refine ⟨rfl, ?_⟩
        obtain ⟨hn5, hk5, hne, hgl, hbn, hbk, hb1, hb2, hb3⟩ := HF5.out
        have hk3 := set3_kept w7 gl 4 5 6 (.int .i64 rF.g.fr.length) (.int .i64 pn) (.map (some b'))
        have hk8 : Kept w5 (((w7.setCell ⟨gl, 4, none⟩ (.int .i64 rF.g.fr.length)).setCell ⟨gl, 5, none⟩ (.int .i64 pn)).setCell ⟨gl, 6, none⟩ (.map (some b'))) (fun j => j = gl) :=
          (HK6.out.then_ (Kept.of_below HW7.out (fun j => j = gl)) (fun j hj => .inl hj)).then_ hk3 (fun j hj => .inl hj)
        have hs6 := HK6.out.1
        have hbn5 : w5.heap.size ≤ b' := Nat.le_trans hs6 HB7.out
        have hln := HMN5.out.lt
        refine ⟨(frPL _ _ _ _ _).mono (PL.redo (w := w5) (g' := { rF.g with pages := pn, kept := rF.g.fr.length }) HEND.out.1 hk8 HX.out (bn' := bn) (bk' := b') ?_ ?_ ?_ (by omega) (.inl rfl) (.inr (.inr hbn5))) (fun k hk => hk.elim id (fun h => .inr (Nat.le_trans HEND.out.2.2.1 h))), ?_, ?_⟩
        · exact blk_put (blk_put (blk_put HX7.out 4 (.int .i64 rF.g.fr.length) rfl) 5 (.int .i64 pn) rfl) 6 (.map (some b')) rfl
        · exact HMN5.out.kept (hk8.2 bn hln hn5)
        · rw [show rF.g.fr.take rF.g.fr.length = rF.g.fr from List.take_length]
          exact HM7.out.kept (hk3.2 b' HM7.out.lt (HM7.out.ne HX7.out))
        · exact (((below_step HB6.out HW7.out).setCell (p := ⟨gl, 4, none⟩) hb1 _).setCell (p := ⟨gl, 5, none⟩) hb1 _).setCell (p := ⟨gl, 6, none⟩) hb1 _
        · exact HEND.out.2.2.then_ hk8 (fun j hj => .inl (by rw [hj]; exact hgl0.out))
    · have q_ : (rF.c == 0) = false := beq_false hc
      have HS0 := Aside0.mk (HS.out.trans (if_neg hc))
      clear hc
      go_wp2_with (fail)
      go_ret
      rw [HS0.out]
      exact ⟨rfl, HEND.out⟩
end Go.Proofs.Ythaoaaboempajaa.Log
namespace Go.Proofs.Ythaoaaboempajaa.Log
open Go.RowKit Go.Maps Go.Proofs.Ythaoaaboempajaa.QLogRuns Go.Proofs.Ythaoaaboempajaa.QDiskRuns Go.Proofs.Ythaoaaboempajaa.Disk Go.Proofs.YthaoaaboempajaaW.PrintWords Go.Proofs.YthaoaaboempajaaW.PrintLast Go.Proofs.YthaoaaboempajaaW.PrintMore Go.Proofs.YthaoaaboempajaaX
set_option linter.unusedVariables false
set_option linter.unusedSimpArgs false
theorem drawn0_then {w w1 w2 : World} (h : Drawn0 w w1) (h2 : Drawn0 w1 w2) : Drawn0 w w2 := by
  obtain ⟨m, e⟩ := h2.out
  rw [e]
  exact h.step m
def Lg.read (s : St) (g : Lg) (n : Int) : ByteArray × Int :=
  if n < 0 ∨ n ≥ 2147483648 then (ByteArray.empty, 1)
  else if idx g.fr n > 0 then s.read 1 (64 + (idx g.fr n - 1) * 1028 + 4) 1024
  else if (s.size 0).2 ≠ 0 then (ByteArray.empty, (s.size 0).2)
  else if n ≥ (s.size 0).1 / 1024 then (ByteArray.empty, 7)
  else s.read 0 (n * 1024) 1024
set_option maxHeartbeats 4000000 in
theorem pages.calls (gd gl : Nat) (O : Nat → Prop) (s : St) (g : Lg) (w0 w : World) (hD : PL w w0.heap.size gd gl O s g) :
    Calls Try.prog 86 #[pv gl] w fun e w' => e = .returned (.int .i64 g.pages) ∧ w' = w := by
  obtain ⟨bn, bk, hx, -⟩ := PL.cells hD
  have p5 : w.cell? ⟨gl, 5, none⟩ = some (.int .i64 g.pages) := (blk_cell hx 5).trans rfl
  clear hD hx
  go_enter Try.func86, Try.ntmps86
  go_wp2_with (fail)
  go_ret
  exact ⟨rfl, rfl⟩
set_option maxHeartbeats 4000000 in
theorem frames.calls (gd gl : Nat) (O : Nat → Prop) (s : St) (g : Lg) (w0 w : World) (hD : PL w w0.heap.size gd gl O s g) :
    Calls Try.prog 88 #[pv gl] w fun e w' => e = .returned (.int .i64 g.fr.length) ∧ w' = w := by
  obtain ⟨bn, bk, hx, -⟩ := PL.cells hD
  have p5 : w.cell? ⟨gl, 1, none⟩ = some (.int .i64 g.fr.length) := (blk_cell hx 1).trans rfl
  clear hD hx
  go_enter Try.func88, Try.ntmps88
  go_wp2_with (fail)
  go_ret
  exact ⟨rfl, rfl⟩
set_option maxHeartbeats 8000000 in
set_option maxRecDepth 100000 in
theorem lread.calls (gd gl : Nat) (O : Nat → Prop) (s : St) (g : Lg) (m : Nat) (n : Int) (w0 w : World) (hD : PL w w0.heap.size gd gl O s g) (hok : s.ok m) (hg : g.ok) (hn : -9223372036854775808 ≤ n ∧ n < 9223372036854775808) :
    Calls Try.prog 77 #[pv gl, .int .i64 n] w fun e w' => e = .returned (.tuple #[.string (Lg.read s g n).1, .int .i64 (Lg.read s g n).2]) ∧ Drawn0 w w' := by
  have HD := Aside0.mk hD
  have HN := Aside0.mk hn
  have HG := Aside0.mk hg
  by_cases hbad : n < 0 ∨ n ≥ 2147483648
  · have HS := Aside0.mk (show Lg.read s g n = (ByteArray.empty, 1) by unfold Lg.read; rw [if_pos hbad])
    by_cases h1 : n < 0
    · have q1 : decide (n < 0) = true := decide_eq_true h1
      clear h1 hbad hn hD hok hg
      go_enter Try.func77, Try.ntmps77
      go_wp2_with (fail)
      go_ret2
      rw [HS.out]
      exact ⟨rfl, Drawn0.refl _⟩
    · have q1 : decide (n < 0) = false := decide_eq_false h1
      have q2 : decide (n ≥ 2147483648) = true := decide_eq_true (by omega)
      have q2' : decide (2147483648 ≤ n) = true := decide_eq_true (by omega)
      clear h1 hbad hn hD hok hg
      go_enter Try.func77, Try.ntmps77
      go_wp2_with (fail)
      go_ret2
      rw [HS.out]
      exact ⟨rfl, Drawn0.refl _⟩
  · have q1 : decide (n < 0) = false := decide_eq_false (by omega)
    have q2 : decide (n ≥ 2147483648) = false := decide_eq_false (by omega)
    have q2' : decide (2147483648 ≤ n) = false := decide_eq_false (by omega)
    obtain ⟨bn, bk, hx, hmn, -⟩ := PL.cells hD
    have HX := Aside0.mk hx
    have p0 : w.cell? ⟨gl, 0, none⟩ = some (pv gd) := (blk_cell hx 0).trans rfl
    have p3 : w.cell? ⟨gl, 3, none⟩ = some (.map (some bn)) := (blk_cell hx 3).trans rfl
    have hlook := hmn.look (wf_int hn)
    obtain ⟨hi1, hi2⟩ := idx_le g.fr n
    have hlen := hg.n
    obtain ⟨O1, O2, hd, -⟩ := id hD
    have HDD := Aside0.mk hd
    by_cases hi : idx g.fr n > 0
    · have HS := Aside0.mk (show Lg.read s g n = s.read 1 (64 + (idx g.fr n - 1) * 1028 + 4) 1024 by unfold Lg.read; rw [if_neg hbad, if_pos hi])
      generalize idx g.fr n = ix at hi1 hi2 hi HS hlook
      have qi : decide (ix > 0) = true := decide_eq_true hi
      have qi' : decide (0 < ix) = true := decide_eq_true hi
      have v1 : IntKind.i64.wrap (ix - 1) = ix - 1 := IntWalk.i64_in _ (by omega)
      have v2 : IntKind.i64.wrap ((ix - 1) * 1028) = (ix - 1) * 1028 := IntWalk.i64_in _ (by omega)
      have v3 : IntKind.i64.wrap (64 + (ix - 1) * 1028) = 64 + (ix - 1) * 1028 := IntWalk.i64_in _ (by omega)
      have v4 : IntKind.i64.wrap (64 + (ix - 1) * 1028 + 4) = 64 + (ix - 1) * 1028 + 4 := IntWalk.i64_in _ (by omega)
      have HC := Aside0.mk (read.calls gd O1 s 1 (64 + (ix - 1) * 1028 + 4) 1024 w0 w hd)
      clear hbad hn hD hok hg hx hmn hi hd
      go_enter Try.func77, Try.ntmps77
      go_wp2_with (go_at_call 123; (with_reducible refine HC.out.mono ?_); rintro e w1 ⟨rfl, h1⟩; have H1 := Aside0.mk h1; clear h1)
      go_ret2
      rw [HS.out]
      exact ⟨rfl, H1.out⟩
    · have hi0 : idx g.fr n = 0 := by omega
      rw [hi0] at hlook
      have HC := Aside0.mk (size.calls gd O1 s 0 w0 w hd)
      have HS := Aside0.mk (show Lg.read s g n = if (s.size 0).2 ≠ 0 then (ByteArray.empty, (s.size 0).2) else if n ≥ (s.size 0).1 / 1024 then (ByteArray.empty, 7) else s.read 0 (n * 1024) 1024 by unfold Lg.read; rw [if_neg hbad, if_neg hi])
      have hz : 0 ≤ (s.size 0).1 ∧ (s.size 0).1 ≤ 67108864 := by
        unfold St.size
        split
        · split
          · exact ⟨by decide, by decide⟩
          · have := seenOf_size hok 0
            unfold maxFile at this
            simp only
            omega
        · exact ⟨by decide, by decide⟩
      generalize s.size 0 = z at HC HS hz
      obtain ⟨z1, z2⟩ := z
      simp only at HC HS hz
      have v1 : IntKind.i64.wrap (n * 1024) = n * 1024 := IntWalk.i64_in _ (by omega)
      have t1 : z1.tdiv 1024 = z1 / 1024 := Int.tdiv_eq_ediv_of_nonneg hz.1
      have v2 : IntKind.i64.wrap (z1 / 1024) = z1 / 1024 := IntWalk.i64_in _ (by omega)
      by_cases hz2 : z2 = 0
      · subst hz2
        have hS := HS.out
        rw [if_neg (fun h => h rfl)] at hS
        by_cases hm : n ≥ z1 / 1024
        · rw [if_pos hm] at hS
          have HS := Aside0.mk hS
          have d1 : decide (n ≥ z1 / 1024) = true := decide_eq_true hm
          have d2 : decide (z1 / 1024 ≤ n) = true := decide_eq_true hm
          clear hbad hn hD hok hg hx hmn hi hd hS hm hi0
          go_enter Try.func77, Try.ntmps77
          go_wp2_with (go_at_call 129; (with_reducible refine HC.out.mono ?_); rintro e w1 ⟨rfl, h1⟩; have H1 := Aside0.mk h1; clear h1)
          go_ret2
          rw [HS.out]
          exact ⟨rfl, H1.out⟩
        · rw [if_neg hm] at hS
          have HS := Aside0.mk hS
          have d1 : decide (n ≥ z1 / 1024) = false := decide_eq_false hm
          have d2 : decide (z1 / 1024 ≤ n) = false := decide_eq_false hm
          clear hbad hn hD hok hg hx hmn hi hd hS hm hi0
          go_enter Try.func77, Try.ntmps77
          go_wp2_with (first
            | (go_at_call 129; (with_reducible refine HC.out.mono ?_); rintro e w1 ⟨rfl, h1⟩; have H1 := Aside0.mk h1; have p01 : w1.cell? ⟨gl, 0, none⟩ = some (pv gd) := (blk_cell (blk_below HX.out h1.below) 0).trans rfl; have HC2 := Aside0.mk (read.calls gd O1 s 0 (n * 1024) 1024 w0 w1 (drawn_keep h1 HDD.out)); clear h1)
            | (go_at_call 123; (with_reducible refine HC2.out.mono ?_); rintro e w2 ⟨rfl, h2⟩; have H2 := Aside0.mk (drawn0_then H1.out h2); clear h2))
          go_ret2
          rw [HS.out]
          exact ⟨rfl, H2.out⟩
      · have qz : (z2 != 0) = true := by simp [bne, beq_false hz2]
        have hS := HS.out
        rw [if_pos hz2] at hS
        have HS := Aside0.mk hS
        clear hbad hn hD hok hg hx hmn hi hd hS hi0
        go_enter Try.func77, Try.ntmps77
        go_wp2_with (go_at_call 129; (with_reducible refine HC.out.mono ?_); rintro e w1 ⟨rfl, h1⟩; have H1 := Aside0.mk h1; clear h1)
        go_ret2
        rw [HS.out]
        exact ⟨rfl, H1.out⟩
end Go.Proofs.Ythaoaaboempajaa.Log
namespace Go.Proofs.Ythaoaaboempajaa.Log
open Go.RowKit Go.Maps Go.Proofs.Ythaoaaboempajaa.QLogRuns Go.Proofs.Ythaoaaboempajaa.QDiskRuns Go.Proofs.Ythaoaaboempajaa.Disk Go.Proofs.YthaoaaboempajaaW.PrintWords Go.Proofs.YthaoaaboempajaaW.PrintLast Go.Proofs.YthaoaaboempajaaW.PrintMore Go.Proofs.YthaoaaboempajaaX
set_option linter.unusedVariables false
set_option linter.unusedSimpArgs false
def hits (fr : List (Nat × ByteArray)) : Nat → Nat
  | 0 => 0
  | k + 1 => hits fr k + (if idx fr (k : Int) = 0 then 0 else 1)
def move1 (g : Lg) (n : Nat) (s : St) : Int × St :=
  if idx g.fr n = 0 then (0, s) else
  if (Lg.read s g n).2 ≠ 0 then ((Lg.read s g n).2, s) else s.write 0 ((n : Int) * 1024) (Lg.read s g n).1
def moveN (g : Lg) : Nat → St → Int × St
  | 0, s => (0, s)
  | k + 1, s => if (moveN g k s).1 ≠ 0 then moveN g k s else move1 g k (moveN g k s).2
theorem moveN_succ {g : Lg} {k : Nat} {s : St} (h : (moveN g k s).1 = 0) : moveN g (k + 1) s = move1 g k (moveN g k s).2 := by
  rw [moveN, if_neg (fun e => e h)]
theorem moveN_stop {g : Lg} {j : Nat} {s : St} (h : (moveN g j s).1 ≠ 0) : ∀ d, moveN g (j + d) s = moveN g j s
  | 0 => rfl
  | d + 1 => by
    have ih := moveN_stop h d
    rw [show j + (d + 1) = (j + d) + 1 by omega, moveN, ih, if_pos h]
theorem moveN_stop_le {g : Lg} {j K : Nat} {s : St} (h : (moveN g j s).1 ≠ 0) (hk : j ≤ K) : moveN g K s = moveN g j s := by
  have := moveN_stop h (K - j)
  rwa [show j + (K - j) = K by omega] at this
theorem hits_snoc (fr : List (Nat × ByteArray)) (c : Nat × ByteArray) : ∀ k, hits (fr ++ [c]) k ≤ hits fr k + (if c.1 < k then 1 else 0)
  | 0 => by simp [hits]
  | k + 1 => by
    have ih := hits_snoc fr c k
    unfold hits
    rw [idx_snoc]
    by_cases e : (c.1 : Int) = (k : Int)
    · have e1 : c.1 = k := by omega
      rw [if_neg (show ¬ c.1 < k by omega)] at ih
      rw [if_pos (show c.1 < k + 1 by omega)]
      split <;> split <;> omega
    · rw [if_neg e]
      by_cases e2 : c.1 < k
      · rw [if_pos e2] at ih
        rw [if_pos (show c.1 < k + 1 by omega)]
        omega
      · rw [if_neg e2] at ih
        rw [if_neg (show ¬ c.1 < k + 1 by omega)]
        omega
theorem hits_nil : ∀ k, hits [] k = 0
  | 0 => rfl
  | k + 1 => by unfold hits; rw [hits_nil k, idx_nil, if_pos rfl]
theorem hits_rev (k : Nat) : ∀ l : List (Nat × ByteArray), hits l.reverse k ≤ l.length
  | [] => by rw [List.reverse_nil, hits_nil]; exact Nat.zero_le _
  | c :: l => by
    have ih := hits_rev k l
    have h := hits_snoc l.reverse c k
    rw [List.reverse_cons, List.length_cons]
    split at h <;> omega
theorem hits_le (fr : List (Nat × ByteArray)) (k : Nat) : hits fr k ≤ fr.length := by
  have h := hits_rev k fr.reverse
  rwa [List.reverse_reverse, List.length_reverse] at h
theorem move1_ok {s : St} {m : Nat} (h : s.ok m) (g : Lg) (n : Nat) : (move1 g n s).2.ok (m + (if idx g.fr (n : Int) = 0 then 0 else 1)) := by
  unfold move1
  split
  · exact h.mono (by omega)
  · split
    · exact h.mono (by omega)
    · exact h.write _ _ _
theorem moveN_ok {s : St} {m : Nat} (h : s.ok m) (g : Lg) : ∀ k, (moveN g k s).2.ok (m + hits g.fr k)
  | 0 => h
  | k + 1 => by
    have ih := moveN_ok h g k
    rw [moveN]
    unfold hits
    split
    · exact ih.mono (by omega)
    · exact (move1_ok ih g k).mono (by omega)
def Lg.checkpoint (s : St) (g : Lg) : Run :=
  if g.fr.length ≠ g.kept then ⟨11, s, g⟩
  else if g.fr.length = 0 then ⟨0, s, g⟩
  else if (moveN g g.pages s).1 ≠ 0 then ⟨(moveN g g.pages s).1, (moveN g g.pages s).2, g⟩
  else
    let r := ((rCut 0 ((g.pages : Int) * 1024) (moveN g g.pages s).2 g).andThen (rSync 0)).andThen (rTell 0 g.pages)
    if r.c = 0 then { r with g := { r.g with fr := [], kept := 0 } } else r
set_option maxHeartbeats 4000000 in
set_option maxRecDepth 100000 in
theorem cut147.calls (bl gd gl : Nat) (bx : List (Nat × Obj)) (O : Nat → Prop) (s : St) (g : Lg) (m : Nat) (w0 w : World) (h : WB w0 w bx gd (LX w0.heap.size gl gd g) O s) (hok : s.ok m) (hm : m ≤ 900000000) (hg : g.ok) (hb : (bl, bx1 (pv gl) 83) ∈ bx) :
    Calls Try.prog 147 #[pv bl] w fun e w' => e = .returned (.int .i64 (s.cutTo 0 ((g.pages : Int) * 1024)).1) ∧ Ran w0 w bx gd (LX w0.heap.size gl gd g) O (s.cutTo 0 ((g.pages : Int) * 1024)).2 w' := by
  have hl := lkLX w0.heap.size gd gl g
  have hd := h.drew hl
  have HC := Aside0.mk (hd.onD hl (fun O1 h1 => cut.calls gd O1 s 0 ((g.pages : Int) * 1024) m w0 w.drew hd.hB h1 hok (Nat.le_trans hm (by decide))))
  have hp := hg.pages
  have v1 : IntKind.i64.wrap ((g.pages : Int) * 1024) = (g.pages : Int) * 1024 := IntWalk.i64_in _ (by omega)
  have p0 : w.cell? ⟨bl, 0, none⟩ = some (pv gl) := (h.box _ _ _ hb 0).trans rfl
  have p1 := h.disk hl
  have p2 := (WB.cells h).2
  have hh : ∀ {w1 : World} {O1 : Nat → Prop} {s1 : St}, WB w0 w1 bx gd (LX w0.heap.size gl gd g) O1 s1 → w1.cell? ⟨bl, 0, none⟩ = some (pv gl) ∧ w1.cell? ⟨gl, 0, none⟩ = some (pv gd) ∧ w1.cell? ⟨gl, 2, none⟩ = some (.int .i64 g.pages) :=
    fun h1 => ⟨(h1.box _ _ _ hb 0).trans rfl, h1.disk hl, (WB.cells h1).2⟩
  have HH := Aside0.mk @hh
  clear hh hb h hl hok hm hd hg hp
  go_enter Try.func147, Try.ntmps147
  go_upto_region 1 with (fail)
  go_region_held3 (fun w' => w'.cell? ⟨bl, 0, none⟩ = some (pv gl) ∧ w'.cell? ⟨gl, 0, none⟩ = some (pv gd) ∧ w'.cell? ⟨gl, 2, none⟩ = some (.int .i64 g.pages)) (first | exact HH.out H2.out.1 | exact ⟨p0, p1, p2⟩)
    (first
    | (go_at_call 127; (with_reducible refine HC.out.mono ?_); rintro e w3 ⟨rfl, hb⟩; have H2 := Aside0.mk hb; clear hb))
  go_wp2_with (fail)
  go_ret
  exact ⟨rfl, H2.out⟩
set_option maxHeartbeats 4000000 in
set_option maxRecDepth 100000 in
theorem tell149.calls (bl gd gl : Nat) (bx : List (Nat × Obj)) (O : Nat → Prop) (s : St) (g : Lg) (m : Nat) (w0 w : World) (h : WB w0 w bx gd (LX w0.heap.size gl gd g) O s) (hok : s.ok m) (hm : m ≤ 800000000) (hg : g.ok)
    (hb : (bl, bx1 (pv gl) 83) ∈ bx) :
    Calls Try.prog 149 #[pv bl] w fun e w' => e = .returned (.int .i64 (rTell 0 g.pages s g).c) ∧ Ran w0 w bx gd (LX w0.heap.size gl gd (rTell 0 g.pages s g).g) O (rTell 0 g.pages s g).s w' := by
  have hl := lkLX w0.heap.size gd gl g
  have hd := h.drew hl
  have hc : Calls Try.prog 146 #[pv gl, .int .i64 0, .int .i64 g.pages] w.drew _ := hd.onL (tell.calls gd gl O s g m 0 g.pages w0 w.drew hd.hB hd.hD hok (by omega) hg (by omega) hg.pages)
  have HC := Aside0.mk hc
  clear hc
  have p0 : w.cell? ⟨bl, 0, none⟩ = some (pv gl) := (h.box _ _ _ hb 0).trans rfl
  have p2 := (WB.cells h).2
  have hh : ∀ {w1 : World} {O1 : Nat → Prop} {s1 : St}, WB w0 w1 bx gd (LX w0.heap.size gl gd (Lg.tell s g 0 g.pages).2.2) O1 s1 → w1.cell? ⟨bl, 0, none⟩ = some (pv gl) ∧ w1.cell? ⟨gl, 2, none⟩ = some (.int .i64 g.pages) :=
    fun h1 => ⟨(h1.box _ _ _ hb 0).trans rfl, by have := (WB.cells h1).2; rw [(Lg.tell_fr s g 0 g.pages).2.2] at this; exact this⟩
  have HH := Aside0.mk @hh
  clear hh hb h hok hm hg hl hd
  go_enter Try.func149, Try.ntmps149
  go_upto_region 1 with (fail)
  go_region_held3 (fun w' => w'.cell? ⟨bl, 0, none⟩ = some (pv gl) ∧ w'.cell? ⟨gl, 2, none⟩ = some (.int .i64 g.pages)) (first | exact HH.out H2.out.1 | exact ⟨p0, p2⟩)
    (first
    | (go_at_call 146; (with_reducible refine HC.out.mono ?_); rintro e w3 ⟨rfl, hb⟩; have H2 := Aside0.mk hb; clear hb))
  go_wp2_with (fail)
  go_ret
  exact ⟨rfl, H2.out⟩
end Go.Proofs.Ythaoaaboempajaa.Log
namespace Go.Proofs.Ythaoaaboempajaa.Log
open Go.RowKit Go.Maps Go.Proofs.Ythaoaaboempajaa.QLogRuns Go.Proofs.Ythaoaaboempajaa.QDiskRuns Go.Proofs.Ythaoaaboempajaa.Disk Go.Proofs.YthaoaaboempajaaW.PrintWords Go.Proofs.YthaoaaboempajaaW.PrintLast Go.Proofs.YthaoaaboempajaaW.PrintMore Go.Proofs.YthaoaaboempajaaX
set_option linter.unusedVariables false
set_option linter.unusedSimpArgs false
theorem WB.start {w0 w w2 : World} {bx : List (Nat × Obj)} {gd gl : Nat} {g : Lg} {O : Nat → Prop} {s : St} (hB : Below w0.heap.size w0 w) (hD : PL w w0.heap.size gd gl O s g) (hb : Below w.heap.size w w2) (hbx : ∀ x ∈ bx, w2.heap[x.1]? = some x.2 ∧ w.heap.size ≤ x.1) :
    WB w0 w2 bx gd (LX w0.heap.size gl gd g) (fun k => O k ∧ w0.heap.size ≤ k ∧ k < w.heap.size) s :=
  ⟨below_step hB hb, (frPL _ _ _ _ _).apart ((frPL _ _ _ _ _).narrow hD) (S := fun _ => False) (Kept.of_below hb _) (fun _ _ h => h), fun x hx => ⟨(hbx x hx).1, fun ho => Nat.not_le.mpr ho.2.2 (hbx x hx).2⟩⟩
theorem WB.more {w0 w : World} {bx : List (Nat × Obj)} {gd gl : Nat} {L : World → (Nat → Prop) → Prop} {O : Nat → Prop} {s : St} (h : WB w0 w bx gd L O s) (hl : Lk w0.heap.size gd gl L) (o : Obj) :
    WB w0 (w.alloc o) ((w.heap.size, o) :: bx) gd L (fun k => O k ∧ w0.heap.size ≤ k ∧ k < w.heap.size) s := by
  have hb := (Below.refl w.heap.size w).alloc (Nat.le_refl _) o
  refine ⟨below_step h.hB hb, (frSep (frD _ _ _) hl.fr).apart ((frSep (frD _ _ _) hl.fr).narrow h.hD) (S := fun _ => False) (Kept.of_below hb _) (fun _ _ h => h), fun x hx => ?_⟩
  rcases List.mem_cons.mp hx with rfl | hx
  · exact ⟨blk_new _ _, fun ho => Nat.lt_irrefl _ ho.2.2⟩
  · exact ⟨blk_alloc (h.bx x hx).1 _, fun ho => (h.bx x hx).2 ho.1⟩
theorem Ran.refl {w0 w : World} {bx : List (Nat × Obj)} {gd gl : Nat} {L : World → (Nat → Prop) → Prop} {O : Nat → Prop} {s : St} (h : WB w0 w bx gd L O s) (hl : Lk w0.heap.size gd gl L) : Ran w0 w bx gd L O s w :=
  ⟨h.mono hl (fun k hk => .inl hk) (fun x hx ho => ho.elim (h.bx x hx).2 (Nat.not_le.mpr (h.lt hx))), Kept.refl _ _⟩
theorem Ran.below {w0 w w1 w2 : World} {bx : List (Nat × Obj)} {gd gl : Nat} {L : World → (Nat → Prop) → Prop} {O : Nat → Prop} {s : St} (h : Ran w0 w bx gd L O s w1) (hl : Lk w0.heap.size gd gl L) (hb : Below w1.heap.size w1 w2) : Ran w0 w bx gd L O s w2 :=
  ⟨h.1.below hl hb, h.2.then_ (Kept.of_below hb O) (fun k hk => .inl hk)⟩
theorem Ran.out {w0 w w2 w' : World} {bx : List (Nat × Obj)} {gd gl : Nat} {g' : Lg} {O : Nat → Prop} {s' : St} (hb : Below w.heap.size w w2) (h : Ran w0 w2 bx gd (LX w0.heap.size gl gd g') (fun k => O k ∧ w0.heap.size ≤ k ∧ k < w.heap.size) s' w') :
    PL w' w0.heap.size gd gl (fun k => O k ∨ w.heap.size ≤ k) s' g' ∧ Below w0.heap.size w0 w' ∧ Kept w w' O :=
  ⟨(frPL _ _ _ _ _).mono h.1.hD (fun k hk => hk.elim (fun a => .inl a.1) (fun a => .inr (Nat.le_trans hb.size a))), h.1.hB, (Kept.of_below hb O).then_ h.2 (fun k hk => .inl hk.1)⟩
set_option maxHeartbeats 8000000 in
set_option maxRecDepth 100000 in
theorem checkpoint.calls (gd gl : Nat) (O : Nat → Prop) (s : St) (g : Lg) (m : Nat) (w0 w : World) (hB : Below w0.heap.size w0 w) (hD : PL w w0.heap.size gd gl O s g) (hok : s.ok m) (hm : m ≤ 700000000) (hg : g.ok) :
    Calls Try.prog 71 #[pv gl] w fun e w' => e = .returned (.int .i64 (Lg.checkpoint s g).c) ∧
      PL w' w0.heap.size gd gl (fun k => O k ∨ w.heap.size ≤ k) (Lg.checkpoint s g).s (Lg.checkpoint s g).g ∧ Below w0.heap.size w0 w' ∧ Kept w w' O := by
  have HB := Aside0.mk hB
  have HD := Aside0.mk hD
  have HOK := Aside0.mk hok
  have HM := Aside0.mk hm
  have HG := Aside0.mk hg
  obtain ⟨bn, bk, hx, -, -, -, -, -, hgl0, -⟩ := PL.cells hD
  have HX := Aside0.mk hx
  have HGL := Aside0.mk hgl0
  clear hgl0
  have hN := hg.n
  have hK := hg.kept
  have hP := hg.pages
  clear hB hD hok hm hg hx
  have fin : ∀ (c : Int), Lg.checkpoint s g = ⟨c, s, g⟩ → ∀ w' : World, Below w.heap.size w w' → (Ending.returned (Value.int .i64 c) = .returned (.int .i64 (Lg.checkpoint s g).c) ∧ PL w' w0.heap.size gd gl (fun k => O k ∨ w.heap.size ≤ k) (Lg.checkpoint s g).s (Lg.checkpoint s g).g ∧ Below w0.heap.size w0 w' ∧ Kept w w' O) := by
    intro c hs w' hb
    rw [hs]
    exact ⟨rfl, (frPL _ _ _ _ _).mono ((frPL _ _ _ _ _).apart HD.out (S := fun _ => False) (Kept.of_below hb _) (fun _ _ h => h)) (fun k hk => .inl hk), below_step HB.out hb, Kept.of_below hb _⟩
  have FIN := Aside0.mk fin
  clear fin
  by_cases h1 : g.fr.length = g.kept
  · have n1 : ((g.fr.length : Int) != (g.kept : Int)) = false := by rw [h1]; simp [bne]
    by_cases h2 : g.fr.length = 0
    · have HS := Aside0.mk (show Lg.checkpoint s g = ⟨0, s, g⟩ by unfold Lg.checkpoint; rw [if_neg (fun h => h h1), if_pos h2])
      have n2 : ((g.fr.length : Int) == 0) = true := by rw [h2]; rfl
      go_enter Try.func71, Try.ntmps71
      go_upto_region 1 with (first
    | ((with_reducible refine gate_dst (N := 1) rfl ?_); refine box_event ?hg (N := 1) ?hd (cs := #[pv gl]) (t := 83) ?hr ?_; (case hd => rfl); (case hg => rfl); (case hr => first | (go_simp; done) | (go_simp; rfl)); intro g1 hg1 w1 hbox hb; have HX1 := Aside0.mk hbox; have HB1 := Aside0.mk hb; have HG1 := Aside0.mk hg1; clear hg1 hbox hb))
      have HXL := Aside0.mk (blk_below HX.out HB1.out)
      have p0 : w1.cell? ⟨g1, 0, none⟩ = some (pv gl) := (blk_cell HX1.out 0).trans rfl
      have p1 : w1.cell? ⟨gl, 1, none⟩ = some (.int .i64 g.fr.length) := (blk_cell HXL.out 1).trans rfl
      have p4 : w1.cell? ⟨gl, 4, none⟩ = some (.int .i64 g.kept) := (blk_cell HXL.out 4).trans rfl
      clear h1 h2
      go_quiet (fail)
      have FB := Aside0.mk (pw_below_drewN HB1.out nq)
      have p0b : (w1.drewN nq).cell? ⟨g1, 0, none⟩ = some (pv gl) := p0
      have p1b : (w1.drewN nq).cell? ⟨gl, 1, none⟩ = some (.int .i64 g.fr.length) := p1
      generalize w1.drewN nq = w2 at FB p0b p1b ⊢
      go_wp2_with (fail)
      go_ret
      exact FIN.out 0 HS.out _ FB.out
    · have n2 : ((g.fr.length : Int) == 0) = false := beq_false (by omega)
      have hS : Lg.checkpoint s g = if (moveN g g.pages s).1 ≠ 0 then ⟨(moveN g g.pages s).1, (moveN g g.pages s).2, g⟩ else
          (let r := ((rCut 0 ((g.pages : Int) * 1024) (moveN g g.pages s).2 g).andThen (rSync 0)).andThen (rTell 0 g.pages)
           if r.c = 0 then { r with g := { r.g with fr := [], kept := 0 } } else r) := by unfold Lg.checkpoint; rw [if_neg (fun h => h h1), if_neg h2]
      have HS := Aside0.mk hS
      have H12 := Aside0.mk (And.intro h1 h2)
      clear hS h1 h2
      go_enter Try.func71, Try.ntmps71
      go_upto_region 1 with (first
    | ((with_reducible refine gate_dst (N := 1) rfl ?_); refine box_event ?hg (N := 1) ?hd (cs := #[pv gl]) (t := 83) ?hr ?_; (case hd => rfl); (case hg => rfl); (case hr => first | (go_simp; done) | (go_simp; rfl)); intro g1 hg1 w1 hbox hb; have HX1 := Aside0.mk hbox; have HB1 := Aside0.mk hb; have HG1 := Aside0.mk hg1; clear hg1 hbox hb))
      have HXL := Aside0.mk (blk_below HX.out HB1.out)
      have p0 : w1.cell? ⟨g1, 0, none⟩ = some (pv gl) := (blk_cell HX1.out 0).trans rfl
      have p1 : w1.cell? ⟨gl, 1, none⟩ = some (.int .i64 g.fr.length) := (blk_cell HXL.out 1).trans rfl
      have p4 : w1.cell? ⟨gl, 4, none⟩ = some (.int .i64 g.kept) := (blk_cell HXL.out 4).trans rfl
      go_quiet (fail)
      have FB := Aside0.mk (pw_below_drewN HB1.out nq)
      have p0b : (w1.drewN nq).cell? ⟨g1, 0, none⟩ = some (pv gl) := p0
      have p1b : (w1.drewN nq).cell? ⟨gl, 1, none⟩ = some (.int .i64 g.fr.length) := p1
      have p2b : (w1.drewN nq).cell? ⟨gl, 2, none⟩ = some (.int .i64 g.pages) := (blk_cell HXL.out 2).trans rfl
      have W2 := Aside0.mk (WB.start (bx := [(g1, bx1 (pv gl) 83)]) HB.out HD.out FB.out (fun x hx => by
        rw [List.mem_singleton] at hx
        subst hx
        exact ⟨HX1.out, Nat.le_of_eq HG1.out.symm⟩))
      clear p0 p1 p4 HX1 HG1 HB1 HXL
      generalize w1.drewN nq = w2 at FB p0b p1b p2b W2 ⊢
      have HL := Aside0.mk (lkLX w0.heap.size gd gl g)
      go_wp2_with (fail)
      clear p0b p1b p2b
      obtain ⟨O', hO'⟩ : ∃ O' : Nat → Prop, O' = fun k => O k ∧ w0.heap.size ≤ k ∧ k < w.heap.size := ⟨_, rfl⟩
      have HO := Aside0.mk hO'
      rw [← hO'] at W2
      clear hO'
      go_loopw [29] (fun v29 wr => ∃ (j : Nat), j ≤ g.pages ∧ v29 = .int .i64 (j : Int) ∧ Aside0 ((moveN g j s).1 = 0) ∧ Aside0 (Ran w0 w2 [(g1, bx1 (pv gl) 83)] gd (LX w0.heap.size gl gd g) O' (moveN g j s).2 wr)) (fun v29 _ => g.pages - (intOf v29).toNat)
      case atStart => exact ⟨0, Nat.zero_le _, rfl, ⟨rfl⟩, ⟨Ran.refl W2.out HL.out⟩⟩
      case round =>
        obtain ⟨j, hj, rfl, HZ, HR⟩ := hrel
        obtain ⟨bnr, bkr, hxr, hmr, -⟩ := PL.cells HR.out.1.hD
        have HXR := Aside0.mk hxr
        have p0 : wr.cell? ⟨g1, 0, none⟩ = some (pv gl) := (HR.out.1.box g1 #[pv gl] 83 (by simp) 0).trans rfl
        by_cases hlt : j < g.pages
        · have t_ : decide ((j : Int) < (g.pages : Int)) = true := decide_eq_true (by omega)
          have t2_ : (j : Int) < (g.pages : Int) := by omega
          have HSU := Aside0.mk (moveN_succ HZ.out)
          have OKJ := Aside0.mk (moveN_ok HOK.out g j)
          have p3 : wr.cell? ⟨gl, 3, none⟩ = some (.map (some bnr)) := (blk_cell hxr 3).trans rfl
          have hjr : -9223372036854775808 ≤ (j : Int) ∧ (j : Int) < 9223372036854775808 := by omega
          have hlook := hmr.look (wf_int hjr)
          clear hxr hmr
          have HM1 : (moveN g (j + 1) s).1 ≠ 0 → moveN g g.pages s = moveN g (j + 1) s := fun h => moveN_stop_le h (by omega)
          have HSTOP := Aside0.mk HM1
          clear HM1
          have HLT := Aside0.mk hlt
          have OM := Aside0.mk (show m + hits g.fr j ≤ 1000000000 by have := HM.out; have := hits_le g.fr j; omega)
          obtain ⟨sj, hsj⟩ : ∃ sj, sj = (moveN g j s).2 := ⟨_, rfl⟩
          rw [← hsj] at HR HSU OKJ
          have HSJ := Aside0.mk hsj
          clear hsj
          by_cases hi : idx g.fr (j : Int) = 0
          · have HM0 := Aside0.mk (HSU.out.trans (show move1 g j sj = (0, sj) by unfold move1; rw [if_pos hi]))
            rw [hi] at hlook
            clear hi
            go_wp2_with (fail)
            go_roundw
            case rel => exact ⟨j + 1, by have := HLT.out; omega, by go_num, ⟨by rw [HM0.out]⟩, ⟨by rw [HM0.out]; exact HR.out⟩⟩
            case measure => simp [intOf]; omega
          · have qi : (idx g.fr (j : Int) == 0) = false := beq_false hi
            have HC := Aside0.mk (lread.calls gd gl _ sj g _ (j : Int) w0 wr HR.out.1.hD OKJ.out HG.out hjr)
            obtain ⟨rd, hrd⟩ : ∃ r, r = Lg.read sj g (j : Int) := ⟨_, rfl⟩
            rw [← hrd] at HC
            obtain ⟨rt, re⟩ := rd
            by_cases he : re = 0
            · subst he
              have HWR := Aside0.mk (show ∃ r, r = sj.write 0 ((j : Int) * 1024) rt from ⟨_, rfl⟩)
              obtain ⟨⟨wc_, sw⟩, hwr⟩ := HWR.out
              have HMV := Aside0.mk (HSU.out.trans (show move1 g j sj = (wc_, sw) by
                unfold move1
                rw [if_neg hi, ← hrd]
                simp only [ne_eq, not_true_eq_false, if_false]
                exact hwr.symm))
              have HWE := Aside0.mk hwr
              have v1 : IntKind.i64.wrap ((j : Int) * 1024) = (j : Int) * 1024 := IntWalk.i64_in _ (by omega)
              have q0_ : ((0 : Int) == 0) = true := rfl
              clear hi hrd hwr HWR
              by_cases hw : wc_ = 0
              · subst hw
                go_wp2_with (first
                  | (go_at_call 77; (with_reducible refine HC.out.mono ?_); rintro e w3 ⟨rfl, h3⟩; have H3 := Aside0.mk (HR.out.below HL.out h3.below); clear h3; have p03 : w3.cell? ⟨g1, 0, none⟩ = some (pv gl) := (H3.out.1.box g1 #[pv gl] 83 (by simp) 0).trans rfl; have p04 := H3.out.1.disk HL.out; have hcw := H3.out.1.onD HL.out (fun O1 h1 => write.calls gd O1 sj 0 ((j : Int) * 1024) rt _ w0 w3 H3.out.1.hB h1 OKJ.out OM.out); rw [← HWE.out] at hcw; have HCW := Aside0.mk hcw; clear hcw)
                  | (go_at_call 125; (with_reducible refine HCW.out.mono ?_); rintro e w4 ⟨rfl, h4⟩; have H4 := Aside0.mk h4; clear h4))
                go_roundw
                case rel => exact ⟨j + 1, by have := HLT.out; omega, by go_num, ⟨by rw [HMV.out]⟩, ⟨by rw [HMV.out]; exact Ran.next W2.out H3.out HL.out H4.out⟩⟩
                case measure => simp [intOf]; omega
              · have qw : (wc_ != 0) = true := by simp [bne, beq_false hw]
                have HF := Aside0.mk (show Lg.checkpoint s g = ⟨wc_, sw, g⟩ by rw [HS.out, HSTOP.out (by rw [HMV.out]; exact hw), HMV.out, if_pos hw])
                clear hw
                go_wp2_with (first
                  | (go_at_call 77; (with_reducible refine HC.out.mono ?_); rintro e w3 ⟨rfl, h3⟩; have H3 := Aside0.mk (HR.out.below HL.out h3.below); clear h3; have p03 : w3.cell? ⟨g1, 0, none⟩ = some (pv gl) := (H3.out.1.box g1 #[pv gl] 83 (by simp) 0).trans rfl; have p04 := H3.out.1.disk HL.out; have hcw := H3.out.1.onD HL.out (fun O1 h1 => write.calls gd O1 sj 0 ((j : Int) * 1024) rt _ w0 w3 H3.out.1.hB h1 OKJ.out OM.out); rw [← HWE.out] at hcw; have HCW := Aside0.mk hcw; clear hcw)
                  | (go_at_call 125; (with_reducible refine HCW.out.mono ?_); rintro e w4 ⟨rfl, h4⟩; have H4 := Aside0.mk h4; clear h4))
                go_ret
                rw [HF.out]
                have hr := Ran.next W2.out H3.out HL.out H4.out
                rw [HO.out] at hr
                exact ⟨rfl, Ran.out FB.out hr⟩
            · have qe : (re == 0) = false := beq_false he
              have qe' : (re != 0) = true := by simp [bne, qe]
              have HMV := Aside0.mk (HSU.out.trans (show move1 g j sj = (re, sj) by
                unfold move1
                rw [if_neg hi, ← hrd, if_pos he]))
              have HF := Aside0.mk (show Lg.checkpoint s g = ⟨re, sj, g⟩ by rw [HS.out, HSTOP.out (by rw [HMV.out]; exact he), HMV.out, if_pos he])
              clear hi hrd he
              go_wp2_with (go_at_call 77; (with_reducible refine HC.out.mono ?_); rintro e w3 ⟨rfl, h3⟩; have H3 := Aside0.mk (HR.out.below HL.out h3.below); clear h3; have p03 : w3.cell? ⟨g1, 0, none⟩ = some (pv gl) := (H3.out.1.box g1 #[pv gl] 83 (by simp) 0).trans rfl)
              go_ret
              rw [HF.out]
              have hr := H3.out
              rw [HO.out] at hr
              exact ⟨rfl, Ran.out FB.out hr⟩
        · obtain rfl : j = g.pages := by omega
          clear hlt hj
          have OKP := Aside0.mk (moveN_ok HOK.out g g.pages)
          have hS := HS.out
          rw [if_neg (fun h => h HZ.out)] at hS
          obtain ⟨sP, hsP⟩ : ∃ sP, sP = (moveN g g.pages s).2 := ⟨_, rfl⟩
          rw [← hsP] at HR OKP hS
          obtain ⟨rA, hrA⟩ : ∃ r, r = rCut 0 ((g.pages : Int) * 1024) sP g := ⟨_, rfl⟩
          obtain ⟨rB, hrB⟩ : ∃ r, r = rSync 0 rA.s rA.g := ⟨_, rfl⟩
          obtain ⟨rC, hrC⟩ : ∃ r, r = rTell 0 g.pages rB.s rB.g := ⟨_, rfl⟩
          obtain ⟨rF, hrF⟩ : ∃ r, r = if rA.c ≠ 0 then rA else if rB.c ≠ 0 then rB else rC := ⟨_, rfl⟩
          have hS2 : Lg.checkpoint s g = if rF.c = 0 then { rF with g := { rF.g with fr := [], kept := 0 } } else rF := by
            have e : ((rCut 0 ((g.pages : Int) * 1024) sP g).andThen (rSync 0)).andThen (rTell 0 g.pages) = rF := by
              have eB : (rA.andThen (rSync 0)) = if rA.c ≠ 0 then rA else rB := by rw [hrB]; rfl
              rw [← hrA, eB, hrF]
              unfold Run.andThen
              by_cases e1 : rA.c = 0 <;> by_cases e2 : rB.c = 0 <;> simp [e1, e2, hrC]
            rw [hS]
            simp only
            rw [e]
          have HS2 := Aside0.mk hS2
          have gA : rA.g = g := by rw [hrA]; rfl
          have gB : rB.g = g := by rw [hrB]; exact gA
          have gokC : rC.g.ok := by rw [hrC, gB]; exact Lg.ok.tell HG.out _ _ _
          have okA : rA.s.ok (m + hits g.fr g.pages + 1) := by rw [hrA]; exact OKP.out.cutTo _ _
          have okB : rB.s.ok (m + hits g.fr g.pages + 2) := by rw [hrB]; exact okA.sync 0
          have frC : rC.g.pages = g.pages := by rw [hrC, gB]; exact (Lg.tell_fr _ _ _ _).2.2
          have GF := Aside0.mk (show rF.g.ok by rw [hrF]; split; (rw [gA]; exact HG.out); split; (rw [gB]; exact HG.out); exact gokC)
          have GP := Aside0.mk (show rF.g.pages = g.pages by rw [hrF]; split; (rw [gA]); split; (rw [gB]); exact frC)
          have HRA := Aside0.mk hrA
          have HRB := Aside0.mk hrB
          have HRC := Aside0.mk hrC
          have HRF := Aside0.mk hrF
          have GA := Aside0.mk gA
          have GB := Aside0.mk gB
          have KA := Aside0.mk okA
          have KB := Aside0.mk okB
          have HL' : ∀ g', Lk w0.heap.size gd gl (LX w0.heap.size gl gd g') := fun g' => lkLX w0.heap.size gd gl g'
          have HLL := Aside0.mk HL'
          obtain ⟨arr, harr⟩ : ∃ arr : Obj, arr = .cells #[.func (.func 147) #[] #[pv g1], .func (.func 148) #[] #[pv g1], .func (.func 149) #[] #[pv g1]] 95 (0, 0) := ⟨_, rfl⟩
          have HARR := Aside0.mk harr
          obtain ⟨bx, hbx⟩ : ∃ bx : List (Nat × Obj), bx = [(wr.heap.size, arr), (g1, bx1 (pv gl) 83)] := ⟨_, rfl⟩
          have HBX := Aside0.mk hbx
          have hwb := HR.out.1.more HL.out arr
          rw [← hbx] at hwb
          obtain ⟨O3, hO3⟩ : ∃ O3 : Nat → Prop, O3 = fun k => (O' k ∨ w2.heap.size ≤ k) ∧ w0.heap.size ≤ k ∧ k < wr.heap.size := ⟨_, rfl⟩
          have HO3 := Aside0.mk hO3
          rw [← hO3] at hwb
          clear hbx hO3 hS hS2 hsP hrA hrB hrC hrF gA gB gokC okA okB frC HL' hxr hmr
          have hcall : Calls Try.prog 142 #[.slice (some ⟨wr.heap.size, 0, none⟩) 3 3] (wr.alloc arr) fun e w' => e = .returned (.int .i64 rF.c) ∧ Ran w0 (wr.alloc arr) bx gd (LX w0.heap.size gl gd rF.g) O3 rF.s w' := by
            have m1 : (wr.heap.size, arr) ∈ bx := by rw [HBX.out]; simp
            have m2 : (g1, bx1 (pv gl) 83) ∈ bx := by rw [HBX.out]; simp
            have hs := (hwb.bx _ m1).1
            rw [HARR.out] at hs
            have hm := HM.out
            have hh := hits_le g.fr g.pages
            refine (done_147_148_149 wr.heap.size _ _ _ rA.c rB.c rC.c (Ran w0 (wr.alloc arr) bx gd (LX w0.heap.size gl gd g) O3 rA.s) (Ran w0 (wr.alloc arr) bx gd (LX w0.heap.size gl gd g) O3 rB.s) (Ran w0 (wr.alloc arr) bx gd (LX w0.heap.size gl gd rC.g) O3 rC.s) (wr.alloc arr) (by rw [HARR.out]; exact hs) ?_ ?_ ?_).mono ?_
            · refine (cut147.calls g1 gd gl bx O3 sP g (m + hits g.fr g.pages) w0 (wr.alloc arr) hwb OKP.out (by omega) HG.out m2).mono ?_
              rintro e w' ⟨rfl, hr⟩
              have e1 : (sP.cutTo 0 ((g.pages : Int) * 1024)).1 = rA.c := by rw [HRA.out]; rfl
              have e2 : (sP.cutTo 0 ((g.pages : Int) * 1024)).2 = rA.s := by rw [HRA.out]; rfl
              rw [e2] at hr
              rw [e1]
              exact ⟨rfl, hr, Ran.keeps hwb hr m1⟩
            · intro _ w1' hp1 _
              refine (sync148.calls g1 gd gl bx _ _ rA.s (m + hits g.fr g.pages + 1) w0 w1' hp1.1 (HLL.out _) KA.out (by omega) m2).mono ?_
              rintro e w' ⟨rfl, hr⟩
              have e1 : (rA.s.sync 0).1 = rB.c := by rw [HRB.out]; rfl
              have e2 : (rA.s.sync 0).2 = rB.s := by rw [HRB.out]; rfl
              rw [e2] at hr
              rw [e1]
              exact ⟨rfl, Ran.next hwb hp1 (HLL.out _) hr, Ran.keeps hp1.1 hr m1⟩
            · intro _ _ w1' hp1 _
              refine (tell149.calls g1 gd gl bx _ rB.s g (m + hits g.fr g.pages + 2) w0 w1' hp1.1 KB.out (by omega) HG.out m2).mono ?_
              rintro e w' ⟨rfl, hr⟩
              have e0 : rTell 0 g.pages rB.s g = rC := by rw [HRC.out, GB.out]
              rw [e0] at hr ⊢
              exact ⟨rfl, Ran.next hwb hp1 (HLL.out _) hr, Ran.keeps hp1.1 hr m1⟩
            · rintro e w' ⟨rfl, hr⟩
              by_cases e1 : rA.c = 0
              · rw [if_neg (fun h => h e1)] at hr
                by_cases e2 : rB.c = 0
                · rw [if_neg (fun h => h e2)] at hr
                  have hF : rF = rC := by rw [HRF.out, if_neg (fun h => h e1), if_neg (fun h => h e2)]
                  rw [if_neg (fun h => h e1), if_neg (fun h => h e2), hF]
                  exact ⟨rfl, hr⟩
                · rw [if_pos e2] at hr
                  have hF : rF = rB := by rw [HRF.out, if_neg (fun h => h e1), if_pos e2]
                  rw [if_neg (fun h => h e1), if_pos e2, hF, GB.out]
                  exact ⟨rfl, hr⟩
              · rw [if_pos e1] at hr
                have hF : rF = rA := by rw [HRF.out, if_pos e1]
                rw [if_pos e1, hF, GA.out]
                exact ⟨rfl, hr⟩
          have HWB := Aside0.mk hwb
          have HCALL := Aside0.mk hcall
          rw [HARR.out] at HCALL
          clear harr hcall hwb
          have hmf : ∀ (fn : Fn) (first cap : Array Value) (w : World), (Instr.makeFunc fn first cap).run Try.prog w = .ok (.func fn first cap) w := fun _ _ _ _ => rfl
          go_upto_region 16 with (go_at_call 142; (with_reducible refine HCALL.out.mono ?_); rintro e w5 ⟨rfl, hr⟩; rw [← HARR.out] at hr; have HR5 := Aside0.mk hr; clear hr)
          have hend : PL w5 w0.heap.size gd gl (fun k => O k ∨ w.heap.size ≤ k) rF.s rF.g ∧ Below w0.heap.size w0 w5 ∧ Kept w w5 O := by
            have ha := (Below.refl wr.heap.size wr).alloc (Nat.le_refl _) arr
            have hr := HR.out
            rw [HO.out] at hr
            have h1 := Ran.out FB.out hr
            have hs : w.heap.size ≤ wr.heap.size := h1.2.2.1
            refine ⟨(frPL _ _ _ _ _).mono HR5.out.1.hD (fun k hk => ?_), HR5.out.1.hB, ((h1.2.2.then_ (Kept.of_below ha O) (fun k hk => .inl hk)).then_ HR5.out.2 (fun k hk => ?_))⟩
            · rcases hk with hk | hk
              · rw [HO3.out, HO.out] at hk
                exact hk.1.imp (fun a => a.1) (fun a => Nat.le_trans FB.out.size a)
              · exact .inr (Nat.le_trans hs (Nat.le_trans ha.size hk))
            · rw [HO3.out, HO.out] at hk
              exact hk.1.imp (fun a => a.1) (fun a => Nat.le_trans FB.out.size a)
          have HEND := Aside0.mk hend
          clear hend
          by_cases hc : rF.c = 0
          · have hs0 : Lg.checkpoint s g = ⟨0, rF.s, { rF.g with fr := [], kept := 0 }⟩ := by rw [HS2.out, if_pos hc, hc]
            have HS0 := Aside0.mk hs0
            clear hs0
            have q_ : (rF.c != 0) = false := by rw [hc]; rfl
            clear hc
            obtain ⟨bn5, bk5, hx5, hmn5, hmk5, hn5, hk5, hne5, hgl, hbn, hbk, hb1, hb2, hb3⟩ := PL.cells HEND.out.1
            have HX5 := Aside0.mk hx5
            have HF5 := Aside0.mk (And.intro hn5 (And.intro hk5 (And.intro hne5 (And.intro hgl (And.intro hbn (And.intro hbk (And.intro hb1 (And.intro hb2 hb3))))))))
            have HMN5 := Aside0.mk hmn5
            have b1 := (HR5.out.1.bx (g1, bx1 (pv gl) 83) (by rw [HBX.out]; simp)).1
            have BX5 := Aside0.mk b1
            have n1 : g1 ≠ gl := fun e => by rw [e] at b1; rw [b1] at hx5; cases hx5
            have N1 := Aside0.mk n1
            clear b1 n1 hx5 hmn5 hmk5 hn5 hk5 hne5 hgl hbn hbk hb1 hb2 hb3
            clear p0
            go_upto_region 18 with (fail)
            have p0 : w5.cell? ⟨g1, 0, none⟩ = some (pv gl) := (blk_cell BX5.out 0).trans rfl
            have p5 : w5.cell? ⟨gl, 5, none⟩ = some (.int .i64 rF.g.pages) := (blk_cell HX5.out 5).trans rfl
            have p0b : ∀ o, (w5.alloc o).cell? ⟨g1, 0, none⟩ = some (pv gl) := fun o => (blk_cell (blk_alloc BX5.out o) 0).trans rfl
            have p5b : ∀ o, (w5.alloc o).cell? ⟨gl, 5, none⟩ = some (.int .i64 rF.g.pages) := fun o => (blk_cell (blk_alloc HX5.out o) 5).trans rfl
            have y4 : ∀ o, ∃ v, (w5.alloc o).cell? ⟨gl, 4, none⟩ = some v := fun o => ⟨_, (blk_cell (blk_alloc HX5.out o) 4).trans rfl⟩
            have y6 : ∀ o, ∃ v, (w5.alloc o).cell? ⟨gl, 6, none⟩ = some v := fun o => ⟨_, (blk_cell (blk_alloc HX5.out o) 6).trans rfl⟩
            obtain ⟨x4, y4⟩ := y4 (.map #[] 0)
            obtain ⟨x6, y6⟩ := y6 (.map #[] 0)
            have z4 := blk_frozen (blk_alloc HX5.out (.map #[] 0)) 4
            have z5 := blk_frozen (blk_alloc HX5.out (.map #[] 0)) 5
            have z6 := blk_frozen (blk_alloc HX5.out (.map #[] 0)) 6
            have hmm : ∀ (w : World), (Instr.makeMap 163 none).run Try.prog w = .ok (.map (some w.heap.size)) (w.alloc (.map #[] 0)) := by
              intro w
              simp [Instr.makeMap, underlying, Try.underlying163]
            go_cut [] from 68 to 77 (fun wx => ∃ b', Aside0 (wx.heap[gl]? = some (.cells (lcells gd rF.g.fr.length rF.g.pages bn5 0 rF.g.pages b' rF.g.slot rF.g.number) 167 (0, 0)) ∧ MapF wx b' 0 (idx []) ∧ Kept w5 wx (fun j => j = gl) ∧ Below w0.heap.size w0 wx ∧ w5.heap.size ≤ b'))
            case first =>
              go_region
              all_goals go_wp2_with (fail)
              go_meet
              case rel =>
                have hk3 := set3_kept (w5.alloc (.map #[] 0)) gl 4 5 6 (.int .i64 0) (.int .i64 rF.g.pages) (.map (some w5.heap.size))
                have ha := (Below.refl w5.heap.size w5).alloc (Nat.le_refl _) (.map #[] 0)
                refine ⟨w5.heap.size, ⟨?_, ?_, ?_, ?_, Nat.le_refl _⟩⟩
                · exact blk_drew (blk_put (blk_put (blk_put (blk_alloc HX5.out (.map #[] 0)) 4 (.int .i64 0) rfl) 5 (.int .i64 rF.g.pages) rfl) 6 (.map (some w5.heap.size)) rfl)
                · have hm : MapF (w5.alloc (.map #[] 0)) w5.heap.size 0 (idx []) := ⟨.map [], World.ownsMap_made _ _ _ _, fun x hx => rfl⟩
                  have hb := (blk_lt HX5.out)
                  exact hm.kept (hk3.2 w5.heap.size hm.lt (Nat.ne_of_gt hb))
                · exact ((Kept.of_below ha (fun j => j = gl)).then_ hk3 (fun j hj => .inl hj)).then_ (Kept.drew (Kept.refl _ (fun j => j = gl))) (fun j hj => .inl hj)
                · have hbs := HF5.out.2.2.2.2.2.2.1
                  exact ((((below_step HEND.out.2.1 ha).setCell (p := ⟨gl, 4, none⟩) hbs _).setCell (p := ⟨gl, 5, none⟩) hbs _).setCell (p := ⟨gl, 6, none⟩) hbs _).drew
            case rest =>
              obtain ⟨bk6, HC6⟩ := hcut
              clear p0 p5 p0b p5b y4 y6 z4 z5 z6 hmm
              have BX6 := Aside0.mk (blk_kept BX5.out HC6.out.2.2.1 N1.out)
              have HX6 := Aside0.mk HC6.out.1
              have p0 : wc.cell? ⟨g1, 0, none⟩ = some (pv gl) := (blk_cell BX6.out 0).trans rfl
              have p4 : wc.cell? ⟨gl, 4, none⟩ = some (.int .i64 0) := (blk_cell HX6.out 4).trans rfl
              have p5 : wc.cell? ⟨gl, 5, none⟩ = some (.int .i64 rF.g.pages) := (blk_cell HX6.out 5).trans rfl
              have p6 : wc.cell? ⟨gl, 6, none⟩ = some (.map (some bk6)) := (blk_cell HX6.out 6).trans rfl
              have hc := copied.calls bk6 0 (idx []) 0 rF.g.pages wc.drew (HC6.out.2.1.kept rfl) (by decide)
              unfold pcells at hc
              have HC := Aside0.mk hc
              clear hc
              go_upto_region 19 with (fail)
              go_region_law (first
                | (refine goes_ Try.func140 (by kernel_rfl) rfl #[.agg #[.int .i64 0, .int .i64 rF.g.pages, .map (some bk6)]] (by rfl) rfl rfl (by (try simp only [List.map_toArray, List.map_cons, List.map_nil]); first | done | rfl) ?_; (with_reducible refine HC.out.mono ?_); rintro e w7 ⟨b', rfl, hb7, hm7, hw7⟩; refine ⟨_, rfl, ?_⟩; have HB7 := Aside0.mk hb7; have HM7 := Aside0.mk hm7; have HW7 := Aside0.mk (below_step (below_drew (Below.refl _ wc)) hw7); have BX7 := Aside0.mk (blk_below BX6.out HW7.out); have HX7 := Aside0.mk (blk_below HX6.out HW7.out); have p70 : w7.cell? ⟨g1, 0, none⟩ = some (pv gl) := (blk_cell BX7.out 0).trans rfl; have y1 : ∃ v, w7.cell? ⟨gl, 1, none⟩ = some v := ⟨_, (blk_cell HX7.out 1).trans rfl⟩; have y2 : ∃ v, w7.cell? ⟨gl, 2, none⟩ = some v := ⟨_, (blk_cell HX7.out 2).trans rfl⟩; have y3 : ∃ v, w7.cell? ⟨gl, 3, none⟩ = some v := ⟨_, (blk_cell HX7.out 3).trans rfl⟩; obtain ⟨x1, y1⟩ := y1; obtain ⟨x2, y2⟩ := y2; obtain ⟨x3, y3⟩ := y3; have z1 := blk_frozen HX7.out 1; have z2 := blk_frozen HX7.out 2; have z3 := blk_frozen HX7.out 3; clear hb7 hm7 hw7))
              all_goals
                try go_frame
                go_wp2_with (fail)
                go_ret
                rw [HS0.out]
                refine ⟨rfl, ?_⟩
                obtain ⟨hn5, hk5, hne, hgl, hbn, hbk, hb1, hb2, hb3⟩ := HF5.out
                have hk3 := set3_kept w7 gl 1 2 3 (.int .i64 0) (.int .i64 rF.g.pages) (.map (some b'))
                have hk8 : Kept w5 (((w7.setCell ⟨gl, 1, none⟩ (.int .i64 0)).setCell ⟨gl, 2, none⟩ (.int .i64 rF.g.pages)).setCell ⟨gl, 3, none⟩ (.map (some b'))) (fun j => j = gl) :=
                  (HC6.out.2.2.1.then_ (Kept.of_below HW7.out (fun j => j = gl)) (fun j hj => .inl hj)).then_ hk3 (fun j hj => .inl hj)
                have hs6 := HC6.out.2.2.1.1
                have hb5 : w5.heap.size ≤ b' := Nat.le_trans hs6 HB7.out
                have hk6 := HC6.out.2.1.lt
                have hk7 : bk6 < b' := Nat.lt_of_lt_of_le hk6 HB7.out
                refine ⟨(frPL _ _ _ _ _).mono (PL.redo (w := w5) (g' := { rF.g with fr := [], kept := 0 }) HEND.out.1 hk8 HX5.out (bn' := b') (bk' := bk6) ?_ ?_ ?_ (by omega) (.inr (.inr hb5)) (.inr (.inr HC6.out.2.2.2.2))) (fun k hk => hk.elim id (fun h => .inr (Nat.le_trans HEND.out.2.2.1 h))), ?_, ?_⟩
                · exact blk_put (blk_put (blk_put HX7.out 1 (.int .i64 0) rfl) 2 (.int .i64 rF.g.pages) rfl) 3 (.map (some b')) rfl
                · exact HM7.out.kept (hk3.2 b' HM7.out.lt (HM7.out.ne HX7.out))
                · have hm6 := HC6.out.2.1
                  have hmw := hm6.kept ((Kept.of_below HW7.out (fun j => j = gl)).2 bk6 hm6.lt (hm6.ne HX6.out))
                  exact hmw.kept (hk3.2 bk6 hmw.lt (hmw.ne HX7.out))
                · exact (((below_step HC6.out.2.2.2.1 HW7.out).setCell (p := ⟨gl, 1, none⟩) hb1 _).setCell (p := ⟨gl, 2, none⟩) hb1 _).setCell (p := ⟨gl, 3, none⟩) hb1 _
                · exact HEND.out.2.2.then_ hk8 (fun j hj => .inl (by rw [hj]; exact HGL.out))
          · have q_ : (rF.c != 0) = true := by simp [bne, beq_false hc]
            have HS0 := Aside0.mk (HS2.out.trans (if_neg hc))
            clear hc
            go_wp2_with (fail)
            go_ret
            rw [HS0.out]
            exact ⟨rfl, HEND.out⟩
  · have n1 : ((g.fr.length : Int) != (g.kept : Int)) = true := by simp [bne, beq_false (show (g.fr.length : Int) ≠ (g.kept : Int) by omega)]
    have HS := Aside0.mk (show Lg.checkpoint s g = ⟨11, s, g⟩ by unfold Lg.checkpoint; rw [if_pos h1])
    go_enter Try.func71, Try.ntmps71
    go_upto_region 1 with (first
    | ((with_reducible refine gate_dst (N := 1) rfl ?_); refine box_event ?hg (N := 1) ?hd (cs := #[pv gl]) (t := 83) ?hr ?_; (case hd => rfl); (case hg => rfl); (case hr => first | (go_simp; done) | (go_simp; rfl)); intro g1 hg1 w1 hbox hb; have HX1 := Aside0.mk hbox; have HB1 := Aside0.mk hb; have HG1 := Aside0.mk hg1; clear hg1 hbox hb))
    have HXL := Aside0.mk (blk_below HX.out HB1.out)
    have p0 : w1.cell? ⟨g1, 0, none⟩ = some (pv gl) := (blk_cell HX1.out 0).trans rfl
    have p1 : w1.cell? ⟨gl, 1, none⟩ = some (.int .i64 g.fr.length) := (blk_cell HXL.out 1).trans rfl
    have p4 : w1.cell? ⟨gl, 4, none⟩ = some (.int .i64 g.kept) := (blk_cell HXL.out 4).trans rfl
    clear h1
    go_quiet (fail)
    have FB := Aside0.mk (pw_below_drewN HB1.out nq)
    generalize w1.drewN nq = w2 at FB ⊢
    go_wp2_with (fail)
    go_ret
    exact FIN.out 11 HS.out _ FB.out
end Go.Proofs.Ythaoaaboempajaa.Log
namespace Go.Proofs.Ythaoaaboempajaa.Log
open Go.RowKit Go.Maps Go.Proofs.Ythaoaaboempajaa.QLogRuns Go.Proofs.Ythaoaaboempajaa.QDiskRuns Go.Proofs.Ythaoaaboempajaa.Disk Go.Proofs.YthaoaaboempajaaW.PrintWords Go.Proofs.YthaoaaboempajaaW.PrintLast Go.Proofs.YthaoaaboempajaaW.PrintMore Go.Proofs.YthaoaaboempajaaX
set_option linter.unusedVariables false
set_option linter.unusedSimpArgs false
abbrev C4 := Nat × Nat × Nat × Nat
def l0cells (gd : Nat) (c : C4) (bk : Nat) : Array Value :=
  #[.pointer (some ⟨gd, 0, none⟩), .int .i64 0, .int .i64 0, .map none, .int .i64 c.2.2.1, .int .i64 c.2.2.2, .map (some bk), .int .i64 c.1, .int .i64 c.2.1]
def LX0 (base gl gd : Nat) (c : C4) (n : Nat) (f : Int → Int) (w : World) (O : Nat → Prop) : Prop :=
  ∃ bk, w.heap[gl]? = some (.cells (l0cells gd c bk) 167 (0, 0)) ∧ MapF w bk n f ∧ O gl ∧ O bk ∧ base ≤ gl ∧ base ≤ bk
theorem frL0 (base gl gd : Nat) (c : C4) (n : Nat) (f : Int → Int) : Fr base (LX0 base gl gd c n f) := by
  refine ⟨?_, ?_, ?_⟩
  · rintro w w' O S ⟨bk, h1, h3, h5, h7, h8⟩ hk hs
    exact ⟨bk, blk_kept h1 hk (hs gl h5), h3.kept (hk.2 bk h3.lt (hs bk h7)), h5, h7, h8⟩
  · rintro w O O' ⟨bk, h1, h3, h5, h7, h8⟩ hs
    exact ⟨bk, h1, h3, hs _ h5, hs _ h7, h8⟩
  · rintro w O ⟨bk, h1, h3, h5, h7, h8⟩
    exact ⟨bk, h1, h3, ⟨h5, h8.1, blk_lt h1⟩, ⟨h7, h8.2, h3.lt⟩, h8⟩
theorem lkL0 (base gd gl : Nat) (c : C4) (n : Nat) (f : Int → Int) : Lk base gd gl (LX0 base gl gd c n f) :=
  ⟨frL0 _ _ _ _ _ _, fun w O h => by obtain ⟨bk, hx, -⟩ := h; exact (blk_cell hx 0).trans rfl⟩
def PL0 (w : World) (base gd gl : Nat) (O : Nat → Prop) (s : St) (c : C4) (n : Nat) (f : Int → Int) : Prop := Sep base (fun w O => DD w base gd O s) (LX0 base gl gd c n f) w O
theorem frPL0 (base gd gl : Nat) (s : St) (c : C4) (n : Nat) (f : Int → Int) : Fr base (fun w O => PL0 w base gd gl O s c n f) := frSep (frD base gd s) (frL0 base gl gd c n f)
section
variable {w w' : World} {base gd gl : Nat} {O : Nat → Prop} {s : St} {c : C4} {n : Nat} {f : Int → Int}
theorem PL0.cells (h : PL0 w base gd gl O s c n f) : ∃ bk, w.heap[gl]? = some (.cells (l0cells gd c bk) 167 (0, 0)) ∧ MapF w bk n f ∧ O gl ∧ O bk ∧ base ≤ gl ∧ base ≤ bk := by
  obtain ⟨O1, O2, hd, ⟨bk, hx, hmk, hgl, hbk, hb1, hb3⟩, ho1, ho2, -⟩ := h
  exact ⟨bk, hx, hmk, ho2 _ hgl, ho2 _ hbk, hb1, hb3⟩
theorem PL0.upd {c' : C4} (h : PL0 w base gd gl O s c n f) (hk : Kept w w' (fun j => j = gl)) (hx : ∀ bk, w.heap[gl]? = some (.cells (l0cells gd c bk) 167 (0, 0)) → w'.heap[gl]? = some (.cells (l0cells gd c' bk) 167 (0, 0))) : PL0 w' base gd gl O s c' n f := by
  obtain ⟨O1, O2, hd, ⟨bk, hb, hmk, hgl, hbk, hb1, hb3⟩, ho1, ho2, hdis, hbd1, hbd2⟩ := h
  exact ⟨O1, O2, (frD _ _ _).apart hd hk (fun j hj he => hdis j hj (by rw [he]; exact hgl)), ⟨bk, hx _ hb, hmk.kept (hk.2 bk hmk.lt (hmk.ne hb)), hgl, hbk, hb1, hb3⟩, ho1, ho2, hdis, fun j hj => ⟨(hbd1 j hj).1, Nat.lt_of_lt_of_le (hbd1 j hj).2 hk.1⟩, fun j hj => ⟨(hbd2 j hj).1, Nat.lt_of_lt_of_le (hbd2 j hj).2 hk.1⟩⟩
theorem set4_kept (w : World) (gl : Nat) (a b x y : Value) : Kept w ((((w.setCell ⟨gl, 7, none⟩ a).setCell ⟨gl, 8, none⟩ b).setCell ⟨gl, 4, none⟩ x).setCell ⟨gl, 5, none⟩ y) (fun j => j = gl) :=
  (((set_kept (w := w) (g := gl) (j := 7) (v := a)).then_ (set_kept (g := gl) (j := 8) (v := b)) (fun j hj => .inl hj)).then_ (set_kept (g := gl) (j := 4) (v := x)) (fun j hj => .inl hj)).then_ (set_kept (g := gl) (j := 5) (v := y)) (fun j hj => .inl hj)
theorem set4_below {w0 : World} (h : Below base w0 w) (hb : base ≤ gl) (a b x y : Value) : Below base w0 ((((w.setCell ⟨gl, 7, none⟩ a).setCell ⟨gl, 8, none⟩ b).setCell ⟨gl, 4, none⟩ x).setCell ⟨gl, 5, none⟩ y) :=
  (((h.setCell (p := ⟨gl, 7, none⟩) hb a).setCell (p := ⟨gl, 8, none⟩) hb b).setCell (p := ⟨gl, 4, none⟩) hb x).setCell (p := ⟨gl, 5, none⟩) hb y
theorem PL0.set4 (h : PL0 w base gd gl O s c n f) (k a b d : Nat) : PL0 ((((w.setCell ⟨gl, 7, none⟩ (.int .i64 k)).setCell ⟨gl, 8, none⟩ (.int .i64 a)).setCell ⟨gl, 4, none⟩ (.int .i64 b)).setCell ⟨gl, 5, none⟩ (.int .i64 d)) base gd gl O s (k, a, b, d) n f :=
  h.upd (set4_kept w gl _ _ _ _) (fun bk hb => blk_put (blk_put (blk_put (blk_put hb 7 (.int .i64 k) rfl) 8 (.int .i64 a) rfl) 4 (.int .i64 b) rfl) 5 (.int .i64 d) rfl)
end
def markB : ByteArray := ⟨#[114, 101, 108, 115, 116, 111, 114, 101, 32, 108, 111, 103, 32, 48, 48, 49]⟩
def lastStep (text : ByteArray) (k : Nat) (c : C4) : C4 := match slotOfB text k with
  | none => c
  | some (n, f, p) => if c.2.1 = 0 ∨ n = c.2.1 % 3 + 1 then (k, n, f, p) else c
def lastN (text : ByteArray) : Nat → Nat → C4
  | 0, p => (0, 0, 0, p)
  | k + 1, p => lastStep text k (lastN text k p)
abbrev markL : List UInt8 := [114, 101, 108, 115, 116, 111, 114, 101, 32, 108, 111, 103, 32, 48, 48, 49]
def lastOf (text : ByteArray) (p : Nat) : C4 := if text.size < 16 ∨ (text.extract 0 16).toList ≠ markL then (0, 0, 0, p) else lastN text 2 p
theorem lastStep_none {text : ByteArray} {k : Nat} {c : C4} (h : slotOfB text k = none) : lastStep text k c = c := by unfold lastStep; rw [h]
theorem lastStep_take {text : ByteArray} {k n f p : Nat} {c : C4} (h : slotOfB text k = some (n, f, p)) (hz : c.2.1 = 0 ∨ n = c.2.1 % 3 + 1) : lastStep text k c = (k, n, f, p) := by unfold lastStep; rw [h]; exact if_pos hz
theorem lastStep_keep {text : ByteArray} {k n f p : Nat} {c : C4} (h : slotOfB text k = some (n, f, p)) (hz : ¬ (c.2.1 = 0 ∨ n = c.2.1 % 3 + 1)) : lastStep text k c = c := by unfold lastStep; rw [h]; exact if_neg hz
theorem slotOfB_le {text : ByteArray} {k n f p : Nat} (h : slotOfB text k = some (n, f, p)) : 1 ≤ n ∧ n ≤ 3 ∧ (f = 0 ∨ 64 + 1028 * f ≤ text.size) := by
  unfold slotOfB at h
  split at h
  · cases h
  · split at h
    · rename_i hk
      cases h
      exact hk.2
    · cases h
set_option maxHeartbeats 8000000 in
set_option maxRecDepth 100000 in
theorem last.calls (gd gl : Nat) (O : Nat → Prop) (s : St) (p : Nat) (mn : Nat) (mf : Int → Int) (text : ByteArray) (w0 w : World) (hB : Below w0.heap.size w0 w) (hD : PL0 w w0.heap.size gd gl O s (0, 0, 0, p) mn mf) (hs : text.size ≤ 67108864) :
    Calls Try.prog 137 #[pv gl, .string text] w fun e w' => e = .returned (.bool (decide (0 < (lastOf text p).2.1))) ∧
      PL0 w' w0.heap.size gd gl O s (lastOf text p) mn mf ∧ Below w0.heap.size w0 w' ∧ Kept w w' O := by
  have HB := Aside0.mk hB
  have HD := Aside0.mk hD
  have HSZ := Aside0.mk hs
  obtain ⟨bk0, hx0, hmk0, hgl0, hbk0, hb01, hb02⟩ := PL0.cells hD
  have HGL := Aside0.mk hgl0
  clear hx0 hmk0 hgl0 hbk0 hb01 hb02 hB hD hs
  by_cases hl : text.size < 16
  · have HS := Aside0.mk (show lastOf text p = (0, 0, 0, p) by unfold lastOf; rw [if_pos (.inl hl)])
    have l_ : (text.size : Int) < 16 := by omega
    have l2_ : decide ((text.size : Int) < 16) = true := decide_eq_true l_
    clear hl
    go_enter Try.func137, Try.ntmps137
    go_wp2_with (fail)
    go_ret
    rw [HS.out]
    exact ⟨rfl, HD.out, HB.out, Kept.refl _ _⟩
  · have l_ : ¬ (text.size : Int) < 16 := by omega
    have l2_ : decide ((text.size : Int) < 16) = false := decide_eq_false l_
    have l3_ : ¬ text.size < 16 := hl
    have l4_ : 16 ≤ text.size := by omega
    by_cases hm : (text.extract 0 16).toList = markL
    · have HS := Aside0.mk (show lastOf text p = lastN text 2 p by unfold lastOf; rw [if_neg (fun h => h.elim hl (fun h => h hm))])
      have qm : ((text.extract 0 16).toList == [114, 101, 108, 115, 116, 111, 114, 101, 32, 108, 111, 103, 32, 48, 48, 49]) = true := beq_iff_eq.mpr hm
      clear hm hl
      go_enter Try.func137, Try.ntmps137
      go_wp2_with (fail)
      go_loopw [18] (fun v18 wr => ∃ (j : Nat), j ≤ 2 ∧ v18 = .int .i64 (j : Int) ∧ Aside0 (PL0 wr w0.heap.size gd gl O s (lastN text j p) mn mf) ∧ Aside0 (Below w0.heap.size w0 wr) ∧ Aside0 (Kept w wr O)) (fun v18 _ => 2 - (intOf v18).toNat)
      case atStart => exact ⟨0, Nat.zero_le _, rfl, HD, HB, ⟨Kept.refl _ _⟩⟩
      case round =>
        clear HB HD
        obtain ⟨j, hj, rfl, HR, HBr, HKr⟩ := hrel
        by_cases hj2 : j < 2
        · have t_ : decide ((j : Int) < 2) = true := decide_eq_true (by omega)
          have HN := Aside0.mk (show lastN text (j + 1) p = lastStep text j (lastN text j p) from rfl)
          obtain ⟨c, hc⟩ : ∃ c, c = lastN text j p := ⟨_, rfl⟩
          rw [← hc] at HR HN
          clear hc
          by_cases hj0 : j = 0
          · subst hj0
            have HSA := Aside0.mk (slotAt.calls0 text wr HSZ.out)
            go_upto_region 7 with (go_at_call 170; (with_reducible refine HSA.out.mono ?_); rintro e w1 ⟨n, f, q, ok, rfl, h1, h2⟩; have H1 := Aside0.mk h1; have H2 := Aside0.mk h2; clear h1 h2)
            clear HSA
            have P1 := Aside0.mk ((frPL0 _ _ _ _ _ _ _).apart HR.out (S := fun _ => False) (Kept.of_below H2.out _) (fun _ _ h => h))
            have B1 := Aside0.mk (below_step HBr.out H2.out)
            have K1 := Aside0.mk (HKr.out.then_ (Kept.of_below H2.out O) (fun k hk => .inl hk))
            obtain ⟨bk1, hx1, hmk1, hgl1, hbk1, hb11, hb12⟩ := PL0.cells P1.out
            have HX1 := Aside0.mk hx1
            have p8 : w1.cell? ⟨gl, 8, none⟩ = some (.int .i64 c.2.1) := (blk_cell hx1 8).trans rfl
            cases ok with
            | false =>
              have HST := Aside0.mk (lastStep_none (c := c) (show slotOfB text 0 = none from H1.out.trans (if_neg (by decide))))
              clear hx1
              go_wp2_with (fail)
              go_roundw
              case rel => exact ⟨0 + 1, by omega, rfl, ⟨by show PL0 _ _ _ _ _ _ (lastN text 1 p) _ _; rw [HN.out, HST.out]; exact (frPL0 _ _ _ _ _ _ _).mono P1.out (fun k hk => hk)⟩, B1, K1⟩
              case measure => simp [intOf]
            | true =>
              have hso : slotOfB text 0 = some (n, f, q) := H1.out.trans (if_pos rfl)
              have hnn := slotOfB_le hso
              by_cases hz : c.2.1 = 0 ∨ n = c.2.1 % 3 + 1
              · have HST := Aside0.mk (lastStep_take hso hz)
                have p7 : ∃ v, w1.cell? ⟨gl, 7, none⟩ = some v := ⟨_, (blk_cell hx1 7).trans rfl⟩
                have p4 : ∃ v, w1.cell? ⟨gl, 4, none⟩ = some v := ⟨_, (blk_cell hx1 4).trans rfl⟩
                have p5 : ∃ v, w1.cell? ⟨gl, 5, none⟩ = some v := ⟨_, (blk_cell hx1 5).trans rfl⟩
                obtain ⟨x7, p7⟩ := p7
                obtain ⟨x4, p4⟩ := p4
                obtain ⟨x5, p5⟩ := p5
                have z4 := blk_frozen hx1 4
                have z5 := blk_frozen hx1 5
                have z7 := blk_frozen hx1 7
                have z8 := blk_frozen hx1 8
                clear hx1
                by_cases hz0 : c.2.1 = 0
                · have qz : ((c.2.1 : Int) == 0) = true := by rw [hz0]; rfl
                  clear hz hz0
                  go_wp2_with (fail)
                  go_roundw
                  case rel => exact ⟨0 + 1, by omega, rfl, ⟨by show PL0 _ _ _ _ _ _ (lastN text 1 p) _ _; rw [HN.out, HST.out]; exact PL0.set4 P1.out 0 n f q⟩, ⟨set4_below B1.out hb11 _ _ _ _⟩, ⟨K1.out.then_ (set4_kept w1 gl _ _ _ _) (fun j hj => .inl (by rw [hj]; exact HGL.out))⟩⟩
                  case measure => simp [intOf]
                · have qz : ((c.2.1 : Int) == 0) = false := beq_false (by omega)
                  have hn3 : n = c.2.1 % 3 + 1 := hz.resolve_left hz0
                  have d_ : (c.2.1 : Int).tmod 3 = (c.2.1 : Int) % 3 := Int.tmod_eq_emod_of_nonneg (by omega)
                  have v1 : IntKind.i64.wrap ((c.2.1 : Int) % 3) = (c.2.1 : Int) % 3 := IntWalk.i64_in _ (by omega)
                  have v2 : IntKind.i64.wrap ((c.2.1 : Int) % 3 + 1) = (c.2.1 : Int) % 3 + 1 := IntWalk.i64_in _ (by omega)
                  have qn : ((n : Int) == (c.2.1 : Int) % 3 + 1) = true := by rw [hn3]; simp
                  clear hz hz0 hn3
                  go_wp2_with (fail)
                  go_roundw
                  case rel => exact ⟨0 + 1, by omega, rfl, ⟨by show PL0 _ _ _ _ _ _ (lastN text 1 p) _ _; rw [HN.out, HST.out]; exact PL0.set4 P1.out 0 n f q⟩, ⟨set4_below B1.out hb11 _ _ _ _⟩, ⟨K1.out.then_ (set4_kept w1 gl _ _ _ _) (fun j hj => .inl (by rw [hj]; exact HGL.out))⟩⟩
                  case measure => simp [intOf]
              · have HST := Aside0.mk (lastStep_keep hso hz)
                have hz0 : c.2.1 ≠ 0 := fun h => hz (.inl h)
                have hn3 : n ≠ c.2.1 % 3 + 1 := fun h => hz (.inr h)
                have qz : ((c.2.1 : Int) == 0) = false := beq_false (by omega)
                have d_ : (c.2.1 : Int).tmod 3 = (c.2.1 : Int) % 3 := Int.tmod_eq_emod_of_nonneg (by omega)
                have v1 : IntKind.i64.wrap ((c.2.1 : Int) % 3) = (c.2.1 : Int) % 3 := IntWalk.i64_in _ (by omega)
                have v2 : IntKind.i64.wrap ((c.2.1 : Int) % 3 + 1) = (c.2.1 : Int) % 3 + 1 := IntWalk.i64_in _ (by omega)
                have qn : ((n : Int) == (c.2.1 : Int) % 3 + 1) = false := beq_false (by omega)
                clear hz hz0 hn3 hx1
                go_wp2_with (fail)
                go_roundw
                case rel => exact ⟨0 + 1, by omega, rfl, ⟨by show PL0 _ _ _ _ _ _ (lastN text 1 p) _ _; rw [HN.out, HST.out]; exact (frPL0 _ _ _ _ _ _ _).mono P1.out (fun k hk => hk)⟩, B1, K1⟩
                case measure => simp [intOf]
          · obtain rfl : j = 1 := by omega
            clear hj0
            have HSA := Aside0.mk (slotAt.calls1 text wr HSZ.out)
            go_upto_region 7 with (go_at_call 170; (with_reducible refine HSA.out.mono ?_); rintro e w1 ⟨n, f, q, ok, rfl, h1, h2⟩; have H1 := Aside0.mk h1; have H2 := Aside0.mk h2; clear h1 h2)
            clear HSA
            have P1 := Aside0.mk ((frPL0 _ _ _ _ _ _ _).apart HR.out (S := fun _ => False) (Kept.of_below H2.out _) (fun _ _ h => h))
            have B1 := Aside0.mk (below_step HBr.out H2.out)
            have K1 := Aside0.mk (HKr.out.then_ (Kept.of_below H2.out O) (fun k hk => .inl hk))
            obtain ⟨bk1, hx1, hmk1, hgl1, hbk1, hb11, hb12⟩ := PL0.cells P1.out
            have HX1 := Aside0.mk hx1
            have p8 : w1.cell? ⟨gl, 8, none⟩ = some (.int .i64 c.2.1) := (blk_cell hx1 8).trans rfl
            cases ok with
            | false =>
              have HST := Aside0.mk (lastStep_none (c := c) (show slotOfB text 1 = none from H1.out.trans (if_neg (by decide))))
              clear hx1
              go_wp2_with (fail)
              go_roundw
              case rel => exact ⟨1 + 1, by omega, rfl, ⟨by show PL0 _ _ _ _ _ _ (lastN text 2 p) _ _; rw [HN.out, HST.out]; exact (frPL0 _ _ _ _ _ _ _).mono P1.out (fun k hk => hk)⟩, B1, K1⟩
              case measure => simp [intOf]
            | true =>
              have hso : slotOfB text 1 = some (n, f, q) := H1.out.trans (if_pos rfl)
              have hnn := slotOfB_le hso
              by_cases hz : c.2.1 = 0 ∨ n = c.2.1 % 3 + 1
              · have HST := Aside0.mk (lastStep_take hso hz)
                have p7 : ∃ v, w1.cell? ⟨gl, 7, none⟩ = some v := ⟨_, (blk_cell hx1 7).trans rfl⟩
                have p4 : ∃ v, w1.cell? ⟨gl, 4, none⟩ = some v := ⟨_, (blk_cell hx1 4).trans rfl⟩
                have p5 : ∃ v, w1.cell? ⟨gl, 5, none⟩ = some v := ⟨_, (blk_cell hx1 5).trans rfl⟩
                obtain ⟨x7, p7⟩ := p7
                obtain ⟨x4, p4⟩ := p4
                obtain ⟨x5, p5⟩ := p5
                have z4 := blk_frozen hx1 4
                have z5 := blk_frozen hx1 5
                have z7 := blk_frozen hx1 7
                have z8 := blk_frozen hx1 8
                clear hx1
                by_cases hz0 : c.2.1 = 0
                · have qz : ((c.2.1 : Int) == 0) = true := by rw [hz0]; rfl
                  clear hz hz0
                  go_wp2_with (fail)
                  go_roundw
                  case rel => exact ⟨1 + 1, by omega, rfl, ⟨by show PL0 _ _ _ _ _ _ (lastN text 2 p) _ _; rw [HN.out, HST.out]; exact PL0.set4 P1.out 1 n f q⟩, ⟨set4_below B1.out hb11 _ _ _ _⟩, ⟨K1.out.then_ (set4_kept w1 gl _ _ _ _) (fun j hj => .inl (by rw [hj]; exact HGL.out))⟩⟩
                  case measure => simp [intOf]
                · have qz : ((c.2.1 : Int) == 0) = false := beq_false (by omega)
                  have hn3 : n = c.2.1 % 3 + 1 := hz.resolve_left hz0
                  have d_ : (c.2.1 : Int).tmod 3 = (c.2.1 : Int) % 3 := Int.tmod_eq_emod_of_nonneg (by omega)
                  have v1 : IntKind.i64.wrap ((c.2.1 : Int) % 3) = (c.2.1 : Int) % 3 := IntWalk.i64_in _ (by omega)
                  have v2 : IntKind.i64.wrap ((c.2.1 : Int) % 3 + 1) = (c.2.1 : Int) % 3 + 1 := IntWalk.i64_in _ (by omega)
                  have qn : ((n : Int) == (c.2.1 : Int) % 3 + 1) = true := by rw [hn3]; simp
                  clear hz hz0 hn3
                  go_wp2_with (fail)
                  go_roundw
                  case rel => exact ⟨1 + 1, by omega, rfl, ⟨by show PL0 _ _ _ _ _ _ (lastN text 2 p) _ _; rw [HN.out, HST.out]; exact PL0.set4 P1.out 1 n f q⟩, ⟨set4_below B1.out hb11 _ _ _ _⟩, ⟨K1.out.then_ (set4_kept w1 gl _ _ _ _) (fun j hj => .inl (by rw [hj]; exact HGL.out))⟩⟩
                  case measure => simp [intOf]
              · have HST := Aside0.mk (lastStep_keep hso hz)
                have hz0 : c.2.1 ≠ 0 := fun h => hz (.inl h)
                have hn3 : n ≠ c.2.1 % 3 + 1 := fun h => hz (.inr h)
                have qz : ((c.2.1 : Int) == 0) = false := beq_false (by omega)
                have d_ : (c.2.1 : Int).tmod 3 = (c.2.1 : Int) % 3 := Int.tmod_eq_emod_of_nonneg (by omega)
                have v1 : IntKind.i64.wrap ((c.2.1 : Int) % 3) = (c.2.1 : Int) % 3 := IntWalk.i64_in _ (by omega)
                have v2 : IntKind.i64.wrap ((c.2.1 : Int) % 3 + 1) = (c.2.1 : Int) % 3 + 1 := IntWalk.i64_in _ (by omega)
                have qn : ((n : Int) == (c.2.1 : Int) % 3 + 1) = false := beq_false (by omega)
                clear hz hz0 hn3 hx1
                go_wp2_with (fail)
                go_roundw
                case rel => exact ⟨1 + 1, by omega, rfl, ⟨by show PL0 _ _ _ _ _ _ (lastN text 2 p) _ _; rw [HN.out, HST.out]; exact (frPL0 _ _ _ _ _ _ _).mono P1.out (fun k hk => hk)⟩, B1, K1⟩
                case measure => simp [intOf]
        · obtain rfl : j = 2 := by omega
          clear hj2 hj
          obtain ⟨bk1, hx1, -⟩ := PL0.cells HR.out
          have p8 : wr.cell? ⟨gl, 8, none⟩ = some (.int .i64 (lastN text 2 p).2.1) := (blk_cell hx1 8).trans rfl
          clear hx1
          go_wp2_with (fail)
          go_ret
          rw [HS.out]
          exact ⟨rfl, HR.out, HBr.out, HKr.out⟩
    · have HS := Aside0.mk (show lastOf text p = (0, 0, 0, p) by unfold lastOf; rw [if_pos (.inr hm)])
      have qm : ((text.extract 0 16).toList == [114, 101, 108, 115, 116, 111, 114, 101, 32, 108, 111, 103, 32, 48, 48, 49]) = false := beq_eq_false_iff_ne.mpr hm
      clear hm hl
      go_enter Try.func137, Try.ntmps137
      go_wp2_with (fail)
      go_ret
      rw [HS.out]
      exact ⟨rfl, HD.out, HB.out, Kept.refl _ _⟩
end Go.Proofs.Ythaoaaboempajaa.Log
namespace Go.Proofs.Ythaoaaboempajaa.Log
open Go.RowKit Go.Maps Go.Proofs.Ythaoaaboempajaa.QLogRuns Go.Proofs.Ythaoaaboempajaa.QDiskRuns Go.Proofs.Ythaoaaboempajaa.Disk Go.Proofs.YthaoaaboempajaaW.PrintWords Go.Proofs.YthaoaaboempajaaW.PrintLast Go.Proofs.YthaoaaboempajaaW.PrintMore Go.Proofs.YthaoaaboempajaaX
set_option linter.unusedVariables false
set_option linter.unusedSimpArgs false
theorem slotB_size (n f p : Nat) : (slotB n f p).size = 24 := by
  unfold slotB
  simp [ByteArray.size_append, size_four, twelve]
def begin1 (s : St) (p : Nat) : Int × St :=
  let a := s.cutTo 1 0
  if a.1 ≠ 0 then a else
  let b := a.2.sync 1
  if b.1 ≠ 0 then b else
  let c := b.2.write 1 0 (markB ++ slotB 1 0 p)
  if c.1 ≠ 0 then c else c.2.sync 1
theorem begin1_ok {s : St} {m : Nat} (h : s.ok m) (p : Nat) : (begin1 s p).2.ok (m + 4) := by
  unfold begin1
  simp only
  have h1 := h.cutTo 1 0
  have h2 := h1.sync 1
  have h3 := h2.write 1 0 (markB ++ slotB 1 0 p)
  have h4 := h3.sync 1
  split
  · exact h1.mono (by omega)
  · split
    · exact h2.mono (by omega)
    · split
      · exact h3.mono (by omega)
      · exact h4
theorem begin1_is (s : St) (p : Nat) (a b c d : Int × St) (ha : a = s.cutTo 1 0) (hb : b = a.2.sync 1) (hc : c = b.2.write 1 0 (markB ++ slotB 1 0 p)) (hd : d = c.2.sync 1) :
    begin1 s p = if a.1 ≠ 0 then a else if b.1 ≠ 0 then b else if c.1 ≠ 0 then c else d := by
  unfold begin1
  simp only
  rw [← ha, ← hb, ← hc, ← hd]
theorem WB.cells0 {w0 w : World} {bx : List (Nat × Obj)} {gd gl : Nat} {c : C4} {n : Nat} {f : Int → Int} {O : Nat → Prop} {s : St} (h : WB w0 w bx gd (LX0 w0.heap.size gl gd c n f) O s) : w.cell? ⟨gl, 5, none⟩ = some (.int .i64 c.2.2.2) := by
  obtain ⟨bk, hx, -⟩ := PL0.cells h.hD
  exact (blk_cell hx 5).trans rfl
set_option maxHeartbeats 4000000 in
set_option maxRecDepth 100000 in
theorem write173.calls (bl gd gl : Nat) (bx : List (Nat × Obj)) (c : C4) (n : Nat) (f : Int → Int) (O : Nat → Prop) (s : St) (m : Nat) (w0 w : World) (h : WB w0 w bx gd (LX0 w0.heap.size gl gd c n f) O s) (hok : s.ok m) (hm : m ≤ 900000000)
    (hb : (bl, bx1 (pv gl) 83) ∈ bx) :
    Calls Try.prog 173 #[pv bl] w fun e w' => e = .returned (.int .i64 (s.write 1 0 (markB ++ slotB 1 0 c.2.2.2)).1) ∧ Ran w0 w bx gd (LX0 w0.heap.size gl gd c n f) O (s.write 1 0 (markB ++ slotB 1 0 c.2.2.2)).2 w' := by
  have hl := lkL0 w0.heap.size gd gl c n f
  have held : ∀ {w1 : World} {O1 : Nat → Prop} {s1 : St}, WB w0 w1 bx gd (LX0 w0.heap.size gl gd c n f) O1 s1 → w1.cell? ⟨bl, 0, none⟩ = some (pv gl) ∧ w1.cell? ⟨gl, 0, none⟩ = some (pv gd) ∧ w1.cell? ⟨gl, 5, none⟩ = some (.int .i64 c.2.2.2) :=
    fun h1 => ⟨(h1.box _ _ _ hb 0).trans rfl, h1.disk hl, WB.cells0 h1⟩
  have HELD := Aside0.mk @held
  clear held
  have T0 := Aside0.mk h
  have HL := Aside0.mk hl
  have HOK := Aside0.mk hok
  have HM := Aside0.mk (Nat.le_trans hm (by decide : (900000000:Nat) ≤ 1000000000))
  have htx := slotText_is 1 0 c.2.2.2
  have hsz := slotB_size 1 0 c.2.2.2
  obtain ⟨tx, etx⟩ : ∃ tx, tx = slotB 1 0 c.2.2.2 := ⟨_, rfl⟩
  rw [← etx] at htx hsz ⊢
  have HT := Aside0.mk (show wal_slotText.f 1 0 (c.2.2.2 : Int) = some tx from htx)
  have sz1 : (9223372036854775807 < 16 + tx.size) = False := eq_false (by omega)
  have sz2 : ¬ (9223372036854775807 < 16 + tx.size) := by omega
  have sz3 : (9223372036854775807 < (ByteArray.mk #[114, 101, 108, 115, 116, 111, 114, 101, 32, 108, 111, 103, 32, 48, 48, 49]).size + tx.size) = False := eq_false (by rw [show (ByteArray.mk #[114, 101, 108, 115, 116, 111, 114, 101, 32, 108, 111, 103, 32, 48, 48, 49]).size = 16 from rfl]; omega)
  clear h hl hok hm htx hb etx hsz
  go_enter Try.func173, Try.ntmps173
  go_upto_region 1 with (fail)
  go_region_held3 (fun w' => w'.cell? ⟨bl, 0, none⟩ = some (pv gl) ∧ w'.cell? ⟨gl, 0, none⟩ = some (pv gd) ∧ w'.cell? ⟨gl, 5, none⟩ = some (.int .i64 c.2.2.2)) (first | exact HELD.out T2.out.1 | exact HELD.out T1.out | exact HELD.out (T0.out.drew HL.out))
    (first
    | (have T1_ := Aside0.mk T1.out; go_at_call 125; (with_reducible refine (T1.out.onD HL.out (fun O1 h1 => write.calls gd O1 s 1 0 (⟨#[114, 101, 108, 115, 116, 111, 114, 101, 32, 108, 111, 103, 32, 48, 48, 49]⟩ ++ tx) _ w0 _ T1.out.hB h1 HOK.out HM.out)).mono ?_); rintro e w4 ⟨rfl, hd⟩; have T2 := Aside0.mk hd; clear hd)
    | (have T1 := Aside0.mk (T0.out.drew HL.out); go_at_call 174; (with_reducible refine (wal_slotText.calls 1 0 (c.2.2.2 : Int) tx _ HT.out).mono ?_); rintro e3 w3 ⟨rfl, hb3⟩; replace T1 := Aside0.mk ((T0.out.drew HL.out).below HL.out hb3); have HB3 := Aside0.mk (below_step (below_drew (Below.refl _ w)) hb3); clear hb3))
  go_wp2_with (fail)
  go_ret
  have hs3 := HB3.out.size
  have hd := T2.out
  exact ⟨rfl, hd.1.mono HL.out (fun k hk => hk.imp id (Nat.le_trans hs3)) (fun x hx ho => ho.elim (T0.out.bx x hx).2 (Nat.not_le.mpr (T0.out.lt hx))), (Kept.of_below HB3.out O).then_ hd.2 (fun k hk => .inl hk)⟩
set_option maxHeartbeats 8000000 in
set_option maxRecDepth 100000 in
theorem begin.calls (gd gl : Nat) (O : Nat → Prop) (s : St) (c : C4) (n : Nat) (f : Int → Int) (m : Nat) (w0 w : World) (hB : Below w0.heap.size w0 w) (hD : PL0 w w0.heap.size gd gl O s c n f) (hok : s.ok m) (hm : m ≤ 700000000) :
    Calls Try.prog 138 #[pv gl] w fun e w' => e = .returned (.int .i64 (begin1 s c.2.2.2).1) ∧
      PL0 w' w0.heap.size gd gl (fun k => O k ∨ w.heap.size ≤ k) (begin1 s c.2.2.2).2 (0, 1, c.2.2.1, c.2.2.2) n f ∧ Below w0.heap.size w0 w' ∧ Kept w w' O := by
  have HB := Aside0.mk hB
  have HD := Aside0.mk hD
  have HOK := Aside0.mk hok
  have HM := Aside0.mk hm
  obtain ⟨bk, hx, hmk, hgl, hbk, hb1, hb2⟩ := PL0.cells hD
  have HX := Aside0.mk hx
  have HGL := Aside0.mk hgl
  have HBS := Aside0.mk hb1
  clear hB hD hok hm hx hmk hgl hbk hb1 hb2
  go_enter Try.func138, Try.ntmps138
  go_upto_region 1 with (first
    | ((with_reducible refine gate_dst (N := 1) rfl ?_); refine box_event ?hg (N := 1) ?hd (cs := #[pv gl]) (t := 83) ?hr ?_; (case hd => rfl); (case hg => rfl); (case hr => first | (go_simp; done) | (go_simp; rfl)); intro g1 hg1 w1 hbox hb; have HX1 := Aside0.mk hbox; have HB1 := Aside0.mk hb; have HG1 := Aside0.mk hg1; clear hg1 hbox hb))
  have HXL := Aside0.mk (blk_below HX.out HB1.out)
  have N1 := Aside0.mk (show g1 ≠ gl by have := blk_lt HX.out; rw [HG1.out]; omega)
  have p0 : w1.cell? ⟨g1, 0, none⟩ = some (pv gl) := (blk_cell HX1.out 0).trans rfl
  have p0b : ∀ v, (w1.setCell ⟨gl, 7, none⟩ v).cell? ⟨g1, 0, none⟩ = some (pv gl) := fun v => (blk_cell (blk_far HX1.out (p := ⟨gl, 7, none⟩) N1.out v) 0).trans rfl
  have p7 : ∃ v, w1.cell? ⟨gl, 7, none⟩ = some v := ⟨_, (blk_cell HXL.out 7).trans rfl⟩
  have p8 : ∃ v, w1.cell? ⟨gl, 8, none⟩ = some v := ⟨_, (blk_cell HXL.out 8).trans rfl⟩
  obtain ⟨x7, p7⟩ := p7
  obtain ⟨x8, p8⟩ := p8
  have z7 := blk_frozen HXL.out 7
  have z8 := blk_frozen HXL.out 8
  have z8b : ∀ u, (w1.setCell ⟨gl, 7, none⟩ u).frozen? ⟨gl, 8, none⟩ = false := fun u => blk_frozen (blk_set HXL.out 7 u) 8
  go_cut [] from 3 to 8 (fun wx => wx = ((w1.setCell ⟨gl, 7, none⟩ (.int .i64 0)).setCell ⟨gl, 8, none⟩ (.int .i64 1)).drew)
  case first =>
    go_region
    all_goals go_wp2_with (fail)
    all_goals
      go_meet
      case rel => rfl
  case rest =>
    have HK2 := Aside0.mk (((set_kept (w := w1) (g := gl) (j := 7) (v := .int .i64 0)).then_ (set_kept (g := gl) (j := 8) (v := .int .i64 1)) (fun j hj => .inl hj)).then_ (Kept.drew (Kept.refl _ (fun j => j = gl))) (fun j hj => .inl hj))
    have HP2 := Aside0.mk (PL0.upd (c' := (0, 1, c.2.2.1, c.2.2.2)) ((frPL0 _ _ _ _ _ _ _).apart ((frPL0 _ _ _ _ _ _ _).narrow HD.out) (S := fun _ => False) (Kept.of_below HB1.out _) (fun _ _ h => h)) HK2.out (fun bk hb => blk_drew (blk_put (blk_put hb 7 (.int .i64 0) rfl) 8 (.int .i64 1) rfl)))
    have HB2 := Aside0.mk ((((below_step HB.out HB1.out).setCell (p := ⟨gl, 7, none⟩) HBS.out (.int .i64 0)).setCell (p := ⟨gl, 8, none⟩) HBS.out (.int .i64 1)).drew)
    have HX2 := Aside0.mk (blk_kept HX1.out HK2.out N1.out)
    rw [← hcut] at HK2 HP2 HB2 HX2
    have HKW := Aside0.mk ((Kept.of_below HB1.out O).then_ HK2.out (fun j hj => .inl (by rw [hj]; exact HGL.out)))
    clear hcut p0 p0b p7 p8 z7 z8 z8b HX1
    obtain ⟨ra, hra⟩ : ∃ r, r = s.cutTo 1 0 := ⟨_, rfl⟩
    obtain ⟨rb, hrb⟩ : ∃ r, r = ra.2.sync 1 := ⟨_, rfl⟩
    obtain ⟨rc, hrc⟩ : ∃ r, r = rb.2.write 1 0 (markB ++ slotB 1 0 c.2.2.2) := ⟨_, rfl⟩
    obtain ⟨rd, hrd⟩ : ∃ r, r = rc.2.sync 1 := ⟨_, rfl⟩
    have hS := begin1_is s c.2.2.2 ra rb rc rd hra hrb hrc hrd
    have oka : ra.2.ok (m + 1) := by rw [hra]; exact HOK.out.cutTo _ _
    have okb : rb.2.ok (m + 2) := by rw [hrb]; exact oka.sync _
    have okc : rc.2.ok (m + 3) := by rw [hrc]; exact okb.write _ _ _
    obtain ⟨arr, harr⟩ : ∃ arr : Obj, arr = .cells #[.func (.func 171) #[] #[pv g1], .func (.func 172) #[] #[pv g1], .func (.func 173) #[] #[pv g1], .func (.func 175) #[] #[pv g1]] 95 (0, 0) := ⟨_, rfl⟩
    have HARR := Aside0.mk harr
    obtain ⟨bx, hbx⟩ : ∃ bx : List (Nat × Obj), bx = [(wc.heap.size, arr), (g1, bx1 (pv gl) 83)] := ⟨_, rfl⟩
    have hl := lkL0 w0.heap.size gd gl (0, 1, c.2.2.1, c.2.2.2) n f
    obtain ⟨O', hO'⟩ : ∃ O' : Nat → Prop, O' = fun k => O k ∧ w0.heap.size ≤ k ∧ k < w.heap.size := ⟨_, rfl⟩
    have hwb0 : WB w0 wc [(g1, bx1 (pv gl) 83)] gd (LX0 w0.heap.size gl gd (0, 1, c.2.2.1, c.2.2.2) n f) O' s := by
      refine ⟨HB2.out, by rw [hO']; exact HP2.out, fun x hx => ?_⟩
      rw [List.mem_singleton] at hx
      subst hx
      exact ⟨HX2.out, fun ho => by rw [hO', HG1.out] at ho; omega⟩
    have hwb := hwb0.more hl arr
    rw [← hbx] at hwb
    obtain ⟨O3, hO3⟩ : ∃ O3 : Nat → Prop, O3 = fun k => O' k ∧ w0.heap.size ≤ k ∧ k < wc.heap.size := ⟨_, rfl⟩
    rw [← hO3] at hwb
    have hO31 : ∀ k, O3 k → O k := fun k hk => by rw [hO3, hO'] at hk; exact hk.1.1
    have HO := Aside0.mk hO31
    have hsF : ∃ sF : Int × St, sF = if ra.1 ≠ 0 then ra else if rb.1 ≠ 0 then rb else if rc.1 ≠ 0 then rc else rd := ⟨_, rfl⟩
    obtain ⟨rF, hrF⟩ := hsF
    rw [← hrF] at hS
    have HS := Aside0.mk hS
    have hcall : Calls Try.prog 142 #[.slice (some ⟨wc.heap.size, 0, none⟩) 4 4] (wc.alloc arr) fun e w' => e = .returned (.int .i64 rF.1) ∧ Ran w0 (wc.alloc arr) bx gd (LX0 w0.heap.size gl gd (0, 1, c.2.2.1, c.2.2.2) n f) O3 rF.2 w' := by
      have m1 : (wc.heap.size, arr) ∈ bx := by rw [hbx]; simp
      have m2 : (g1, bx1 (pv gl) 83) ∈ bx := by rw [hbx]; simp
      have hs := (hwb.bx _ m1).1
      rw [harr] at hs
      have hm := HM.out
      refine (done_171_172_173_175 wc.heap.size _ _ _ _ ra.1 rb.1 rc.1 rd.1 (Ran w0 (wc.alloc arr) bx gd (LX0 w0.heap.size gl gd (0, 1, c.2.2.1, c.2.2.2) n f) O3 ra.2) (Ran w0 (wc.alloc arr) bx gd (LX0 w0.heap.size gl gd (0, 1, c.2.2.1, c.2.2.2) n f) O3 rb.2) (Ran w0 (wc.alloc arr) bx gd (LX0 w0.heap.size gl gd (0, 1, c.2.2.1, c.2.2.2) n f) O3 rc.2) (Ran w0 (wc.alloc arr) bx gd (LX0 w0.heap.size gl gd (0, 1, c.2.2.1, c.2.2.2) n f) O3 rd.2) (wc.alloc arr) (by rw [harr]; exact hs) ?_ ?_ ?_ ?_).mono ?_
      · refine (cut171.calls g1 gd gl bx _ O3 s m w0 (wc.alloc arr) hwb hl HOK.out (by omega) m2).mono ?_
        rintro e w' ⟨rfl, hr⟩
        rw [← hra] at hr ⊢
        exact ⟨rfl, hr, Ran.keeps hwb hr m1⟩
      · intro _ w1' hp1 _
        refine (sync172.calls g1 gd gl bx _ _ ra.2 (m + 1) w0 w1' hp1.1 hl oka (by omega) m2).mono ?_
        rintro e w' ⟨rfl, hr⟩
        rw [← hrb] at hr ⊢
        exact ⟨rfl, Ran.next hwb hp1 hl hr, Ran.keeps hp1.1 hr m1⟩
      · intro _ _ w1' hp1 _
        refine (write173.calls g1 gd gl bx _ n f _ rb.2 (m + 2) w0 w1' hp1.1 okb (by omega) m2).mono ?_
        rintro e w' ⟨rfl, hr⟩
        rw [← hrc] at hr ⊢
        exact ⟨rfl, Ran.next hwb hp1 hl hr, Ran.keeps hp1.1 hr m1⟩
      · intro _ _ _ w1' hp1 _
        refine (sync175.calls g1 gd gl bx _ _ rc.2 (m + 3) w0 w1' hp1.1 hl okc (by omega) m2).mono ?_
        rintro e w' ⟨rfl, hr⟩
        rw [← hrd] at hr ⊢
        exact ⟨rfl, Ran.next hwb hp1 hl hr, Ran.keeps hp1.1 hr m1⟩
      · rintro e w' ⟨rfl, hr⟩
        by_cases e1 : ra.1 = 0
        · rw [if_neg (fun h => h e1)] at hr
          by_cases e2 : rb.1 = 0
          · rw [if_neg (fun h => h e2)] at hr
            by_cases e3 : rc.1 = 0
            · rw [if_neg (fun h => h e3)] at hr
              have hF : rF = rd := by rw [hrF, if_neg (fun h => h e1), if_neg (fun h => h e2), if_neg (fun h => h e3)]
              rw [if_neg (fun h => h e1), if_neg (fun h => h e2), if_neg (fun h => h e3), hF]
              exact ⟨rfl, hr⟩
            · rw [if_pos e3] at hr
              have hF : rF = rc := by rw [hrF, if_neg (fun h => h e1), if_neg (fun h => h e2), if_pos e3]
              rw [if_neg (fun h => h e1), if_neg (fun h => h e2), if_pos e3, hF]
              exact ⟨rfl, hr⟩
          · rw [if_pos e2] at hr
            have hF : rF = rb := by rw [hrF, if_neg (fun h => h e1), if_pos e2]
            rw [if_neg (fun h => h e1), if_pos e2, hF]
            exact ⟨rfl, hr⟩
        · rw [if_pos e1] at hr
          have hF : rF = ra := by rw [hrF, if_pos e1]
          rw [if_pos e1, hF]
          exact ⟨rfl, hr⟩
    have HA := Aside0.mk ((Below.refl wc.heap.size wc).alloc (Nat.le_refl _) arr)
    have HCALL := Aside0.mk hcall
    rw [harr] at HCALL
    clear harr hcall hwb hwb0 hbx hO' hO3 hO31 hS hra hrb hrc hrd oka okb okc hl hrF
    have hmf : ∀ (fn : Fn) (first cap : Array Value) (w : World), (Instr.makeFunc fn first cap).run Try.prog w = .ok (.func fn first cap) w := fun _ _ _ _ => rfl
    go_wp2_with (go_at_call 142; (with_reducible refine HCALL.out.mono ?_); rintro e w5 ⟨rfl, hr⟩; rw [← HARR.out] at hr; have HR := Aside0.mk hr; clear hr)
    go_ret
    rw [HS.out]
    have hz := HKW.out.1
    have ha := HA.out
    exact ⟨rfl, (frPL0 _ _ _ _ _ _ _).mono HR.out.1.hD (fun k hk => hk.imp (HO.out k) (fun a => Nat.le_trans hz (Nat.le_trans ha.size a))), HR.out.1.hB, (HKW.out.then_ (Kept.of_below ha O) (fun k hk => .inl hk)).then_ HR.out.2 (fun k hk => .inl (HO.out k hk))⟩
end Go.Proofs.Ythaoaaboempajaa.Log
namespace Go.Proofs.Ythaoaaboempajaa.Log
open Go.RowKit Go.Maps Go.Proofs.Ythaoaaboempajaa.QLogRuns Go.Proofs.Ythaoaaboempajaa.QDiskRuns Go.Proofs.Ythaoaaboempajaa.Disk Go.Proofs.YthaoaaboempajaaW.PrintWords Go.Proofs.YthaoaaboempajaaW.PrintLast Go.Proofs.YthaoaaboempajaaW.PrintMore Go.Proofs.YthaoaaboempajaaX
set_option linter.unusedVariables false
set_option linter.unusedSimpArgs false
def frameAt (t : ByteArray) (k : Nat) : Nat × ByteArray := (tn t (64 + 1028 * k), t.extract (68 + 1028 * k) (64 + 1028 * (k + 1)))
def framesOf (t : ByteArray) (n : Nat) : List (Nat × ByteArray) := (List.range n).map (frameAt t)
theorem framesOf_succ (t : ByteArray) (n : Nat) : framesOf t (n + 1) = framesOf t n ++ [frameAt t n] := by
  unfold framesOf
  rw [List.range_succ, List.map_append]
  rfl
theorem framesOf_len (t : ByteArray) (n : Nat) : (framesOf t n).length = n := by unfold framesOf; simp
def openP (s : St) : Int × St × Option Lg :=
  if s.d = true then (2, s, none)
  else if (lastOf s.s1 (s.s0.size / 1024)).2.1 > 0 then
    (0, s, some ⟨framesOf s.s1 (lastOf s.s1 (s.s0.size / 1024)).2.2.1, (lastOf s.s1 (s.s0.size / 1024)).2.2.1, (lastOf s.s1 (s.s0.size / 1024)).2.2.2, (lastOf s.s1 (s.s0.size / 1024)).1, (lastOf s.s1 (s.s0.size / 1024)).2.1⟩)
  else if (begin1 s (s.s0.size / 1024)).1 ≠ 0 then ((begin1 s (s.s0.size / 1024)).1, (begin1 s (s.s0.size / 1024)).2, none)
  else (0, (begin1 s (s.s0.size / 1024)).2, some ⟨[], 0, s.s0.size / 1024, 0, 1⟩)
theorem lastStep_c {text : ByteArray} {k : Nat} {c : C4} (hc : c.2.2.1 = 0 ∨ 64 + 1028 * c.2.2.1 ≤ text.size) (hz : c.2.1 = 0 → c.1 = 0 ∧ c.2.2.1 = 0) (hn : c.2.1 ≤ 3) (hs : c.1 = 0 ∨ c.1 = 1) (hk : k = 0 ∨ k = 1) :
    ((lastStep text k c).2.2.1 = 0 ∨ 64 + 1028 * (lastStep text k c).2.2.1 ≤ text.size) ∧ ((lastStep text k c).2.1 = 0 → (lastStep text k c).1 = 0 ∧ (lastStep text k c).2.2.1 = 0) ∧ (lastStep text k c).2.1 ≤ 3 ∧ ((lastStep text k c).1 = 0 ∨ (lastStep text k c).1 = 1) := by
  cases h : slotOfB text k with
  | none => rw [lastStep_none h]; exact ⟨hc, hz, hn, hs⟩
  | some x =>
    obtain ⟨n, f, p⟩ := x
    have hb := slotOfB_le h
    by_cases e : c.2.1 = 0 ∨ n = c.2.1 % 3 + 1
    · rw [lastStep_take h e]
      exact ⟨hb.2.2, fun h0 => by simp only at h0; omega, hb.2.1, hk⟩
    · rw [lastStep_keep h e]
      exact ⟨hc, hz, hn, hs⟩
theorem lastOf_c (text : ByteArray) (p : Nat) : ((lastOf text p).2.2.1 = 0 ∨ 64 + 1028 * (lastOf text p).2.2.1 ≤ text.size) ∧ ((lastOf text p).2.1 = 0 → (lastOf text p).1 = 0 ∧ (lastOf text p).2.2.1 = 0) ∧ (lastOf text p).2.1 ≤ 3 ∧ ((lastOf text p).1 = 0 ∨ (lastOf text p).1 = 1) := by
  unfold lastOf
  split
  · exact ⟨.inl rfl, fun _ => ⟨rfl, rfl⟩, Nat.zero_le _, .inl rfl⟩
  · unfold lastN
    have h0 : ((lastN text 1 p).2.2.1 = 0 ∨ 64 + 1028 * (lastN text 1 p).2.2.1 ≤ text.size) ∧ ((lastN text 1 p).2.1 = 0 → (lastN text 1 p).1 = 0 ∧ (lastN text 1 p).2.2.1 = 0) ∧ (lastN text 1 p).2.1 ≤ 3 ∧ ((lastN text 1 p).1 = 0 ∨ (lastN text 1 p).1 = 1) :=
      lastStep_c (c := (0, 0, 0, p)) (.inl rfl) (fun _ => ⟨rfl, rfl⟩) (Nat.zero_le _) (.inl rfl) (.inl rfl)
    exact lastStep_c h0.1 h0.2.1 h0.2.2.1 h0.2.2.2 (.inr rfl)
theorem lastStep_p {text : ByteArray} {k p : Nat} {c : C4} (hz : c.2.1 = 0 → c = (0, 0, 0, p)) : (lastStep text k c).2.1 = 0 → lastStep text k c = (0, 0, 0, p) := by
  cases h : slotOfB text k with
  | none => rw [lastStep_none h]; exact hz
  | some x =>
    obtain ⟨n, f, q⟩ := x
    have hb := slotOfB_le h
    by_cases e : c.2.1 = 0 ∨ n = c.2.1 % 3 + 1
    · rw [lastStep_take h e]
      exact fun h0 => by simp only at h0; omega
    · rw [lastStep_keep h e]
      exact hz
theorem lastOf_none (text : ByteArray) (p : Nat) : (lastOf text p).2.1 = 0 → lastOf text p = (0, 0, 0, p) := by
  unfold lastOf
  split
  · exact fun _ => rfl
  · unfold lastN
    exact lastStep_p (lastStep_p (c := (0, 0, 0, p)) (fun _ => rfl))
theorem PL0.put {w0 w w' : World} {gd gl : Nat} {O : Nat → Prop} {s : St} {c : C4} {n n' bk : Nat} {f f' : Int → Int} (h : PL0 w w0.heap.size gd gl O s c n f) (hx : w.heap[gl]? = some (.cells (l0cells gd c bk) 167 (0, 0))) (hm : MapF w' bk n' f') (hg : w.grownBy w' (some bk)) (hB : Below w0.heap.size w0 w) :
    PL0 w' w0.heap.size gd gl O s c n' f' ∧ Below w0.heap.size w0 w' ∧ Kept w w' O := by
  obtain ⟨O1, O2, hd, ⟨bk0, hb, hmk, hgl, hbk, hb1, hb3⟩, ho1, ho2, hdis, hbd1, hbd2⟩ := h
  have e6 : bk0 = bk := by
    have e0 := hb.symm.trans hx
    injection e0 with e0
    injection e0 with e0
    have := congrArg (fun c : Array Value => c[6]?) e0
    simp [l0cells] at this
    exact this
  subst e6
  have hne := hmk.ne hb
  have hk : Kept w w' (fun j => j = bk0) := Kept.of_grown hg (Kept.refl w (fun j => j = bk0)) (fun j hj => .inl (Option.some.inj hj).symm)
  exact ⟨⟨O1, O2, (frD _ _ _).apart hd hk (fun j hj he => hdis j hj (by rw [he]; exact hbk)), ⟨bk0, blk_grown hb hg (fun e => hne (Option.some.inj e).symm), hm, hgl, hbk, hb1, hb3⟩, ho1, ho2, hdis, fun j hj => ⟨(hbd1 j hj).1, Nat.lt_of_lt_of_le (hbd1 j hj).2 hk.1⟩, fun j hj => ⟨(hbd2 j hj).1, Nat.lt_of_lt_of_le (hbd2 j hj).2 hk.1⟩⟩,
    hB.grown hg (below_size hB) (fun j hj => by cases hj; exact hb3), hk.mono (fun j hj => by rw [hj]; exact ho2 _ hbk)⟩
theorem kept_new {w w' : World} {O : Nat → Prop} (h : Kept w w' (fun k => O k ∨ w.heap.size ≤ k)) : Kept w w' O := ⟨h.1, fun i hi hn => h.2 i hi (fun a => a.elim hn (Nat.not_le.mpr hi))⟩
theorem PL0.done {w w' : World} {base gd gl : Nat} {O : Nat → Prop} {s : St} {c : C4} {m : Nat} {f : Int → Int} (h : PL0 w base gd gl O s c m f) (hk : Kept w w' (fun j => j = gl)) {bk b' : Nat} {g : Lg}
    (hx : w.heap[gl]? = some (.cells (l0cells gd c bk) 167 (0, 0)))
    (hx' : w'.heap[gl]? = some (.cells (lcells gd g.fr.length g.pages b' g.kept g.pages bk g.slot g.number) 167 (0, 0)))
    (hn : MapF w' b' g.fr.length (idx g.fr)) (hkm : MapF w' bk g.kept (idx (g.fr.take g.kept))) (hb' : w.heap.size ≤ b') : PL w' base gd gl (fun j => O j ∨ w.heap.size ≤ j) s g := by
  obtain ⟨O1, O2, hd, ⟨bk0, hb, hmk, hgl, hbk, hb1, hb3⟩, ho1, ho2, hdis, hbd1, hbd2⟩ := h
  have e6 : bk0 = bk := by
    have e0 := hb.symm.trans hx
    injection e0 with e0
    injection e0 with e0
    have := congrArg (fun c : Array Value => c[6]?) e0
    simp [l0cells] at this
    exact this
  subst e6
  have hwl := hk.1
  have hbl := hmk.lt
  have hbase : base ≤ w.heap.size := Nat.le_trans hb1 (Nat.le_of_lt (blk_lt hx))
  refine ⟨O1, fun j => (O2 j ∨ w.heap.size ≤ j) ∧ j < w'.heap.size, (frD _ _ _).apart hd hk (fun j hj he => hdis j hj (by rw [he]; exact hgl)), ⟨b', bk0, hx', hn, hkm, by omega, ⟨.inl hgl, blk_lt hx'⟩, ⟨.inr hb', hn.lt⟩, ⟨.inl hbk, hkm.lt⟩, hb1, Nat.le_trans hbase hb', hb3⟩, fun j hj => .inl (ho1 j hj), fun j hj => hj.1.imp (ho2 j) id, fun j h1 h2 => h2.1.elim (hdis j h1) (Nat.not_le.mpr (hbd1 j h1).2), fun j hj => ⟨(hbd1 j hj).1, Nat.lt_of_lt_of_le (hbd1 j hj).2 hwl⟩, fun j hj => ⟨hj.1.elim (fun h => (hbd2 j h).1) (fun h => Nat.le_trans hbase h), hj.2⟩⟩
def Opened (w' : World) (base gd : Nat) (O : Nat → Prop) (v : Value) (s : St) : Option Lg → Prop
  | none => v = .pointer none ∧ DD w' base gd O s
  | some g => ∃ gl, v = pv gl ∧ PL w' base gd gl O s g
set_option maxHeartbeats 8000000 in
set_option maxRecDepth 100000 in
theorem open.calls (gd : Nat) (O : Nat → Prop) (s : St) (m : Nat) (w0 w : World) (hB : Below w0.heap.size w0 w) (hD : DD w w0.heap.size gd O s) (hok : s.ok m) (hm : m ≤ 600000000) :
    Calls Try.prog 63 #[pv gd] w fun e w' => ∃ v : Value, e = .returned (.tuple #[v, .int .i64 (openP s).1]) ∧ Below w0.heap.size w0 w' ∧ Kept w w' O ∧
      Opened w' w0.heap.size gd (fun k => O k ∨ w.heap.size ≤ k) v (openP s).2.1 (openP s).2.2 := by
  have HB := Aside0.mk hB
  have HD := Aside0.mk hD
  have HOK := Aside0.mk hok
  have HM := Aside0.mk hm
  by_cases hdn : s.d = true
  · have HS := Aside0.mk (show openP s = (2, s, none) by unfold openP; rw [if_pos hdn])
    have HC := Aside0.mk (size.calls gd O s 0 w0 w hD)
    have hz : s.size 0 = (0, 2) := by unfold St.size; rw [if_pos (by decide), if_pos hdn]
    rw [hz] at HC
    clear hB hD hok hm hdn hz
    go_enter Try.func63, Try.ntmps63
    go_wp2_with (go_at_call 129; (with_reducible refine HC.out.mono ?_); rintro e w1 ⟨rfl, h1⟩; have H1 := Aside0.mk h1; clear h1)
    go_ret2
    rw [HS.out]
    exact ⟨_, rfl, below_step HB.out H1.out.below, Kept.of_below H1.out.below O, rfl, DX.mono (drawn_keep H1.out HD.out) (fun k hk => .inl hk)⟩
  · have hs0 : s.size 0 = ((s.s0.size : Int), 0) := by unfold St.size; rw [if_pos (by decide), if_neg hdn, seenOf0]
    have hs1 : s.size 1 = ((s.s1.size : Int), 0) := by unfold St.size; rw [if_pos (by decide), if_neg hdn, seenOf1]
    have h0 := hok.s0
    have h1 := hok.s1
    unfold maxFile at h0 h1
    have hr : s.read 1 0 (s.s1.size : Int) = (s.s1, 0) := by
      unfold St.read
      rw [if_pos (by unfold rightB; exact decide_eq_true (by omega)), if_neg hdn, seenOf1, if_neg (by omega)]
      rw [show ((0 : Int)).toNat = 0 from rfl, show (0 + (s.s1.size : Int)).toNat = s.s1.size by omega]
      rw [show s.s1.extract 0 s.s1.size = s.s1 from ByteArray.extract_zero_size]
    have HC0 := Aside0.mk (size.calls gd O s 0 w0 w hD)
    have HC1 := Aside0.mk (fun w1 (h : Drawn0 w w1) => size.calls gd O s 1 w0 w1 (drawn_keep h hD))
    have HC2 := Aside0.mk (fun w1 (h : Drawn0 w w1) => read.calls gd O s 1 0 (s.s1.size : Int) w0 w1 (drawn_keep h hD))
    rw [hs0] at HC0
    rw [hs1] at HC1
    rw [hr] at HC2
    have t1 : (s.s0.size : Int).tdiv 1024 = ((s.s0.size / 1024 : Nat) : Int) := by rw [Int.tdiv_eq_ediv_of_nonneg (by omega)]; omega
    have v1 : IntKind.i64.wrap ((s.s0.size / 1024 : Nat) : Int) = ((s.s0.size / 1024 : Nat) : Int) := IntWalk.i64_in _ (by omega)
    have hmm : ∀ (w : World), (Instr.makeMap 163 none).run Try.prog w = .ok (.map (some w.heap.size)) (w.alloc (.map #[] 0)) := by
      intro w
      simp [Instr.makeMap, underlying, Try.underlying163]
    have HN := Aside0.mk hdn
    clear hB hD hok hm hdn hs0 hs1 hr
    go_enter Try.func63, Try.ntmps63
    go_upto_region 10 with (first
      | (go_at_call 129; (with_reducible refine (HC1.out _ HH1.out).mono ?_); rintro e w2 ⟨rfl, h2⟩; have HH2 := Aside0.mk (drawn0_then HH1.out h2); clear h2)
      | (go_at_call 129; (with_reducible refine HC0.out.mono ?_); rintro e w1 ⟨rfl, h1⟩; have HH1 := Aside0.mk h1; clear h1)
      | (go_at_call 123; (with_reducible refine (HC2.out _ HH2.out).mono ?_); rintro e w3 ⟨rfl, h3⟩; have HH3 := Aside0.mk (drawn0_then HH2.out h3); clear h3))
    go_upto_region 11 with ((with_reducible refine gate_dst (N := 41) rfl ?_); refine box_event ?hg (N := 41) ?hd (cs := l0cells gd (0, 0, 0, s.s0.size / 1024) w3.heap.size) (t := 167) ?hr ?_; (case hd => rfl); (case hg => rfl); (case hr => first | (go_simp; done) | (go_simp; rfl)); intro gl hgl w4 hbox hb; have HX4 := Aside0.mk hbox; have HB4 := Aside0.mk hb; have HG4 := Aside0.mk hgl; clear hgl hbox hb)
    try go_frame
    have HW3 := Aside0.mk (below_step HH3.out.below ((Below.refl w3.heap.size w3).alloc (Nat.le_refl _) (.map #[] 0)))
    have HW4 := Aside0.mk (below_step HW3.out HB4.out)
    have hmp : MapF w4 w3.heap.size 0 (idx []) := by
      have h : MapF (w3.alloc (.map #[] 0)) w3.heap.size 0 (idx []) := ⟨.map [], World.ownsMap_made _ _ _ _, fun x hx => rfl⟩
      exact h.kept ((Kept.of_below HB4.out (fun _ => False)).2 _ h.lt (fun h => h))
    have hp4 : PL0 w4 w0.heap.size gd gl (fun k => O k ∨ w.heap.size ≤ k) s (0, 0, 0, s.s0.size / 1024) 0 (idx []) := by
      have z1 : w.heap.size ≤ w3.heap.size := HH3.out.below.size
      have z2 : w3.heap.size < (w3.alloc (.map #[] 0)).heap.size := by simp
      have z3 := blk_lt HX4.out
      have z4 := hmp.lt
      have z5 : gl = (w3.alloc (.map #[] 0)).heap.size := HG4.out
      have z6 := HB.out.size
      refine ⟨fun k => O k ∧ w0.heap.size ≤ k ∧ k < w.heap.size, fun k => k = gl ∨ k = w3.heap.size, (frD _ _ _).apart ((frD _ _ _).narrow HD.out) (S := fun _ => False) (Kept.of_below HW4.out _) (fun _ _ h => h), ⟨_, HX4.out, hmp, .inl rfl, .inr rfl, by omega, by omega⟩, fun k hk => .inl hk.1, fun k hk => .inr (by rcases hk with rfl | rfl <;> omega), fun k h1 h2 => by rcases h2 with rfl | rfl <;> omega, fun k hk => ⟨hk.2.1, Nat.lt_of_lt_of_le hk.2.2 HW4.out.size⟩, fun k hk => by rcases hk with rfl | rfl <;> omega⟩
    have HP4 := Aside0.mk hp4
    have HCL := Aside0.mk (last.calls gd gl _ s (s.s0.size / 1024) 0 (idx []) s.s1 w0 w4 (below_step HB.out HW4.out) hp4 h1)
    have HLC := Aside0.mk (lastOf_c s.s1 (s.s0.size / 1024))
    have HLN := Aside0.mk (lastOf_none s.s1 (s.s0.size / 1024))
    have hop : openP s = if (lastOf s.s1 (s.s0.size / 1024)).2.1 > 0 then
        (0, s, some ⟨framesOf s.s1 (lastOf s.s1 (s.s0.size / 1024)).2.2.1, (lastOf s.s1 (s.s0.size / 1024)).2.2.1, (lastOf s.s1 (s.s0.size / 1024)).2.2.2, (lastOf s.s1 (s.s0.size / 1024)).1, (lastOf s.s1 (s.s0.size / 1024)).2.1⟩)
      else if (begin1 s (s.s0.size / 1024)).1 ≠ 0 then ((begin1 s (s.s0.size / 1024)).1, (begin1 s (s.s0.size / 1024)).2, none)
      else (0, (begin1 s (s.s0.size / 1024)).2, some ⟨[], 0, s.s0.size / 1024, 0, 1⟩) := by unfold openP; rw [if_neg HN.out]
    have HOP := Aside0.mk hop
    clear hmp hp4 hop HC0 HC1 HC2 t1 v1 hmm
    generalize lastOf s.s1 (s.s0.size / 1024) = c at HCL HLC HLN HOP
    go_upto_if 45 with (go_at_call 137; (with_reducible refine HCL.out.mono ?_); rintro e w5 ⟨rfl, h5, h6, h7⟩; have HP5 := Aside0.mk h5; have HB5 := Aside0.mk h6; have HK5 := Aside0.mk h7; clear h5 h6 h7)
    go_cut [] from 44 to 50 (fun wx => ∃ (c' : C4) (s' : St), Aside0 (PL0 wx w0.heap.size gd gl (fun k => O k ∨ w.heap.size ≤ k) s' c' 0 (idx [])) ∧ Aside0 (Below w0.heap.size w0 wx) ∧ Aside0 (Kept w wx O) ∧ Aside0 (c'.2.2.1 = 0 ∨ 64 + 1028 * c'.2.2.1 ≤ s.s1.size) ∧ Aside0 (openP s = (0, s', some ⟨framesOf s.s1 c'.2.2.1, c'.2.2.1, c'.2.2.2, c'.1, c'.2.1⟩)))
    case first =>
      have hk5 : Kept w w5 O := kept_new ((Kept.of_below HW4.out (fun k => O k ∨ w.heap.size ≤ k)).then_ HK5.out (fun k hk => .inl hk))
      have HK := Aside0.mk hk5
      clear hk5
      by_cases hc : 0 < c.2.1
      · have qc : decide (0 < c.2.1) = true := decide_eq_true hc
        have HF := Aside0.mk (HOP.out.trans (if_pos hc))
        rw [qc]
        go_wp2_with (fail)
        go_meet
        case rel => exact ⟨c, s, HP5, HB5, HK, ⟨HLC.out.1⟩, HF⟩
      · have qc : decide (0 < c.2.1) = false := decide_eq_false hc
        have hc0 : c = (0, 0, 0, s.s0.size / 1024) := HLN.out (by omega)
        subst hc0
        have hF := HOP.out.trans (if_neg hc)
        have HCB := Aside0.mk (begin.calls gd gl _ s (0, 0, 0, s.s0.size / 1024) 0 (idx []) m w0 w5 HB5.out HP5.out HOK.out (by have := HM.out; omega))
        obtain ⟨⟨bc, bs⟩, hb⟩ : ∃ r, r = begin1 s (s.s0.size / 1024) := ⟨_, rfl⟩
        simp only at HCB
        rw [← hb] at hF HCB
        clear hb hc
        by_cases he : bc = 0
        · subst he
          rw [if_neg (fun h => h rfl)] at hF
          have HF := Aside0.mk hF
          clear hF
          go_wp2_with (go_at_call 138; (with_reducible refine HCB.out.mono ?_); rintro e w6 ⟨rfl, h5, h6, h7⟩; have HP6 := Aside0.mk h5; have HB6 := Aside0.mk h6; have HK6 := Aside0.mk h7; clear h5 h6 h7)
          go_meet
          case rel => exact ⟨(0, 1, 0, s.s0.size / 1024), bs, ⟨(frPL0 _ _ _ _ _ _ _).mono HP6.out (fun k hk => hk.elim id (fun a => .inr (Nat.le_trans HK.out.1 a)))⟩, HB6, ⟨kept_new ((HK.out.mono (fun k hk => .inl hk)).then_ HK6.out (fun k hk => .inl hk))⟩, ⟨.inl rfl⟩, HF⟩
        · have qe : (bc != 0) = true := by simp [bne, beq_false he]
          rw [if_pos he] at hF
          have HF := Aside0.mk hF
          clear hF he
          go_wp2_with (go_at_call 138; (with_reducible refine HCB.out.mono ?_); rintro e w6 ⟨rfl, h5, h6, h7⟩; have HP6 := Aside0.mk h5; have HB6 := Aside0.mk h6; have HK6 := Aside0.mk h7; clear h5 h6 h7)
          go_ret2
          rw [HF.out]
          obtain ⟨O1, O2, hd, -, ho1, -⟩ := HP6.out
          exact ⟨_, rfl, HB6.out, kept_new ((HK.out.mono (fun k hk => .inl hk)).then_ HK6.out (fun k hk => .inl hk)), rfl, (frD _ _ _).mono hd (fun k hk => (ho1 k hk).elim id (fun a => .inr (Nat.le_trans HK.out.1 a)))⟩
    case rest =>
      obtain ⟨c', s', HP, HBc, HKc, HFc, HOPc⟩ := hcut
      clear HP4 HP5 HB5 HK5 HCL HLC HLN HOP HX4 HB4 HG4
      obtain ⟨bkc, hxc, hmc, -⟩ := PL0.cells HP.out
      have p4 : wc.cell? ⟨gl, 4, none⟩ = some (.int .i64 c'.2.2.1) := (blk_cell hxc 4).trans rfl
      have hF := HFc.out
      clear hxc hmc
      go_wp2_with (fail)
      clear p4
      go_loopw [56] (fun v56 wr => ∃ (j : Nat), j ≤ c'.2.2.1 ∧ v56 = .int .i64 (j : Int) ∧ Aside0 (PL0 wr w0.heap.size gd gl (fun k => O k ∨ w.heap.size ≤ k) s' c' j (idx (framesOf s.s1 j))) ∧ Aside0 (Below w0.heap.size w0 wr) ∧ Aside0 (Kept w wr O)) (fun v56 _ => c'.2.2.1 - (intOf v56).toNat)
      case atStart => exact ⟨0, Nat.zero_le _, rfl, HP, HBc, HKc⟩
      case round =>
        clear HP HBc HKc
        obtain ⟨j, hj, rfl, HR, HBr, HKr⟩ := hrel
        obtain ⟨bkr, hxr, hmr, hglr, hbkr, hbr1, hbr2⟩ := PL0.cells HR.out
        have HXR := Aside0.mk hxr
        have HMR := Aside0.mk hmr
        by_cases hlt : j < c'.2.2.1
        · have t_ : decide ((j : Int) < (c'.2.2.1 : Int)) = true := decide_eq_true (by omega)
          have hjb : 64 + 1028 * (j + 1) ≤ s.s1.size := by omega
          have HLT := Aside0.mk hlt
          have v1 : IntKind.i64.wrap ((j : Int) * 1028) = (j : Int) * 1028 := IntWalk.i64_in _ (by omega)
          have v2 : IntKind.i64.wrap (64 + (j : Int) * 1028) = 64 + (j : Int) * 1028 := IntWalk.i64_in _ (by omega)
          have v3 : IntKind.i64.wrap ((j : Int) + 1) = (j : Int) + 1 := IntWalk.i64_in _ (by omega)
          have v4 : (64 + (j : Int) * 1028).toNat = 64 + 1028 * j := by omega
          have v5 : 0 ≤ 64 + (j : Int) * 1028 := by omega
          have v6 : 64 + (j : Int) * 1028 ≤ (s.s1.size : Int) := by omega
          have p6 : wr.cell? ⟨gl, 6, none⟩ = some (.map (some bkr)) := (blk_cell hxr 6).trans rfl
          have HNE := Aside0.mk (hmr.ne hxr)
          clear hxr hmr
          go_upto_region 18 with (fail)
          have hnum := number_is (s.s1.extract (64 + 1028 * j) s.s1.size) (by rw [size_extract _ _ _ (Nat.le_refl _)]; omega)
          rw [tn_drop s.s1 (64 + 1028 * j) s.s1.size (by omega) (Nat.le_refl _)] at hnum
          have htn : tn s.s1 (64 + 1028 * j) < 4294967296 := u32_lt _ _
          obtain ⟨nm, hnm⟩ : ∃ nm, nm = tn s.s1 (64 + 1028 * j) := ⟨_, rfl⟩
          rw [← hnm] at hnum htn
          have HNM := Aside0.mk hnm
          have HNU := Aside0.mk hnum
          have HTN := Aside0.mk htn
          have hput := fun (w3_ : World) (hb : Below wr.heap.size wr w3_) => MapF.put (w := w3_) (HMR.out.kept ((Kept.of_below hb (fun _ => False)).2 bkr HMR.out.lt (fun h => h))) (show j < maxLen by unfold maxLen; omega) (x := ((nm : Nat) : Int)) (y := (j : Int) + 1) (wf_int (by omega)) (wf_int (by omega))
          have HPUT := Aside0.mk hput
          clear hnum htn hnm hput
          go_region_held3 (fun w' => w'.cell? ⟨gl, 6, none⟩ = some (.map (some bkr)) ∧ True) (first | exact ⟨p66, trivial⟩ | exact ⟨p63, trivial⟩ | exact ⟨p6, trivial⟩)
            (first
            | (go_at_call 139; (with_reducible refine (wal_number.calls (s.s1.extract (64 + 1028 * j) s.s1.size) _ _ HNU.out).mono ?_); rintro e w3_ ⟨rfl, hd3⟩; have HD3 := Aside0.mk (below_step (below_drew (Below.refl _ wr)) hd3.below); clear hd3; have HP3 := Aside0.mk ((frPL0 _ _ _ _ _ _ _).apart HR.out (S := fun _ => False) (Kept.of_below HD3.out _) (fun _ _ h => h)); have HX3 := Aside0.mk (blk_below HXR.out HD3.out); have p63 : w3_.cell? ⟨gl, 6, none⟩ = some (.map (some bkr)) := (blk_cell HX3.out 6).trans rfl; obtain ⟨w6, hrun, hm6, hg6⟩ := HPUT.out w3_ HD3.out; have HM6 := Aside0.mk hm6; have HG6 := Aside0.mk hg6; clear hm6 hg6; have p66 : w6.cell? ⟨gl, 6, none⟩ = some (.map (some bkr)) := (blk_cell (blk_grown HX3.out HG6.out (fun e => HNE.out (Option.some.inj e).symm)) 6).trans rfl))
          all_goals
            go_wp2_with (fail)
            go_roundw
            case rel =>
              have hq := HP3.out.put HX3.out HM6.out HG6.out (below_step HBr.out HD3.out)
              refine ⟨j + 1, HLT.out, by go_num, ⟨?_⟩, ⟨hq.2.1⟩, ⟨kept_new (((HKr.out.mono (fun k hk => .inl hk)).then_ (Kept.of_below HD3.out (fun k => O k ∨ w.heap.size ≤ k)) (fun k hk => .inl hk)).then_ hq.2.2 (fun k hk => .inl hk))⟩⟩
              rw [framesOf_succ, show idx (framesOf s.s1 j ++ [frameAt s.s1 j]) = fun z => if z = ((nm : Nat) : Int) then (j : Int) + 1 else idx (framesOf s.s1 j) z from funext fun z => by
                rw [idx_snoc, framesOf_len]
                show (if ((tn s.s1 (64 + 1028 * j) : Nat) : Int) = z then _ else _) = _
                rw [← HNM.out]
                by_cases e : z = ((nm : Nat) : Int)
                · rw [if_pos e.symm, if_pos e]; omega
                · rw [if_neg (fun h => e h.symm), if_neg e]]
              exact hq.1
            case measure => simp [intOf]; have := HLT.out; omega
        · obtain rfl : j = c'.2.2.1 := by omega
          clear hlt hj
          have p4 : wr.cell? ⟨gl, 4, none⟩ = some (.int .i64 c'.2.2.1) := (blk_cell hxr 4).trans rfl
          have p5 : wr.cell? ⟨gl, 5, none⟩ = some (.int .i64 c'.2.2.2) := (blk_cell hxr 5).trans rfl
          have p6 : wr.cell? ⟨gl, 6, none⟩ = some (.map (some bkr)) := (blk_cell hxr 6).trans rfl
          have hc := copied.calls bkr c'.2.2.1 (idx (framesOf s.s1 c'.2.2.1)) c'.2.2.1 c'.2.2.2 wr hmr (by omega)
          unfold pcells at hc
          have HC := Aside0.mk hc
          have HBS := Aside0.mk hbr1
          clear hc hxr hmr hglr hbkr hbr1 hbr2 hF
          go_wp2_with (go_at_call 140; (with_reducible refine HC.out.mono ?_); rintro e w7 ⟨b', rfl, hb7, hm7, hw7⟩; have HB7 := Aside0.mk hb7; have HM7 := Aside0.mk hm7; have HW7 := Aside0.mk hw7; have HX7 := Aside0.mk (blk_below HXR.out hw7); have z1 := blk_frozen HX7.out 1; have z2 := blk_frozen HX7.out 2; have z3 := blk_frozen HX7.out 3; have y1 : ∃ v, w7.cell? ⟨gl, 1, none⟩ = some v := ⟨_, (blk_cell HX7.out 1).trans rfl⟩; have y2 : ∃ v, w7.cell? ⟨gl, 2, none⟩ = some v := ⟨_, (blk_cell HX7.out 2).trans rfl⟩; have y3 : ∃ v, w7.cell? ⟨gl, 3, none⟩ = some v := ⟨_, (blk_cell HX7.out 3).trans rfl⟩; obtain ⟨x1, y1⟩ := y1; obtain ⟨x2, y2⟩ := y2; obtain ⟨x3, y3⟩ := y3; clear hm7 hw7 hb7)
          go_ret2
          rw [HOPc.out]
          have hk3 := set3_kept w7 gl 1 2 3 (.int .i64 c'.2.2.1) (.int .i64 c'.2.2.2) (.map (some b'))
          have hk8 : Kept wr (((w7.setCell ⟨gl, 1, none⟩ (.int .i64 c'.2.2.1)).setCell ⟨gl, 2, none⟩ (.int .i64 c'.2.2.2)).setCell ⟨gl, 3, none⟩ (.map (some b'))) (fun j => j = gl) := (Kept.of_below HW7.out _).then_ hk3 (fun j hj => .inl hj)
          have hfin := PL0.done HR.out hk8 HXR.out (g := ⟨framesOf s.s1 c'.2.2.1, c'.2.2.1, c'.2.2.2, c'.1, c'.2.1⟩) (b' := b')
            (by
              have h := blk_put (blk_put (blk_put HX7.out 1 (.int .i64 c'.2.2.1) rfl) 2 (.int .i64 c'.2.2.2) rfl) 3 (.map (some b')) rfl
              simp only [framesOf_len]
              exact h)
            (by
              simp only [framesOf_len]
              exact HM7.out.kept (hk3.2 b' HM7.out.lt (HM7.out.ne HX7.out)))
            (by
              simp only [show (framesOf s.s1 c'.2.2.1).take c'.2.2.1 = framesOf s.s1 c'.2.2.1 from List.take_of_length_le (by rw [framesOf_len]; exact Nat.le_refl _)]
              exact HMR.out.kept (hk8.2 bkr HMR.out.lt (HMR.out.ne HXR.out))) HB7.out
          have hbs := HBS.out
          obtain ⟨_, _, _, hgl9, _⟩ := PL0.cells HR.out
          refine ⟨_, rfl, ((((below_step HBr.out HW7.out).setCell (p := ⟨gl, 1, none⟩) hbs _).setCell (p := ⟨gl, 2, none⟩) hbs _).setCell (p := ⟨gl, 3, none⟩) hbs _), kept_new ((HKr.out.mono (fun k hk => .inl hk)).then_ hk8 (fun j hj => .inl (by rw [hj]; exact hgl9))), gl, rfl, (frPL _ _ _ _ _).mono hfin (fun k hk => hk.elim id (fun a => .inr (Nat.le_trans HKr.out.1 a)))⟩
end Go.Proofs.Ythaoaaboempajaa.Log
namespace Go.Proofs.Ythaoaaboempajaa.Log
open Go.RowKit Go.Maps Go.Proofs.Ythaoaaboempajaa.QLogRuns Go.Proofs.Ythaoaaboempajaa.QDiskRuns Go.Proofs.Ythaoaaboempajaa.Disk Go.Proofs.YthaoaaboempajaaW.PrintWords Go.Proofs.YthaoaaboempajaaW.PrintLast Go.Proofs.YthaoaaboempajaaW.PrintMore Go.Proofs.YthaoaaboempajaaX
set_option linter.unusedVariables false
set_option linter.unusedSimpArgs false
theorem info179 : (Try.prog.info? 179).map (fun i => (i.zero, i.size, i.bytes)) = some (some (.agg #[.int .i64 0, .string ⟨#[]⟩]), 2, 24) := by kernel_rfl
def kF : Kd (Nat × ByteArray) := Kd.iso (Kd.pair (Kd.int .i64) Kd.string) (fun x => (((x.1 : Nat) : Int), x.2))
theorem kF_open {w : World} {x : Nat × ByteArray} {cs : List Value} (h : kF.K w x cs) : cs = [.int .i64 (x.1 : Int), .string x.2] := by
  obtain ⟨c1, c2, rfl, h1, h2⟩ := h
  cases h1
  cases h2
  rfl
theorem kF_M {w : World} {base : Nat} {ok : Nat → Prop} (x : Nat × ByteArray) : kF.M w base ok x [.int .i64 (x.1 : Int), .string x.2] :=
  ⟨[_], [_], rfl, rfl, rfl⟩
def rlcells (gr : Nat) (x : Value) (k p sl nu : Int) : Array Value := #[.pointer (some ⟨gr, 0, none⟩), x, .int .i64 k, .int .i64 p, .int .i64 sl, .int .i64 nu]
def RL (base gl gr : Nat) (g : Lg) (w : World) (O : Nat → Prop) : Prop :=
  ∃ x, w.heap[gl]? = some (.cells (rlcells gr x g.kept g.pages g.slot g.number) 110 (0, 0)) ∧ base ≤ gl ∧ O gl ∧ kF.R 179 w base (fun k => O k ∧ k ≠ gl) x g.fr
theorem frRL (base gl gr : Nat) (g : Lg) : Fr base (RL base gl gr g) := by
  refine ⟨?_, ?_, ?_⟩
  · rintro w w' O S ⟨x, hb, hg, hO, hr⟩ hk hS
    exact ⟨x, blk_kept hb hk (hS gl hO), hg, hO, Kd.R_kept hr hk (fun k h1 => hS k h1.1)⟩
  · rintro w O O' ⟨x, hb, hg, hO, hr⟩ hS
    exact ⟨x, hb, hg, hS gl hO, Kd.R_mono hr (fun k h1 => ⟨hS k h1.1, h1.2⟩)⟩
  · rintro w O ⟨x, hb, hg, hO, hr⟩
    exact ⟨x, hb, hg, ⟨hO, hg, blk_lt hb⟩, Kd.R_mono (Kd.R_bound hr) (fun k h1 => ⟨⟨h1.1.1, h1.2.1, h1.2.2.1⟩, h1.1.2⟩)⟩
def QL (w : World) (base gr gl : Nat) (O : Nat → Prop) (s : St) (g : Lg) : Prop := Sep base (fun w O => RD w base gr O s) (RL base gl gr g) w O
theorem frQL (base gr gl : Nat) (s : St) (g : Lg) : Fr base (fun w O => QL w base gr gl O s g) := frSep (frR base gr s) (frRL base gl gr g)
structure QB (w0 w : World) (gr gl : Nat) (O : Nat → Prop) (s : St) (g : Lg) : Prop where
  hB : Below w0.heap.size w0 w
  hD : QL w w0.heap.size gr gl O s g
section
variable {w0 w w' : World} {gr gl : Nat} {O : Nat → Prop} {s s' : St} {g g' : Lg}
theorem QB.below (h : QB w0 w gr gl O s g) (hb : Below w.heap.size w w') : QB w0 w' gr gl O s g := ⟨below_step h.hB hb, (frQL _ _ _ _ _).apart h.hD (S := fun _ => False) (Kept.of_below hb _) (fun _ _ h => h)⟩
theorem QB.drew (h : QB w0 w gr gl O s g) : QB w0 w.drew gr gl O s g := h.below (below_drew (Below.refl _ w))
theorem QB.mono {O' : Nat → Prop} (h : QB w0 w gr gl O s g) (hO : ∀ k, O k → O' k) : QB w0 w gr gl O' s g := ⟨h.hB, (frQL _ _ _ _ _).mono h.hD hO⟩
theorem QB.cells (h : QB w0 w gr gl O s g) : ∃ A c, w.heap[gl]? = some (.cells (rlcells gr (.slice A g.fr.length c) g.kept g.pages g.slot g.number) 110 (0, 0)) ∧ kF.R 179 w w0.heap.size (fun k => O k ∧ k ≠ gl) (.slice A g.fr.length c) g.fr ∧ O gl ∧ w0.heap.size ≤ gl := by
  obtain ⟨O1, O2, hd, ⟨x, hb, hg, hO, hr⟩, ho1, ho2, -⟩ := h.hD
  obtain ⟨A, c, e⟩ := Kd.R_slice hr
  subst e
  exact ⟨A, c, hb, Kd.R_mono hr (fun k hk => ⟨ho2 k hk.1, hk.2⟩), ho2 _ hO, hg⟩
theorem QB.rdisk (h : QB w0 w gr gl O s g) : ∃ x2, w.heap[gr]? = some (.cells (rcells (.string s.l0) (.string s.l1) x2 s.f s.d s.c) 150 (0, 0)) := by
  obtain ⟨O1, O2, ⟨x2, hb, -⟩, -⟩ := h.hD
  exact ⟨x2, hb⟩
theorem QB.onR {f : FuncId} {args : Array Value} {V : Value} (h : QB w0 w gr gl O s g)
    (hc : ∀ O1, RD w w0.heap.size gr O1 s → Calls Try.prog f args w fun e w' => e = .returned V ∧ RD w' w0.heap.size gr (fun k => O1 k ∨ w.heap.size ≤ k) s' ∧ Below w0.heap.size w0 w' ∧ Kept w w' O1) :
    Calls Try.prog f args w fun e w' => e = .returned V ∧ QB w0 w' gr gl (fun k => O k ∨ w.heap.size ≤ k) s' g ∧ Kept w w' O := by
  obtain ⟨O1, h1, h2, h3, back⟩ := Sep.onL h.hD (frR _ _ s') (frRL _ _ _ _)
  refine (hc O1 h1).mono ?_
  rintro e w' ⟨rfl, hd, hb, hk⟩
  exact ⟨rfl, ⟨hb, (back _ hd hk).1⟩, (back _ hd hk).2⟩
theorem QB.upd (h : QB w0 w gr gl O s g) (hB : Below w0.heap.size w0 w') (hk : Kept w w' (fun j => j = gl)) (A : Option Addr) (c c' : Nat) (k p sl nu : Int)
    (hx : w.heap[gl]? = some (.cells (rlcells gr (.slice A g.fr.length c) k p sl nu) 110 (0, 0))) (n : Nat) (hn : n ≤ g.fr.length) (hf : g'.fr = g.fr.take n)
    (hx' : w'.heap[gl]? = some (.cells (rlcells gr (.slice A n c) g'.kept g'.pages g'.slot g'.number) 110 (0, 0))) : QB w0 w' gr gl O s g' := by
  obtain ⟨O1, O2, hd, ⟨x, hb, hg, hO, hr⟩, ho1, ho2, hdis, hbd1, hbd2⟩ := h.hD
  have e1 : x = .slice A g.fr.length c := by
    have e0 := hb.symm.trans hx
    injection e0 with e0
    injection e0 with e0
    have := congrArg (fun c : Array Value => c[1]?) e0
    simp [rlcells] at this
    exact this
  subst e1
  refine ⟨hB, O1, O2, (frR _ _ _).apart hd hk (fun j hj he => hdis j hj (by rw [he]; exact hO)), ⟨_, hx', hg, hO, ?_⟩, ho1, ho2, hdis, fun j hj => ⟨(hbd1 j hj).1, Nat.lt_of_lt_of_le (hbd1 j hj).2 hk.1⟩, fun j hj => ⟨(hbd2 j hj).1, Nat.lt_of_lt_of_le (hbd2 j hj).2 hk.1⟩⟩
  rw [hf]
  exact Kd.R_kept (Kd.R_take hr hn) hk (fun j hj he => hj.2 he)
end
def QR (w0 w : World) (gr gl : Nat) (O : Nat → Prop) (s : St) (g : Lg) (w' : World) : Prop := QB w0 w' gr gl (fun k => O k ∨ w.heap.size ≤ k) s g ∧ Kept w w' O
section
variable {w0 w w1 w2 : World} {gr gl : Nat} {O : Nat → Prop} {s s' : St} {g g' : Lg}
theorem QR.refl (h : QB w0 w gr gl O s g) : QR w0 w gr gl O s g w := ⟨h.mono (fun k hk => .inl hk), Kept.refl _ _⟩
theorem QR.below (h : QR w0 w gr gl O s g w1) (hb : Below w1.heap.size w1 w2) : QR w0 w gr gl O s g w2 := ⟨h.1.below hb, h.2.then_ (Kept.of_below hb O) (fun k hk => .inl hk)⟩
theorem QR.step (h : QR w0 w gr gl O s g w1) (hq : QB w0 w2 gr gl (fun k => (O k ∨ w.heap.size ≤ k) ∨ w1.heap.size ≤ k) s' g') (hk : Kept w1 w2 (fun k => O k ∨ w.heap.size ≤ k)) : QR w0 w gr gl O s' g' w2 :=
  ⟨hq.mono (fun k hk => hk.elim id (fun a => .inr (Nat.le_trans h.2.1 a))), h.2.then_ hk (fun k hk => hk)⟩
theorem QR.onR {f : FuncId} {args : Array Value} {V : Value} (h : QR w0 w gr gl O s g w1)
    (hc : ∀ O1, RD w1 w0.heap.size gr O1 s → Calls Try.prog f args w1 fun e w' => e = .returned V ∧ RD w' w0.heap.size gr (fun k => O1 k ∨ w1.heap.size ≤ k) s' ∧ Below w0.heap.size w0 w' ∧ Kept w1 w' O1) :
    Calls Try.prog f args w1 fun e w' => e = .returned V ∧ QR w0 w gr gl O s' g w' := by
  refine (h.1.onR hc).mono ?_
  rintro e w' ⟨rfl, h1, h2⟩
  exact ⟨rfl, h.step h1 h2⟩
theorem QR.onL {f : FuncId} {args : Array Value} {V : Value} (h : QR w0 w gr gl O s g w1)
    (hc : Calls Try.prog f args w1 fun e w' => e = .returned V ∧ QB w0 w' gr gl (fun k => (O k ∨ w.heap.size ≤ k) ∨ w1.heap.size ≤ k) s' g' ∧ Kept w1 w' (fun k => O k ∨ w.heap.size ≤ k)) :
    Calls Try.prog f args w1 fun e w' => e = .returned V ∧ QR w0 w gr gl O s' g' w' := by
  refine hc.mono ?_
  rintro e w' ⟨rfl, h1, h2⟩
  exact ⟨rfl, h.step h1 h2⟩
theorem QR.rdisk (h : QR w0 w gr gl O s g w1) : w1.cell? ⟨gl, 0, none⟩ = some (.pointer (some ⟨gr, 0, none⟩)) := by
  obtain ⟨A1, c1, hx1, -⟩ := h.1.cells
  exact (blk_cell hx1 0).trans rfl
end
set_option maxHeartbeats 4000000 in
theorem rpages.calls (gr gl : Nat) (O : Nat → Prop) (s : St) (g : Lg) (w0 w : World) (h : QB w0 w gr gl O s g) :
    Calls Try.prog 87 #[pv gl] w fun e w' => e = .returned (.int .i64 g.pages) ∧ w' = w := by
  obtain ⟨A, c, hx, -⟩ := h.cells
  have p5 : w.cell? ⟨gl, 3, none⟩ = some (.int .i64 g.pages) := (blk_cell hx 3).trans rfl
  clear h hx
  go_enter Try.func87, Try.ntmps87
  go_wp2_with (fail)
  go_ret
  exact ⟨rfl, rfl⟩
set_option maxHeartbeats 4000000 in
set_option maxRecDepth 100000 in
theorem rback.calls (gr gl : Nat) (O : Nat → Prop) (s : St) (g : Lg) (w0 w : World) (h : QB w0 w gr gl O s g) (hg : g.ok) :
    Calls Try.prog 82 #[pv gl] w fun e w' => e = .returned (.tuple #[]) ∧ QB w0 w' gr gl O s g.back ∧ Kept w w' O := by
  have H := Aside0.mk h
  have HG := Aside0.mk hg
  obtain ⟨A, c, hx, hr, hO, hb⟩ := h.cells
  have HX := Aside0.mk hx
  have HO := Aside0.mk (And.intro hO hb)
  obtain ⟨-, hc1, -⟩ := Kd.R_reads' hr
  have hc2 := hg.kept
  have hc3 := hg.n
  have p1 : w.cell? ⟨gl, 1, none⟩ = some (.slice A g.fr.length c) := (blk_cell hx 1).trans rfl
  have p2 : w.cell? ⟨gl, 2, none⟩ = some (.int .i64 g.kept) := (blk_cell hx 2).trans rfl
  have z1 := blk_frozen hx 1
  clear h hg hx hr hO hb
  go_enter Try.func82, Try.ntmps82
  go_upto_region 0 with (fail)
  go_region
  all_goals go_wp2_with (fail)
  go_end0
  have hk : Kept w (w.setCell ⟨gl, 1, none⟩ (.slice A g.kept c)).drew (fun j => j = gl) := (set_kept (w := w) (g := gl) (j := 1) (v := .slice A g.kept c)).then_ (Kept.drew (Kept.refl _ (fun j => j = gl))) (fun j hj => .inl hj)
  exact ⟨rfl, H.out.upd ((H.out.hB.setCell (p := ⟨gl, 1, none⟩) HO.out.2 _).drew) hk A c c g.kept g.pages g.slot g.number HX.out g.kept hc2 rfl (blk_drew (blk_put HX.out 1 (.slice A g.kept c) rfl)), hk.mono (fun j hj => by rw [hj]; exact HO.out.1)⟩
def Lg.rtell (s : St) (g : Lg) (frames pages : Nat) : Int × St × Lg :=
  let a := s.write 1 ((16 + 24 * (1 - g.slot) : Nat) : Int) (slotB (g.number % 3 + 1) frames pages)
  if a.1 ≠ 0 then (a.1, a.2, g) else
  let b := a.2.sync 1
  if b.1 ≠ 0 then (b.1, b.2, g) else (0, b.2, { g with slot := 1 - g.slot, number := g.number % 3 + 1, kept := frames, pages := pages })
set_option maxHeartbeats 8000000 in
set_option maxRecDepth 100000 in
theorem rtell.calls (gr gl : Nat) (O : Nat → Prop) (s : St) (g : Lg) (m : Nat) (fr pg : Nat) (w0 w : World) (h : QB w0 w gr gl O s g) (hok : s.ok m) (hm : m ≤ 800000000) (hg : g.ok) (hfr : fr ≤ 65536) (hpg : pg ≤ 4294967295) :
    Calls Try.prog 153 #[pv gl, .int .i64 fr, .int .i64 pg] w fun e w' => e = .returned (.int .i64 (Lg.rtell s g fr pg).1) ∧
      QB w0 w' gr gl (fun k => O k ∨ w.heap.size ≤ k) (Lg.rtell s g fr pg).2.1 (Lg.rtell s g fr pg).2.2 ∧ Kept w w' O := by
  have H := Aside0.mk h
  have HOK := Aside0.mk hok
  have HM := Aside0.mk (Nat.le_trans hm (by decide : (800000000:Nat) ≤ 1000000000))
  have HM1 := Aside0.mk (show m + 1 ≤ 1000000000 by omega)
  have hn1 := hg.number
  have hn2 := hg.slot
  obtain ⟨A, c, hx, hr, hO, hb⟩ := h.cells
  have HX := Aside0.mk hx
  have HO := Aside0.mk (And.intro hO hb)
  obtain ⟨sl, hsl⟩ : ∃ sl : Int, sl = g.slot := ⟨_, rfl⟩
  obtain ⟨nu, hnu⟩ : ∃ nu : Int, nu = g.number := ⟨_, rfl⟩
  have hat : 16 + 24 * (1 - sl) = ((16 + 24 * (1 - g.slot) : Nat) : Int) := by omega
  obtain ⟨r1, hr1⟩ : ∃ r, r = s.write 1 (16 + 24 * (1 - sl)) (slotB (g.number % 3 + 1) fr pg) := ⟨_, rfl⟩
  obtain ⟨r2, hr2⟩ : ∃ r, r = r1.2.sync 1 := ⟨_, rfl⟩
  have hT : Lg.rtell s g fr pg = if r1.1 ≠ 0 then (r1.1, r1.2, g) else if r2.1 ≠ 0 then (r2.1, r2.2, g) else (0, r2.2, { g with slot := 1 - g.slot, number := g.number % 3 + 1, kept := fr, pages := pg }) := by
    unfold Lg.rtell
    simp only
    rw [← hat, ← hr1, ← hr2]
  have HT := Aside0.mk hT
  have htx := slot_is (g.number % 3 + 1) fr pg (by omega) (by omega) (by omega) 5 (Nat.le_refl _)
  rw [show ((g.number % 3 + 1 : Nat) : Int) = nu % 3 + 1 by omega] at htx
  obtain ⟨tx, etx⟩ : ∃ tx, tx = slotB (g.number % 3 + 1) fr pg := ⟨_, rfl⟩
  rw [← etx] at htx hr1
  have HTX := Aside0.mk htx
  have HR1 := Aside0.mk hr1
  have HR2 := Aside0.mk hr2
  have OK1 := Aside0.mk (show r1.2.ok (m + 1) by rw [hr1]; exact hok.write _ _ _)
  have d_ : nu.tmod 3 = nu % 3 := Int.tmod_eq_emod_of_nonneg (by omega)
  have v1 : IntKind.i64.wrap (1 - sl) = 1 - sl := IntWalk.i64_in _ (by omega)
  have v2 : IntKind.i64.wrap (nu % 3 + 1) = nu % 3 + 1 := IntWalk.i64_in _ (by omega)
  have v3 : IntKind.i64.wrap (nu % 3) = nu % 3 := IntWalk.i64_in _ (by omega)
  have v4 : IntKind.i64.wrap (24 * (1 - sl)) = 24 * (1 - sl) := IntWalk.i64_in _ (by omega)
  have v5 : IntKind.i64.wrap (16 + 24 * (1 - sl)) = 16 + 24 * (1 - sl) := IntWalk.i64_in _ (by omega)
  rw [← hsl, ← hnu] at hx
  have p4 : w.cell? ⟨gl, 4, none⟩ = some (.int .i64 sl) := (blk_cell hx 4).trans rfl
  have p5 : w.cell? ⟨gl, 5, none⟩ = some (.int .i64 nu) := (blk_cell hx 5).trans rfl
  have HSL := Aside0.mk hsl
  have HNU := Aside0.mk hnu
  clear h hok hm hg hx hr hO hb hsl hnu hat hr1 hr2 hT htx etx
  go_enter Try.func153, Try.ntmps153
  go_upto_region 1 with (fail)
  go_quiet (fail)
  have T1 := Aside0.mk ((QR.refl H.out).below (pw_below_drewN (Below.refl _ w) nq))
  generalize w.drewN nq = w1 at T1 ⊢
  clear p4 p5 HX
  go_upto_region 2 with (fail)
  go_region_held3 (fun w' => w'.cell? ⟨gl, 0, none⟩ = some (pv gr) ∧ True) (first | exact ⟨T3.out.rdisk, trivial⟩ | exact ⟨T2.out.rdisk, trivial⟩ | exact ⟨(T1.out.below (below_drew (Below.refl _ w1))).rdisk, trivial⟩)
    (first
    | (have T2_ := Aside0.mk T2.out; go_at_call 126; have hcw := T2.out.onR (s' := (s.write 1 (16 + 24 * (1 - sl)) tx).2) (fun O1 h1 => rwrite.calls gr O1 s 1 (16 + 24 * (1 - sl)) tx m w0 _ T2.out.1.hB h1 HOK.out HM.out); rw [← HR1.out] at hcw; (with_reducible refine hcw.mono ?_); rintro e w4 ⟨rfl, hd⟩; have T3 := Aside0.mk hd; clear hd hcw)
    | (have T2 := Aside0.mk (T1.out.below (below_drew (Below.refl _ w1))); go_at_call 179; (with_reducible refine (relstoreref_slot.calls 5 (nu % 3 + 1) fr pg tx _ HTX.out).mono ?_); rintro e3 w3 ⟨rfl, hb3⟩; replace T2 := Aside0.mk ((T1.out.below (below_drew (Below.refl _ w1))).below hb3); clear hb3))
  go_upto_region 3 with (fail)
  clear T2 T2_
  by_cases e1 : r1.1 = 0
  · have q1 : (r1.1 == 0) = true := by rw [e1]; rfl
    have hT := HT.out
    rw [if_neg (fun h => h e1)] at hT
    have p0 := T3.out.rdisk
    have HC := T3.out.onR (s' := r2.2) (V := .int .i64 r2.1) (fun O1 h1 => by
      have h := rsync.calls gr O1 r1.2 1 (m + 1) w0 w4 T3.out.1.hB h1 OK1.out HM1.out
      rw [← HR2.out] at h
      exact h)
    have HCC := Aside0.mk HC
    clear HC e1
    by_cases e2 : r2.1 = 0
    · rw [if_neg (fun h => h e2), ← e2] at hT
      have HF := Aside0.mk hT
      have q2 : (r2.1 == 0) = true := by rw [e2]; rfl
      clear hT e2
      go_upto_region 5 with (go_at_call 132; (with_reducible refine HCC.out.mono ?_); rintro e w5 ⟨rfl, hd⟩; have T5 := Aside0.mk hd; clear hd)
      obtain ⟨A5, c5, hx5, hr5, hO5, hb5⟩ := T5.out.1.cells
      have HX5 := Aside0.mk hx5
      have HB5 := Aside0.mk hb5
      have HO5 := Aside0.mk hO5
      have y2 : ∃ v, w5.cell? ⟨gl, 2, none⟩ = some v := ⟨_, (blk_cell hx5 2).trans rfl⟩
      have y3 : ∃ v, w5.cell? ⟨gl, 3, none⟩ = some v := ⟨_, (blk_cell hx5 3).trans rfl⟩
      have y4 : ∃ v, w5.cell? ⟨gl, 4, none⟩ = some v := ⟨_, (blk_cell hx5 4).trans rfl⟩
      have y5 : ∃ v, w5.cell? ⟨gl, 5, none⟩ = some v := ⟨_, (blk_cell hx5 5).trans rfl⟩
      obtain ⟨x2, y2⟩ := y2
      obtain ⟨x3, y3⟩ := y3
      obtain ⟨x4, y4⟩ := y4
      obtain ⟨x5, y5⟩ := y5
      have z2 := blk_frozen hx5 2
      have z3 := blk_frozen hx5 3
      have z4 := blk_frozen hx5 4
      have z5 := blk_frozen hx5 5
      clear hx5 hr5 hO5 hb5
      go_wp2_with (fail)
      go_ret
      rw [HF.out]
      have hk : Kept w5 ((((w5.setCell ⟨gl, 4, none⟩ (.int .i64 (1 - sl))).setCell ⟨gl, 5, none⟩ (.int .i64 (nu % 3 + 1))).setCell ⟨gl, 2, none⟩ (.int .i64 fr)).setCell ⟨gl, 3, none⟩ (.int .i64 pg)) (fun j => j = gl) :=
        (((set_kept (w := w5) (g := gl) (j := 4) (v := .int .i64 (1 - sl))).then_ (set_kept (g := gl) (j := 5) (v := .int .i64 (nu % 3 + 1))) (fun j hj => .inl hj)).then_ (set_kept (g := gl) (j := 2) (v := .int .i64 fr)) (fun j hj => .inl hj)).then_ (set_kept (g := gl) (j := 3) (v := .int .i64 pg)) (fun j hj => .inl hj)
      have hB := (((T5.out.1.hB.setCell (p := ⟨gl, 4, none⟩) HB5.out (.int .i64 (1 - sl))).setCell (p := ⟨gl, 5, none⟩) HB5.out (.int .i64 (nu % 3 + 1))).setCell (p := ⟨gl, 2, none⟩) HB5.out (.int .i64 fr)).setCell (p := ⟨gl, 3, none⟩) HB5.out (.int .i64 pg)
      refine ⟨rfl, T5.out.1.upd hB hk A5 c5 c5 _ _ _ _ HX5.out g.fr.length (Nat.le_refl _) List.take_length.symm ?_, T5.out.2.then_ hk (fun j hj => .inl (by rw [hj]; exact HO.out.1))⟩
      rw [show (((1 - g.slot : Nat)) : Int) = 1 - sl by have := HSL.out; omega, show ((g.number % 3 + 1 : Nat) : Int) = nu % 3 + 1 by have := HNU.out; omega]
      exact blk_put (blk_put (blk_put (blk_put HX5.out 4 (.int .i64 (1 - sl)) rfl) 5 (.int .i64 (nu % 3 + 1)) rfl) 2 (.int .i64 fr) rfl) 3 (.int .i64 pg) rfl
    · rw [if_pos e2] at hT
      have HF := Aside0.mk hT
      have q2 : (r2.1 == 0) = false := beq_false e2
      clear hT e2
      go_wp2_with (go_at_call 132; (with_reducible refine HCC.out.mono ?_); rintro e w5 ⟨rfl, hd⟩; have T5 := Aside0.mk hd; clear hd)
      go_ret
      rw [HF.out]
      exact ⟨rfl, T5.out⟩
  · have q1 : (r1.1 == 0) = false := beq_false e1
    have HF := Aside0.mk (HT.out.trans (if_pos e1))
    clear e1
    go_wp2_with (fail)
    go_ret
    rw [HF.out]
    exact ⟨rfl, T3.out⟩
end Go.Proofs.Ythaoaaboempajaa.Log
namespace Go.Proofs.Ythaoaaboempajaa.Log
open Go.RowKit Go.Maps Go.Proofs.Ythaoaaboempajaa.QLogRuns Go.Proofs.Ythaoaaboempajaa.QDiskRuns Go.Proofs.Ythaoaaboempajaa.Disk Go.Proofs.YthaoaaboempajaaW.PrintWords Go.Proofs.YthaoaaboempajaaW.PrintLast Go.Proofs.YthaoaaboempajaaW.PrintMore Go.Proofs.YthaoaaboempajaaX
set_option linter.unusedVariables false
set_option linter.unusedSimpArgs false
theorem in_range (n a b : Int) : relstoreref_in.f n a b = some (decide (a ≤ n ∧ n ≤ b)) := by
  unfold relstoreref_in.f
  by_cases h : n ≥ a
  · rw [if_pos h]; congr 1; rw [decide_eq_decide]; omega
  · rw [if_neg h, decide_eq_false (by omega)]
theorem QB.newrow {w0 w w' : World} {gr gl : Nat} {O : Nat → Prop} {s : St} {g g' : Lg} {x x' : Value} {k p sl nu : Int} (h : QB w0 w gr gl O s g) (hB : Below w0.heap.size w0 w') (hk : Kept w w' (fun j => j = gl))
    (hx : w.heap[gl]? = some (.cells (rlcells gr x k p sl nu) 110 (0, 0))) (hx' : w'.heap[gl]? = some (.cells (rlcells gr x' g'.kept g'.pages g'.slot g'.number) 110 (0, 0)))
    (hr : kF.R 179 w' w0.heap.size (fun k => w.heap.size ≤ k) x' g'.fr) : QB w0 w' gr gl (fun k => O k ∨ w.heap.size ≤ k) s g' := by
  obtain ⟨O1, O2, hd, ⟨x0, hb, hg, hO, hr0⟩, ho1, ho2, hdis, hbd1, hbd2⟩ := h.hD
  have hgl := blk_lt hb
  refine ⟨hB, O1, fun j => (O2 j ∨ w.heap.size ≤ j) ∧ j < w'.heap.size, (frR _ _ _).apart hd hk (fun j hj he => hdis j hj (by rw [he]; exact hO)), ⟨x', hx', hg, ⟨.inl hO, blk_lt hx'⟩, ?_⟩, fun j hj => .inl (ho1 j hj), fun j hj => hj.1.imp (ho2 j) id, fun j h1 h2 => h2.1.elim (hdis j h1) (Nat.not_le.mpr (hbd1 j h1).2), fun j hj => ⟨(hbd1 j hj).1, Nat.lt_of_lt_of_le (hbd1 j hj).2 hk.1⟩, fun j hj => ⟨hj.1.elim (fun h => (hbd2 j h).1) (fun h => Nat.le_trans (Nat.le_trans hg (Nat.le_of_lt hgl)) h), hj.2⟩⟩
  exact Kd.R_mono (Kd.R_bound hr) (fun j hj => ⟨⟨.inr hj.1, hj.2.2.1⟩, fun he => by rw [he] at hj; exact absurd hgl (Nat.not_lt.mpr hj.1)⟩)
set_option maxHeartbeats 8000000 in
set_option maxRecDepth 100000 in
theorem rappend.calls (gr gl : Nat) (O : Nat → Prop) (s : St) (g : Lg) (m : Nat) (n : Int) (t : ByteArray) (w0 w : World) (h : QB w0 w gr gl O s g) (hok : s.ok m) (hm : m ≤ 900000000) (hg : g.ok)
    (hn : -9223372036854775808 ≤ n ∧ n < 9223372036854775808) :
    Calls Try.prog 80 #[pv gl, .int .i64 n, .string t] w fun e w' => e = .returned (.int .i64 (Lg.append s g n t).1) ∧ QR w0 w gr gl O (Lg.append s g n t).2.1 (Lg.append s g n t).2.2 w' := by
  have H := Aside0.mk h
  have HOK := Aside0.mk hok
  have HM := Aside0.mk (Nat.le_trans hm (by decide : (900000000:Nat) ≤ 1000000000))
  have HG := Aside0.mk hg
  by_cases hbad : n < 0 ∨ n ≥ 2147483648 ∨ t.size ≠ 1024
  · have HS := Aside0.mk (show Lg.append s g n t = (1, s, g) by unfold Lg.append; rw [if_pos hbad])
    by_cases hin : 0 ≤ n ∧ n ≤ 2147483647
    · have h3 : t.size ≠ 1024 := by omega
      have q3 : ((t.size : Int) == 1024) = false := beq_false (by omega)
      have q3' : ((t.size : Int) != 1024) = true := by simp [bne, q3]
      have HIN := Aside0.mk (show relstoreref_in.f n 0 2147483647 = some true by rw [in_range, decide_eq_true hin])
      clear hbad hin h hok hm hg hn h3
      go_enter Try.func80, Try.ntmps80
      go_wp2_with (go_at_call 105; (with_reducible refine (relstoreref_in.calls n 0 2147483647 true _ HIN.out).mono ?_); rintro e2 w2 ⟨rfl, hd2⟩; have HW2 := Aside0.mk hd2.below; clear hd2)
      go_ret
      rw [HS.out]
      exact ⟨rfl, (QR.refl H.out).below HW2.out⟩
    · have HIN := Aside0.mk (show relstoreref_in.f n 0 2147483647 = some false by rw [in_range, decide_eq_false hin])
      clear hbad hin h hok hm hg hn
      go_enter Try.func80, Try.ntmps80
      go_wp2_with (go_at_call 105; (with_reducible refine (relstoreref_in.calls n 0 2147483647 false _ HIN.out).mono ?_); rintro e2 w2 ⟨rfl, hd2⟩; have HW2 := Aside0.mk hd2.below; clear hd2)
      go_ret
      rw [HS.out]
      exact ⟨rfl, (QR.refl H.out).below HW2.out⟩
  · obtain ⟨k, rfl⟩ : ∃ k : Nat, n = (k : Int) := ⟨n.toNat, by omega⟩
    have hk : k < 2147483648 := by omega
    have ht : t.size = 1024 := by omega
    have HIN := Aside0.mk (show relstoreref_in.f (k : Int) 0 2147483647 = some true by rw [in_range, decide_eq_true (by omega)])
    have HK := Aside0.mk hk
    have HT := Aside0.mk ht
    have q3 : ((t.size : Int) == 1024) = true := by rw [ht]; rfl
    have q3' : ((t.size : Int) != 1024) = false := by simp [bne, q3]
    have hlen := hg.n
    have w1_ : IntKind.i64.wrap (1028 * (g.fr.length : Int)) = 1028 * (g.fr.length : Int) := IntWalk.i64_in _ (by omega)
    have w2_ : IntKind.i64.wrap (64 + 1028 * (g.fr.length : Int)) = 64 + 1028 * (g.fr.length : Int) := IntWalk.i64_in _ (by omega)
    have w3_ : IntKind.i64.wrap (64 + 1028 * (g.fr.length : Int) + 1028) = 64 + 1028 * (g.fr.length : Int) + 1028 := IntWalk.i64_in _ (by omega)
    by_cases hlarge : 64 + 1028 * g.fr.length + 1028 > 67108864
    · have HS := Aside0.mk (show Lg.append s g (k : Int) t = (8, s, g) by unfold Lg.append; rw [if_neg hbad, if_pos hlarge])
      have d_ : decide (64 + 1028 * (g.fr.length : Int) + 1028 > 67108864) = true := decide_eq_true (by omega)
      have d2_ : decide (67108864 < 64 + 1028 * (g.fr.length : Int) + 1028) = true := decide_eq_true (by omega)
      clear h hok hm hg hbad hk ht hlen hlarge hn
      go_enter Try.func80, Try.ntmps80
      go_upto_region 3 with (go_at_call 105; (with_reducible refine (relstoreref_in.calls (k : Int) 0 2147483647 true _ HIN.out).mono ?_); rintro e2 w2 ⟨rfl, hd2⟩; have T2 := Aside0.mk ((QR.refl H.out).below hd2.below); clear hd2)
      obtain ⟨A, c, hx, -⟩ := T2.out.1.cells
      have p1 : w2.cell? ⟨gl, 1, none⟩ = some (.slice A g.fr.length c) := (blk_cell hx 1).trans rfl
      clear hx
      go_wp2_with (fail)
      go_ret
      rw [HS.out]
      exact ⟨rfl, T2.out⟩
    · have d_ : decide (64 + 1028 * (g.fr.length : Int) + 1028 > 67108864) = false := decide_eq_false (by omega)
      have d2_ : decide (67108864 < 64 + 1028 * (g.fr.length : Int) + 1028) = false := decide_eq_false (by omega)
      have HLG := Aside0.mk hlarge
      have e4 : (fourB k).size + t.size = 1028 := by rw [size_four, ht]
      have hby := bytes_is k (by omega) 5 (Nat.le_refl _)
      have hs : Lg.append s g (k : Int) t = if (s.write 1 ((64 + 1028 * g.fr.length : Nat) : Int) (fourB k ++ t)).1 = 0 then (0, (s.write 1 ((64 + 1028 * g.fr.length : Nat) : Int) (fourB k ++ t)).2, { g with fr := g.fr ++ [(k, t)] }) else ((s.write 1 ((64 + 1028 * g.fr.length : Nat) : Int) (fourB k ++ t)).1, (s.write 1 ((64 + 1028 * g.fr.length : Nat) : Int) (fourB k ++ t)).2, g) := by
        unfold Lg.append
        rw [if_neg hbad, if_neg hlarge, Int.toNat_natCast]
      rw [show ((64 + 1028 * g.fr.length : Nat) : Int) = 64 + 1028 * (g.fr.length : Int) by omega] at hs
      obtain ⟨fk, hfk⟩ : ∃ fk, fk = fourB k := ⟨_, rfl⟩
      rw [← hfk] at hs hby e4
      have HBY := Aside0.mk hby
      have sz1 : ¬ (9223372036854775807 < fk.size + t.size) := by omega
      have sz2 : (9223372036854775807 < fk.size + t.size) = False := eq_false sz1
      obtain ⟨r, hr⟩ : ∃ r, r = s.write 1 (64 + 1028 * (g.fr.length : Int)) (fk ++ t) := ⟨_, rfl⟩
      rw [← hr] at hs
      have HR := Aside0.mk hr
      have HS := Aside0.mk hs
      have HLEN := Aside0.mk hlen
      clear h hok hm hg hbad hk ht hlen hlarge hn e4 hfk hr hs hby
      go_enter Try.func80, Try.ntmps80
      go_upto_region 3 with (go_at_call 105; (with_reducible refine (relstoreref_in.calls (k : Int) 0 2147483647 true _ HIN.out).mono ?_); rintro e2 w2 ⟨rfl, hd2⟩; have T2 := Aside0.mk ((QR.refl H.out).below hd2.below); clear hd2)
      obtain ⟨A, c, hx, -⟩ := T2.out.1.cells
      have p1 : w2.cell? ⟨gl, 1, none⟩ = some (.slice A g.fr.length c) := (blk_cell hx 1).trans rfl
      clear hx
      go_upto_region 6 with (fail)
      clear p1
      go_region_held3 (fun w' => w'.cell? ⟨gl, 0, none⟩ = some (pv gr) ∧ True) (first | exact ⟨T4.out.rdisk, trivial⟩ | exact ⟨T3.out.rdisk, trivial⟩ | exact ⟨(T2.out.below (below_drew (Below.refl _ w2))).rdisk, trivial⟩)
        (first
        | (have T3_ := Aside0.mk T3.out; go_at_call 126; have hcw := T3.out.onR (s' := (s.write 1 (64 + 1028 * (g.fr.length : Int)) (fk ++ t)).2) (fun O1 h1 => rwrite.calls gr O1 s 1 (64 + 1028 * (g.fr.length : Int)) (fk ++ t) m w0 _ T3.out.1.hB h1 HOK.out HM.out); rw [← HR.out] at hcw; (with_reducible refine hcw.mono ?_); rintro e w4 ⟨rfl, hd⟩; have T4 := Aside0.mk hd; clear hd hcw)
        | (have T3 := Aside0.mk (T2.out.below (below_drew (Below.refl _ w2))); go_at_call 106; (with_reducible refine (relstoreref_bytes.calls 5 (IntKind.u64.wrap (k : Int)) 4 fk _ HBY.out).mono ?_); rintro e3 w3 ⟨rfl, hb3⟩; replace T3 := Aside0.mk ((T2.out.below (below_drew (Below.refl _ w2))).below hb3); clear hb3))
      go_upto_region 7 with (fail)
      clear T3 T3_
      by_cases e1 : r.1 = 0
      · have HF := Aside0.mk (HS.out.trans (if_pos e1))
        have q1 : (r.1 != 0) = false := by rw [e1]; rfl
        clear e1
        obtain ⟨A4, c4, hx4, hr4, hO4, hb4⟩ := T4.out.1.cells
        have HX4 := Aside0.mk hx4
        have HR4 := Aside0.mk hr4
        have HO4 := Aside0.mk (And.intro hO4 hb4)
        have p1 : w4.cell? ⟨gl, 1, none⟩ = some (.slice A4 g.fr.length c4) := (blk_cell hx4 1).trans rfl
        clear hx4 hr4 hO4 hb4
        go_upto_region 9 with (fail)
        have HRC := Aside0.mk (Kd.R_reads' HR4.out).2.2
        have HBS := Aside0.mk (below_size T4.out.1.hB)
        have hln := HLEN.out
        go_wp2_with (first
          | ((with_reducible refine gate_builtin (b := .append) (xs := #[.const (.slice none 0 0), .tmp 45]) rfl ?_); at_builtin; refine Kd.R_append_rows kF (Rr := kF.K w4) (W := w4) (w0 := w0) w0.heap.size rfl _ _ 108 179 (.agg #[.int .i64 0, .string ⟨#[]⟩]) 24 rfl Try.underlying108 info179 rfl (by decide) (by omega) (.slice none 0 0) [] g.fr A4 g.fr.length c4 (fun k => w4.heap.size ≤ k) (fun _ => False) rfl rfl (Kd.R_nil _ _ _ _ _) HRC.out (fun x cs h => by rw [kF_open h]; exact kF_M x) (fun _ hk => hk.elim) (fun k hk => hk) T4.out.1.hB HBS.out (by simp; omega) ?_; intro v1 w5 ho hb hgr hat; obtain ⟨A5, c5, e5⟩ := Kd.R_slice ho; rw [List.nil_append] at e5 ho; subst e5; have HO5 := Aside0.mk ho; have HB5 := Aside0.mk hb; have HK5 := Aside0.mk (show Kept w4 w5 (fun _ => False) from Kept.of_grown hgr (Kept.refl w4 _) (fun k hk => by cases hk)); have HX5 := Aside0.mk (blk_grown HX4.out hgr (by intro h; cases h)); clear ho hb hgr hat)
          | ((with_reducible refine gate_builtin (b := .append) (xs := #[.tmp 46, .tmp 50]) rfl ?_); at_builtin; refine Kd.R_append kF (w0 := w0) w0.heap.size rfl (.tmp 46) (.tmp 50) 108 179 (.agg #[.int .i64 0, .string ⟨#[]⟩]) 24 rfl Try.underlying108 info179 rfl (by decide) (by omega) (.slice A5 g.fr.length c5) g.fr (k, t) _ (fun k => w4.heap.size ≤ k) (fun _ => False) rfl rfl ?aP (fun _ hk => hk.elim) ?aF ?aO ?aB ?aS ?aL ?_; (case aP => exact kF_M (k, t)); (case aB => exact HB5.out); (case aF => exact (fun k hk => Nat.le_trans HK5.out.1 hk)); (case aO => exact HO5.out); (case aS => exact below_size HB5.out); (case aL => omega); intro v1 w6 ho hb hgr hat; obtain ⟨A6, c6, e6⟩ := Kd.R_slice ho; rw [List.length_append, List.length_singleton] at e6; subst e6; have HO6 := Aside0.mk ho; have HB6 := Aside0.mk hb; have HG6 := Aside0.mk hgr; have HX6 := Aside0.mk (blk_grown HX5.out hgr (Kd.R_away HO5.out (fun k hk he => by rw [he] at hk; exact absurd (blk_lt HX4.out) (Nat.not_lt.mpr hk)))); have z6 := blk_frozen HX6.out 1; have y6 : ∃ v, w6.cell? ⟨gl, 1, none⟩ = some v := ⟨_, (blk_cell HX6.out 1).trans rfl⟩; obtain ⟨x6, y6⟩ := y6; clear ho hb hgr hat))
        go_ret
        rw [HF.out]
        refine ⟨rfl, ?_⟩
        · have hK6 : Kept w4 w6 (fun j => j = gl) := Kept.of_grown HG6.out (HK5.out.mono (fun _ h => h.elim)) (fun j hj => .inr (HO5.out.1 j hj))
          have hK7 := hK6.then_ (set_kept (w := w6) (g := gl) (j := 1) (v := .slice A6 (g.fr.length + 1) c6)) (fun j hj => .inl hj)
          have hq := T4.out.1.newrow (g' := { g with fr := g.fr ++ [(k, t)] }) (HB6.out.setCell (p := ⟨gl, 1, none⟩) HO4.out.2 _) hK7 HX4.out (x' := .slice A6 (g.fr.length + 1) c6) (blk_put HX6.out 1 _ rfl) (Kd.R_far HO6.out (fun j hj he => by rw [he] at hj; exact absurd (blk_lt HX4.out) (Nat.not_lt.mpr hj)) _)
          exact T4.out.step hq (hK7.mono (fun j hj => by rw [hj]; exact HO4.out.1))
      · have HF := Aside0.mk (HS.out.trans (if_neg e1))
        have q1 : (r.1 != 0) = true := by simp [bne, beq_false e1]
        clear e1
        go_wp2_with (fail)
        go_ret
        rw [HF.out]
        exact ⟨rfl, T4.out⟩
def rrTell (f p : Nat) (s : St) (g : Lg) : Run := ⟨(Lg.rtell s g f p).1, (Lg.rtell s g f p).2.1, (Lg.rtell s g f p).2.2⟩
def Lg.rcommit (s : St) (g : Lg) (n : Int) (t : ByteArray) (p : Int) : Run :=
  if p < 1 ∨ p > 65536 then ⟨1, s, g⟩ else
  ((rAppend n t s g).andThen (rSync 1)).andThen (fun s g => rrTell g.fr.length p.toNat s g)
set_option maxHeartbeats 8000000 in
set_option maxRecDepth 100000 in
theorem rcommit.calls (gr gl : Nat) (O : Nat → Prop) (s : St) (g : Lg) (m : Nat) (n : Int) (t : ByteArray) (p : Int) (w0 w : World) (h : QB w0 w gr gl O s g) (hok : s.ok m) (hm : m ≤ 700000000) (hg : g.ok)
    (hn : -9223372036854775808 ≤ n ∧ n < 9223372036854775808) :
    Calls Try.prog 81 #[pv gl, .int .i64 n, .string t, .int .i64 p] w fun e w' => e = .returned (.int .i64 (Lg.rcommit s g n t p).c) ∧ QR w0 w gr gl O (Lg.rcommit s g n t p).s (Lg.rcommit s g n t p).g w' := by
  have H := Aside0.mk h
  by_cases hp : p < 1 ∨ p > 65536
  · have HS := Aside0.mk (show Lg.rcommit s g n t p = ⟨1, s, g⟩ by unfold Lg.rcommit; rw [if_pos hp])
    have HIN := Aside0.mk (show relstoreref_in.f p 1 65536 = some false by rw [in_range, decide_eq_false (by omega)])
    clear h hok hm hg hn hp
    go_enter Try.func81, Try.ntmps81
    go_wp2_with (go_at_call 105; (with_reducible refine (relstoreref_in.calls p 1 65536 false _ HIN.out).mono ?_); rintro e2 w2 ⟨rfl, hd2⟩; have T2 := Aside0.mk ((QR.refl H.out).below hd2.below); clear hd2)
    go_ret
    rw [HS.out]
    exact ⟨rfl, T2.out⟩
  · obtain ⟨pn, rfl⟩ : ∃ k : Nat, p = (k : Int) := ⟨p.toNat, by omega⟩
    have HIN := Aside0.mk (show relstoreref_in.f (pn : Int) 1 65536 = some true by rw [in_range, decide_eq_true (by omega)])
    obtain ⟨rA, hrA⟩ : ∃ r, r = rAppend n t s g := ⟨_, rfl⟩
    obtain ⟨rB, hrB⟩ : ∃ r, r = rSync 1 rA.s rA.g := ⟨_, rfl⟩
    obtain ⟨rC, hrC⟩ : ∃ r, r = rrTell rB.g.fr.length pn rB.s rB.g := ⟨_, rfl⟩
    have hS : Lg.rcommit s g n t (pn : Int) = if rA.c ≠ 0 then rA else if rB.c ≠ 0 then rB else rC := by
      unfold Lg.rcommit
      rw [if_neg hp, Int.toNat_natCast]
      have eB : (rA.andThen (rSync 1)) = if rA.c ≠ 0 then rA else rB := by rw [hrB]; rfl
      rw [← hrA, eB]
      unfold Run.andThen
      by_cases e1 : rA.c = 0 <;> by_cases e2 : rB.c = 0 <;> simp [e1, e2, hrC]
    have gokA : rA.g.ok := by rw [hrA]; exact hg.append s n t
    have gB : rB.g = rA.g := by rw [hrB]; rfl
    have okA : rA.s.ok (m + 1) := by rw [hrA]; exact St.ok.appended hok g n t
    have okB : rB.s.ok (m + 2) := by rw [hrB]; exact okA.sync 1
    have CA := Aside0.mk (fun w1 (hq : QR w0 w gr gl O s g w1) => hq.onL (s' := rA.s) (g' := rA.g) (V := .int .i64 rA.c) (by
      have h := rappend.calls gr gl _ s g m n t w0 w1 hq.1 hok (by omega) hg hn
      rw [show rA.c = (Lg.append s g n t).1 by rw [hrA]; rfl, show rA.s = (Lg.append s g n t).2.1 by rw [hrA]; rfl, show rA.g = (Lg.append s g n t).2.2 by rw [hrA]; rfl]
      exact h))
    have CB := Aside0.mk (fun w1 (hq : QR w0 w gr gl O rA.s rA.g w1) => hq.onR (s' := rB.s) (V := .int .i64 rB.c) (fun O1 h1 => by
      have h := rsync.calls gr O1 rA.s 1 (m + 1) w0 w1 hq.1.hB h1 okA (by omega)
      rw [show rB.c = (rA.s.sync 1).1 by rw [hrB]; rfl, show rB.s = (rA.s.sync 1).2 by rw [hrB]; rfl]
      exact h))
    have CC := Aside0.mk (fun w1 (hq : QR w0 w gr gl O rB.s rA.g w1) => hq.onL (s' := rC.s) (g' := rC.g) (V := .int .i64 rC.c) (f := 153) (args := #[pv gl, .int .i64 rA.g.fr.length, .int .i64 pn]) (by
      have h := rtell.calls gr gl _ rB.s rA.g (m + 2) rA.g.fr.length pn w0 w1 hq.1 okB (by omega) gokA (by have := gokA.n; omega) (by omega)
      rw [hrC, gB]
      exact h))
    have HS := Aside0.mk hS
    have GB := Aside0.mk gB
    clear h hok hm hg hn hp hrA hrB hrC hS gokA gB okA okB
    go_enter Try.func81, Try.ntmps81
    go_upto_region 4 with (first
      | (go_at_call 105; (with_reducible refine (relstoreref_in.calls (pn : Int) 1 65536 true _ HIN.out).mono ?_); rintro e2 w2 ⟨rfl, hd2⟩; have T2 := Aside0.mk ((QR.refl H.out).below hd2.below); clear hd2)
      | (go_at_call 80; (with_reducible refine (CA.out _ T2.out).mono ?_); rintro e3 w3 ⟨rfl, hq⟩; have T3 := Aside0.mk hq; clear hq))
    by_cases e1 : rA.c = 0
    · have q1 : (rA.c == 0) = true := by rw [e1]; rfl
      have hS1 := HS.out
      rw [if_neg (fun h => h e1)] at hS1
      have p0 := T3.out.rdisk
      have HCB := Aside0.mk (CB.out _ T3.out)
      clear e1
      by_cases e2 : rB.c = 0
      · rw [if_neg (fun h => h e2)] at hS1
        have HF := Aside0.mk hS1
        have q2 : (rB.c == 0) = true := by rw [e2]; rfl
        clear e2 hS1
        go_upto_region 6 with (go_at_call 132; (with_reducible refine HCB.out.mono ?_); rintro e w5 ⟨rfl, hd⟩; have T5 := Aside0.mk (show QR w0 w gr gl O rB.s rA.g w5 from hd); clear hd)
        obtain ⟨A5, c5, hx5, -⟩ := T5.out.1.cells
        have p1 : w5.cell? ⟨gl, 1, none⟩ = some (.slice A5 rA.g.fr.length c5) := (blk_cell hx5 1).trans rfl
        have HCC := Aside0.mk (CC.out _ T5.out)
        clear hx5
        go_wp2_with (go_at_call 153; (with_reducible refine HCC.out.mono ?_); rintro e w6 ⟨rfl, hd⟩; have T6 := Aside0.mk hd; clear hd)
        go_ret
        rw [HF.out]
        exact ⟨rfl, T6.out⟩
      · rw [if_pos e2] at hS1
        have HF := Aside0.mk hS1
        have q2 : (rB.c == 0) = false := beq_false e2
        clear e2 hS1
        go_wp2_with (go_at_call 132; (with_reducible refine HCB.out.mono ?_); rintro e w5 ⟨rfl, hd⟩; have T5 := Aside0.mk (show QR w0 w gr gl O rB.s rA.g w5 from hd); clear hd)
        go_ret
        rw [HF.out, GB.out]
        exact ⟨rfl, T5.out⟩
    · have q1 : (rA.c == 0) = false := beq_false e1
      have HF := Aside0.mk (HS.out.trans (if_pos e1))
      clear e1
      go_wp2_with (fail)
      go_ret
      rw [HF.out]
      exact ⟨rfl, T3.out⟩
end Go.Proofs.Ythaoaaboempajaa.Log
namespace Go.Proofs.Ythaoaaboempajaa.Log
open Go.RowKit Go.Maps Go.Proofs.Ythaoaaboempajaa.QLogRuns Go.Proofs.Ythaoaaboempajaa.QDiskRuns Go.Proofs.Ythaoaaboempajaa.Disk Go.Proofs.YthaoaaboempajaaW.PrintWords Go.Proofs.YthaoaaboempajaaW.PrintLast Go.Proofs.YthaoaaboempajaaW.PrintMore Go.Proofs.YthaoaaboempajaaX
set_option linter.unusedVariables false
set_option linter.unusedSimpArgs false
def noF : Nat × ByteArray := (0, ByteArray.empty)
def frD_ (fr : List (Nat × ByteArray)) (i : Nat) : Nat × ByteArray := fr.getD i noF
theorem at_F {w : World} {A : Option Addr} {n : Nat} {ws : List (Nat × ByteArray)} (h : kF.C w A n ws) (i : Nat) (h1 : i < n) : ∃ ad, A = some ad ∧ w.cell? (ad.add (i * 2)) = some (.int .i64 ((frD_ ws i).1 : Int)) ∧
    w.cell? ⟨(ad.add (i * 2)).block, (ad.add (i * 2)).off + 1, none⟩ = some (.string (frD_ ws i).2) := by
  obtain ⟨ad, c, e, _, hK, hc0⟩ := Kd.C_get h noF (i : Int) (by omega) (by omega)
  rw [Int.toNat_natCast] at hK hc0
  have hc : ∀ j u, c[j]? = some u → w.cell? (ad.add (i * 2 + j)) = some u := hc0
  obtain rfl := kF_open hK
  exact ⟨ad, e, hc 0 _ rfl, by rw [← add_field _ _ 1 (by omega)]; exact hc 1 _ rfl⟩
theorem take_succ_F {ws : List (Nat × ByteArray)} {j : Nat} (h : j < ws.length) : ws.take (j + 1) = ws.take j ++ [frD_ ws j] := by
  rw [List.take_succ_eq_append_getElem h]
  congr 2
  unfold frD_
  rw [List.getD_eq_getElem?_getD, List.getElem?_eq_getElem h, Option.getD_some]
theorem idx_take {fr : List (Nat × ByteArray)} {j : Nat} (h : j < fr.length) (x : Int) : idx (fr.take (j + 1)) x = if ((frD_ fr j).1 : Int) = x then ((j + 1 : Nat) : Int) else idx (fr.take j) x := by
  rw [take_succ_F h, idx_snoc, List.length_take, Nat.min_eq_left (Nat.le_of_lt h)]
def textAt (fr : List (Nat × ByteArray)) (i : Int) : ByteArray := (frD_ fr (i.toNat - 1)).2
def Lg.rread (s : St) (g : Lg) (n : Int) : ByteArray × Int :=
  if n < 0 ∨ n ≥ 2147483648 then (ByteArray.empty, 1)
  else if s.d = true then (ByteArray.empty, 2)
  else if idx g.fr n > 0 then (textAt g.fr (idx g.fr n), 0)
  else if n ≥ (s.s0.size : Int) / 1024 then (ByteArray.empty, 7)
  else (s.s0.extract (1024 * n).toNat (1024 * n + 1024).toNat, 0)
theorem QB.seen0 {w0 w : World} {gr gl : Nat} {O : Nat → Prop} {s : St} {g : Lg} {m : Nat} (h : QB w0 w gr gl O s g) (hok : s.ok m) (hm : m ≤ 900000000) :
    Calls Try.prog 136 #[pv gr, .int .i64 0] w fun e w' => e = .returned (.string s.s0) ∧ Below w.heap.size w w' := by
  obtain ⟨O1, O2, h1, -⟩ := h.hD
  exact seen.calls0 gr O1 s m w0.heap.size w h1 hok (by omega)
set_option maxHeartbeats 8000000 in
set_option maxRecDepth 100000 in
theorem rread_.calls (gr gl : Nat) (O : Nat → Prop) (s : St) (g : Lg) (m : Nat) (n : Int) (w0 w : World) (h : QB w0 w gr gl O s g) (hok : s.ok m) (hm : m ≤ 900000000) (hg : g.ok) :
    Calls Try.prog 78 #[pv gl, .int .i64 n] w fun e w' => e = .returned (.tuple #[.string (Lg.rread s g n).1, .int .i64 (Lg.rread s g n).2]) ∧ Below w.heap.size w w' := by
  have H := Aside0.mk h
  by_cases hbad : n < 0 ∨ n ≥ 2147483648
  · have HS := Aside0.mk (show Lg.rread s g n = (ByteArray.empty, 1) by unfold Lg.rread; rw [if_pos hbad])
    have HIN := Aside0.mk (show relstoreref_in.f n 0 2147483647 = some false by rw [in_range, decide_eq_false (by omega)])
    clear hbad h hok hm hg
    go_enter Try.func78, Try.ntmps78
    go_wp2_with (go_at_call 105; (with_reducible refine (relstoreref_in.calls n 0 2147483647 false _ HIN.out).mono ?_); rintro e2 w2 ⟨rfl, hd2⟩; have HW2 := Aside0.mk hd2.below; clear hd2)
    go_ret2
    rw [HS.out]
    exact ⟨rfl, HW2.out⟩
  · have HIN := Aside0.mk (show relstoreref_in.f n 0 2147483647 = some true by rw [in_range, decide_eq_true (by omega)])
    by_cases hdn : s.d = true
    · have HS := Aside0.mk (show Lg.rread s g n = (ByteArray.empty, 2) by unfold Lg.rread; rw [if_neg hbad, if_pos hdn])
      have HDN := Aside0.mk hdn
      clear hbad h hok hm hg hdn
      go_enter Try.func78, Try.ntmps78
      go_upto_region 3 with (go_at_call 105; (with_reducible refine (relstoreref_in.calls n 0 2147483647 true _ HIN.out).mono ?_); rintro e2 w2 ⟨rfl, hd2⟩; have HW2 := Aside0.mk hd2.below; have T2 := Aside0.mk (H.out.below hd2.below); clear hd2)
      obtain ⟨x2, hx2⟩ := T2.out.rdisk
      obtain ⟨A2, c2, hl2, -⟩ := T2.out.cells
      have p0 : w2.cell? ⟨gl, 0, none⟩ = some (pv gr) := (blk_cell hl2 0).trans rfl
      have p4 : w2.cell? ⟨gr, 4, none⟩ = some (.bool true) := by rw [← HDN.out]; exact (blk_cell hx2 4).trans rfl
      clear hx2 hl2
      go_wp2_with (fail)
      go_ret2
      rw [HS.out]
      exact ⟨rfl, HW2.out⟩
    · have hdn : s.d = false := by simpa using hdn
      have HDN := Aside0.mk hdn
      have hS : Lg.rread s g n = if idx g.fr n > 0 then (textAt g.fr (idx g.fr n), 0) else if n ≥ (s.s0.size : Int) / 1024 then (ByteArray.empty, 7) else (s.s0.extract (1024 * n).toNat (1024 * n + 1024).toNat, 0) := by
        unfold Lg.rread
        rw [if_neg hbad, if_neg (by rw [hdn]; decide)]
      have HS := Aside0.mk hS
      have HLEN := Aside0.mk hg.n
      have HNB := Aside0.mk hbad
      have HSZ := Aside0.mk hok.s0
      have HC := Aside0.mk (fun (w1 : World) (hb : Below w.heap.size w w1) => (H.out.below hb).seen0 hok hm)
      clear hbad h hok hm hg hdn hS
      go_enter Try.func78, Try.ntmps78
      go_upto_region 3 with (go_at_call 105; (with_reducible refine (relstoreref_in.calls n 0 2147483647 true _ HIN.out).mono ?_); rintro e2 w2 ⟨rfl, hd2⟩; have HW2 := Aside0.mk hd2.below; have T2 := Aside0.mk (H.out.below hd2.below); clear hd2)
      obtain ⟨x2, hx2⟩ := T2.out.rdisk
      obtain ⟨A2, c2, hl2, hr2, -⟩ := T2.out.cells
      have p0 : w2.cell? ⟨gl, 0, none⟩ = some (pv gr) := (blk_cell hl2 0).trans rfl
      have p4 : w2.cell? ⟨gr, 4, none⟩ = some (.bool false) := by rw [← HDN.out]; exact (blk_cell hx2 4).trans rfl
      have p1 : w2.cell? ⟨gl, 1, none⟩ = some (.slice A2 g.fr.length c2) := (blk_cell hl2 1).trans rfl
      have HRC := Aside0.mk (Kd.R_reads' hr2).2.2
      clear hx2 hl2 hr2
      have hlen := HLEN.out
      have v1 : IntKind.i64.wrap ((g.fr.length : Int) - 1) = (g.fr.length : Int) - 1 := IntWalk.i64_in _ (by omega)
      go_wp2_with (fail)
      go_loopw [6] (fun v4 wr => ∃ (j : Nat), j ≤ g.fr.length ∧ v4 = .int .i64 ((j : Int) - 1) ∧ wr = w2 ∧ Aside0 (idx g.fr n = idx (g.fr.take j) n)) (fun v4 _ => (intOf v4 + 1).toNat)
      case atStart => exact ⟨g.fr.length, Nat.le_refl _, rfl, rfl, ⟨by rw [List.take_length]⟩⟩
      case round =>
        obtain ⟨j, hj, rfl, rfl, HI⟩ := hrel
        cases j with
        | zero =>
          have HZ := Aside0.mk (show Lg.rread s g n = if n ≥ (s.s0.size : Int) / 1024 then (ByteArray.empty, 7) else (s.s0.extract (1024 * n).toNat (1024 * n + 1024).toNat, 0) by rw [HS.out, if_neg (by rw [HI.out, List.take_zero, idx_nil]; decide)])
          clear HI p1
          rw [show ((0 : Nat) : Int) - 1 = -1 from rfl]
          go_upto_region 11 with (go_at_call 136; (with_reducible refine (HC.out _ HW2.out).mono ?_); rintro e3 w3 ⟨rfl, hb3⟩; have HW3 := Aside0.mk (below_step HW2.out hb3); clear hb3)
          have hsz := HSZ.out
          unfold maxFile at hsz
          have v2 : IntKind.i64.wrap ((s.s0.size : Int) / 1024) = (s.s0.size : Int) / 1024 := IntWalk.i64_in _ (by omega)
          have v3 : (s.s0.size : Int).tdiv 1024 = (s.s0.size : Int) / 1024 := Int.tdiv_eq_ediv_of_nonneg (by omega)
          by_cases hmi : n ≥ (s.s0.size : Int) / 1024
          · have d_ : decide ((s.s0.size : Int) / 1024 ≤ n) = true := decide_eq_true hmi
            have HF := Aside0.mk (HZ.out.trans (if_pos hmi))
            clear hmi
            go_wp2_with (fail)
            go_ret2
            rw [HF.out]
            exact ⟨rfl, HW3.out⟩
          · have d_ : decide ((s.s0.size : Int) / 1024 ≤ n) = false := decide_eq_false hmi
            have HF := Aside0.mk (HZ.out.trans (if_neg hmi))
            have hnb := HNB.out
            have v4 : IntKind.i64.wrap (1024 * n) = 1024 * n := IntWalk.i64_in _ (by omega)
            have v5 : IntKind.i64.wrap (1024 * n + 1024) = 1024 * n + 1024 := IntWalk.i64_in _ (by omega)
            have v6 : 0 ≤ 1024 * n := by omega
            have v7 : 1024 * n ≤ 1024 * n + 1024 := by omega
            have v8 : 1024 * n + 1024 ≤ (s.s0.size : Int) := by omega
            clear hmi hnb
            go_wp2_with (fail)
            go_ret2
            rw [HF.out]
            exact ⟨rfl, HW3.out⟩
        | succ i =>
          rw [show ((i + 1 : Nat) : Int) - 1 = (i : Int) by omega]
          have hir : i < g.fr.length := by omega
          obtain ⟨ad, hA, f0, f1⟩ := at_F HRC.out i hir
          subst hA
          have hlen := HLEN.out
          have v2 : IntKind.i64.wrap ((i : Int) - 1) = (i : Int) - 1 := IntWalk.i64_in _ (by omega)
          have hix := idx_take hir n
          rw [← HI.out] at hix
          by_cases he : ((frD_ g.fr i).1 : Int) = n
          · rw [if_pos he] at hix
            have HF := Aside0.mk (show Lg.rread s g n = ((frD_ g.fr i).2, 0) by
              rw [HS.out, hix, if_pos (by omega)]
              unfold textAt
              rw [show ((((i + 1 : Nat) : Int)).toNat - 1) = i by omega])
            have q_ : (((frD_ g.fr i).1 : Int) == n) = true := beq_iff_eq.mpr he
            generalize frD_ g.fr i = ch at f0 f1 q_ HF
            clear he hix
            go_wp2_with (fail)
            go_ret2
            rw [HF.out]
            exact ⟨rfl, HW2.out⟩
          · rw [if_neg he] at hix
            have q_ : (((frD_ g.fr i).1 : Int) == n) = false := beq_false he
            have HI2 := Aside0.mk hix
            generalize frD_ g.fr i = ch at f0 f1 q_
            clear he hix
            go_wp2_with (fail)
            go_roundw
            case rel => exact ⟨i, by omega, by go_num, by trivial, HI2⟩
            case measure => simp [intOf]
end Go.Proofs.Ythaoaaboempajaa.Log
namespace Go.Proofs.Ythaoaaboempajaa.Log
open Go.RowKit Go.Maps Go.Proofs.Ythaoaaboempajaa.QLogRuns Go.Proofs.Ythaoaaboempajaa.QDiskRuns Go.Proofs.Ythaoaaboempajaa.Disk Go.Proofs.YthaoaaboempajaaW.PrintWords Go.Proofs.YthaoaaboempajaaW.PrintLast Go.Proofs.YthaoaaboempajaaW.PrintMore Go.Proofs.YthaoaaboempajaaX
set_option linter.unusedVariables false
set_option linter.unusedSimpArgs false
def rmove1 (g : Lg) (n : Nat) (s : St) : Int × St :=
  if idx g.fr n = 0 then (0, s) else if s.d = true then (2, s) else s.write 0 (1024 * (n : Int)) (textAt g.fr (idx g.fr n))
def rmoveN (g : Lg) : Nat → St → Int × St
  | 0, s => (0, s)
  | k + 1, s => if (rmoveN g k s).1 ≠ 0 then rmoveN g k s else rmove1 g k (rmoveN g k s).2
theorem rmoveN_succ {g : Lg} {k : Nat} {s : St} (h : (rmoveN g k s).1 = 0) : rmoveN g (k + 1) s = rmove1 g k (rmoveN g k s).2 := by
  rw [rmoveN, if_neg (fun e => e h)]
theorem rmoveN_stop {g : Lg} {j : Nat} {s : St} (h : (rmoveN g j s).1 ≠ 0) : ∀ d, rmoveN g (j + d) s = rmoveN g j s
  | 0 => rfl
  | d + 1 => by
    have ih := rmoveN_stop h d
    rw [show j + (d + 1) = (j + d) + 1 by omega, rmoveN, ih, if_pos h]
theorem rmoveN_stop_le {g : Lg} {j K : Nat} {s : St} (h : (rmoveN g j s).1 ≠ 0) (hk : j ≤ K) : rmoveN g K s = rmoveN g j s := by
  have := rmoveN_stop h (K - j)
  rwa [show j + (K - j) = K by omega] at this
theorem rmove1_ok {s : St} {m : Nat} (h : s.ok m) (g : Lg) (n : Nat) : (rmove1 g n s).2.ok (m + (if idx g.fr (n : Int) = 0 then 0 else 1)) := by
  unfold rmove1
  split
  · exact h.mono (by omega)
  · split
    · exact h.mono (by omega)
    · exact h.write _ _ _
theorem rmoveN_ok {s : St} {m : Nat} (h : s.ok m) (g : Lg) : ∀ k, (rmoveN g k s).2.ok (m + hits g.fr k)
  | 0 => h
  | k + 1 => by
    have ih := rmoveN_ok h g k
    rw [rmoveN]
    unfold hits
    split
    · exact ih.mono (by omega)
    · exact (rmove1_ok ih g k).mono (by omega)
def Lg.rcheckpoint (s : St) (g : Lg) : Run :=
  if g.fr.length ≠ g.kept then ⟨11, s, g⟩
  else if g.kept = 0 then ⟨0, s, g⟩
  else if (rmoveN g g.pages s).1 ≠ 0 then ⟨(rmoveN g g.pages s).1, (rmoveN g g.pages s).2, g⟩
  else
    let r := ((rCut 0 (1024 * (g.pages : Int)) (rmoveN g g.pages s).2 g).andThen (rSync 0)).andThen (rrTell 0 g.pages)
    if r.c = 0 then { r with g := { r.g with fr := [] } } else r
set_option maxHeartbeats 8000000 in
set_option maxRecDepth 100000 in
theorem rcheckpoint.calls (gr gl : Nat) (O : Nat → Prop) (s : St) (g : Lg) (m : Nat) (w0 w : World) (h : QB w0 w gr gl O s g) (hok : s.ok m) (hm : m ≤ 700000000) (hg : g.ok) :
    Calls Try.prog 83 #[pv gl] w fun e w' => e = .returned (.int .i64 (Lg.rcheckpoint s g).c) ∧ QR w0 w gr gl O (Lg.rcheckpoint s g).s (Lg.rcheckpoint s g).g w' := by
  have H := Aside0.mk h
  have HOK := Aside0.mk hok
  have HM := Aside0.mk hm
  have HG := Aside0.mk hg
  have hN := hg.n
  have hK := hg.kept
  have hP := hg.pages
  obtain ⟨A, c, hx, -⟩ := h.cells
  have HX := Aside0.mk hx
  have p1 : w.cell? ⟨gl, 1, none⟩ = some (.slice A g.fr.length c) := (blk_cell hx 1).trans rfl
  have p2 : w.cell? ⟨gl, 2, none⟩ = some (.int .i64 g.kept) := (blk_cell hx 2).trans rfl
  clear h hok hm hg hx
  by_cases h1 : g.fr.length = g.kept
  · have n1 : ((g.fr.length : Int) != (g.kept : Int)) = false := by rw [h1]; simp [bne]
    by_cases h2 : g.kept = 0
    · have HS := Aside0.mk (show Lg.rcheckpoint s g = ⟨0, s, g⟩ by unfold Lg.rcheckpoint; rw [if_neg (fun h => h h1), if_pos h2])
      have n2 : ((g.kept : Int) == 0) = true := by rw [h2]; rfl
      clear h1 h2
      go_enter Try.func83, Try.ntmps83
      go_upto_region 1 with (fail)
      go_quiet (fail)
      have T1 := Aside0.mk ((QR.refl H.out).below (pw_below_drewN (Below.refl _ w) nq))
      have p2b : (w.drewN nq).cell? ⟨gl, 2, none⟩ = some (.int .i64 g.kept) := p2
      generalize w.drewN nq = w1 at T1 p2b ⊢
      clear p1 p2
      go_wp2_with (fail)
      go_ret
      rw [HS.out]
      exact ⟨rfl, T1.out⟩
    · have n2 : ((g.kept : Int) == 0) = false := beq_false (by omega)
      have hS : Lg.rcheckpoint s g = if (rmoveN g g.pages s).1 ≠ 0 then ⟨(rmoveN g g.pages s).1, (rmoveN g g.pages s).2, g⟩ else
          (let r := ((rCut 0 (1024 * (g.pages : Int)) (rmoveN g g.pages s).2 g).andThen (rSync 0)).andThen (rrTell 0 g.pages)
           if r.c = 0 then { r with g := { r.g with fr := [] } } else r) := by unfold Lg.rcheckpoint; rw [if_neg (fun h => h h1), if_neg h2]
      have HS := Aside0.mk hS
      have H12 := Aside0.mk (And.intro h1 h2)
      clear hS h2 h1
      go_enter Try.func83, Try.ntmps83
      go_upto_region 1 with (fail)
      go_quiet (fail)
      have T1 := Aside0.mk ((QR.refl H.out).below (pw_below_drewN (Below.refl _ w) nq))
      have p2b : (w.drewN nq).cell? ⟨gl, 2, none⟩ = some (.int .i64 g.kept) := p2
      generalize w.drewN nq = w1 at T1 p2b ⊢
      clear p1 p2
      go_wp2_with (fail)
      clear p2b
      go_loopw [3] (fun v3 wr => ∃ (j : Nat), j ≤ g.pages ∧ v3 = .int .i64 (j : Int) ∧ Aside0 ((rmoveN g j s).1 = 0) ∧ Aside0 (QR w0 w gr gl O (rmoveN g j s).2 g wr)) (fun v3 _ => g.pages - (intOf v3).toNat)
      case atStart => exact ⟨0, Nat.zero_le _, rfl, ⟨rfl⟩, T1⟩
      case round =>
        obtain ⟨j, hj, rfl, HZ, HR⟩ := hrel
        obtain ⟨A1, c1, hx1, hr1, hO1, -⟩ := HR.out.1.cells
        have HX1 := Aside0.mk hx1
        have HRC := Aside0.mk (Kd.R_reads' hr1).2.2
        have p3 : wr.cell? ⟨gl, 3, none⟩ = some (.int .i64 g.pages) := (blk_cell hx1 3).trans rfl
        by_cases hlt : j < g.pages
        · have t_ : decide ((j : Int) < (g.pages : Int)) = true := decide_eq_true (by omega)
          have t2_ : (j : Int) < (g.pages : Int) := by omega
          have HSU := Aside0.mk (rmoveN_succ HZ.out)
          have OKJ := Aside0.mk (rmoveN_ok HOK.out g j)
          have p2 : wr.cell? ⟨gl, 2, none⟩ = some (.int .i64 g.kept) := (blk_cell hx1 2).trans rfl
          have p1 : wr.cell? ⟨gl, 1, none⟩ = some (.slice A1 g.fr.length c1) := (blk_cell hx1 1).trans rfl
          have p0 : wr.cell? ⟨gl, 0, none⟩ = some (pv gr) := (blk_cell hx1 0).trans rfl
          clear hx1 hr1
          have HM1 : (rmoveN g (j + 1) s).1 ≠ 0 → rmoveN g g.pages s = rmoveN g (j + 1) s := fun h => rmoveN_stop_le h (by omega)
          have HSTOP := Aside0.mk HM1
          clear HM1
          have HLT := Aside0.mk hlt
          have OM := Aside0.mk (show m + hits g.fr j ≤ 1000000000 by have := HM.out; have := hits_le g.fr j; omega)
          obtain ⟨sj, hsj⟩ : ∃ sj, sj = (rmoveN g j s).2 := ⟨_, rfl⟩
          rw [← hsj] at HR HSU OKJ
          have HSJ := Aside0.mk hsj
          clear hsj
          have v1 : IntKind.i64.wrap ((g.kept : Int) - 1) = (g.kept : Int) - 1 := IntWalk.i64_in _ (by omega)
          obtain ⟨x2, hx2⟩ := HR.out.1.rdisk
          have q4 : wr.cell? ⟨gr, 4, none⟩ = some (.bool sj.d) := (blk_cell hx2 4).trans rfl
          clear hx2
          rw [← H12.out.1] at p2 v1
          go_wp2_with (fail)
          go_loopw [4] (fun v4 wi => ∃ (i : Nat), i ≤ g.fr.length ∧ v4 = .int .i64 ((i : Int) - 1) ∧ wi = wr ∧ Aside0 (idx g.fr (j : Int) = idx (g.fr.take i) (j : Int))) (fun v4 _ => (intOf v4 + 1).toNat)
          case atStart => exact ⟨g.fr.length, Nat.le_refl _, rfl, rfl, ⟨by rw [List.take_length]⟩⟩
          case round =>
            obtain ⟨i, hi, rfl, rfl, HI⟩ := hrel
            cases i with
            | zero =>
              rw [show ((0 : Nat) : Int) - 1 = -1 from rfl]
              have HMV := Aside0.mk (HSU.out.trans (show rmove1 g j sj = (0, sj) by unfold rmove1; rw [if_pos (by rw [HI.out, List.take_zero, idx_nil])]))
              clear HI
              go_wp2_with (fail)
              go_roundw
              case rel => exact ⟨j + 1, by have := HLT.out; omega, by go_num, ⟨by rw [HMV.out]⟩, ⟨by rw [HMV.out]; exact HR.out⟩⟩
              case measure => simp [intOf]; omega
            | succ i =>
              rw [show ((i + 1 : Nat) : Int) - 1 = (i : Int) by omega]
              have hir : i < g.fr.length := by omega
              obtain ⟨ad, hA, f0, f1⟩ := at_F HRC.out i hir
              subst hA
              have v2 : IntKind.i64.wrap ((i : Int) - 1) = (i : Int) - 1 := IntWalk.i64_in _ (by omega)
              have hix := idx_take hir (j : Int)
              rw [← HI.out] at hix
              by_cases he : ((frD_ g.fr i).1 : Int) = (j : Int)
              · rw [if_pos he] at hix
                have q_ : (((frD_ g.fr i).1 : Int) == (j : Int)) = true := beq_iff_eq.mpr he
                have hmv : rmove1 g j sj = if sj.d = true then (2, sj) else sj.write 0 (1024 * (j : Int)) (frD_ g.fr i).2 := by
                  unfold rmove1
                  rw [hix, if_neg (by omega)]
                  unfold textAt
                  rw [show ((((i + 1 : Nat) : Int)).toNat - 1) = i by omega]
                generalize frD_ g.fr i = ch at f0 f1 q_ hmv
                clear he hix
                by_cases hd : sj.d = true
                · rw [if_pos hd] at hmv
                  rw [hd] at q4
                  have HMV := Aside0.mk (HSU.out.trans hmv)
                  have HF := Aside0.mk (show Lg.rcheckpoint s g = ⟨2, sj, g⟩ by rw [HS.out, HSTOP.out (by rw [HMV.out]; simp), HMV.out, if_pos (by simp)])
                  clear hd hmv
                  go_wp2_with (fail)
                  go_ret
                  rw [HF.out]
                  exact ⟨rfl, HR.out⟩
                · rw [if_neg hd] at hmv
                  rw [show sj.d = false by simpa using hd] at q4
                  have hwr := show ∃ r, r = sj.write 0 (1024 * (j : Int)) ch.2 from ⟨_, rfl⟩
                  obtain ⟨⟨wc_, sw⟩, hwr⟩ := hwr
                  rw [← hwr] at hmv
                  have HMV := Aside0.mk (HSU.out.trans hmv)
                  have v3 : IntKind.i64.wrap (1024 * (j : Int)) = 1024 * (j : Int) := IntWalk.i64_in _ (by omega)
                  have hcw := fun w1 (hq : QR w0 w gr gl O sj g w1) => hq.onR (s' := sw) (V := .int .i64 wc_) (fun O1 h1 => by
                    have h := rwrite.calls gr O1 sj 0 (1024 * (j : Int)) ch.2 _ w0 w1 hq.1.hB h1 OKJ.out OM.out
                    rw [← hwr] at h
                    exact h)
                  have HCW := Aside0.mk hcw
                  clear hd hmv hwr hcw
                  by_cases hw : wc_ = 0
                  · subst hw
                    go_upto_region 14 with (fail)
                    go_region_law (first
                      | (refine goes_ Try.func126 (by kernel_rfl) rfl #[pv gr, .int .i64 0, .int .i64 (1024 * (j : Int)), .string ch.2] (by rfl) rfl rfl (by (try simp only [List.map_toArray, List.map_cons, List.map_nil]); first | done | rfl) ?_; refine (HCW.out _ (HR.out.below (below_drew (Below.refl _ wr)))).mono ?_; rintro e w4 ⟨rfl, h4⟩; refine ⟨_, rfl, ?_⟩; have T4 := Aside0.mk h4; clear h4))
                    all_goals
                      go_wp2_with (fail)
                      go_roundw
                      case rel => exact ⟨j + 1, by have := HLT.out; omega, by go_num, ⟨by rw [HMV.out]⟩, ⟨by rw [HMV.out]; exact T4.out⟩⟩
                      case measure => simp [intOf]; omega
                  · have qw : (wc_ != 0) = true := by simp [bne, beq_false hw]
                    have HF := Aside0.mk (show Lg.rcheckpoint s g = ⟨wc_, sw, g⟩ by rw [HS.out, HSTOP.out (by rw [HMV.out]; exact hw), HMV.out, if_pos hw])
                    clear hw
                    go_upto_region 14 with (fail)
                    go_region_law (first
                      | (refine goes_ Try.func126 (by kernel_rfl) rfl #[pv gr, .int .i64 0, .int .i64 (1024 * (j : Int)), .string ch.2] (by rfl) rfl rfl (by (try simp only [List.map_toArray, List.map_cons, List.map_nil]); first | done | rfl) ?_; refine (HCW.out _ (HR.out.below (below_drew (Below.refl _ wr)))).mono ?_; rintro e w4 ⟨rfl, h4⟩; refine ⟨_, rfl, ?_⟩; have T4 := Aside0.mk h4; clear h4))
                    all_goals
                      go_wp2_with (fail)
                      go_ret
                      rw [HF.out]
                      exact ⟨rfl, T4.out⟩
              · rw [if_neg he] at hix
                have q_ : (((frD_ g.fr i).1 : Int) == (j : Int)) = false := beq_false he
                have HI2 := Aside0.mk hix
                generalize frD_ g.fr i = ch at f0 f1 q_
                clear he hix
                go_wp2_with (fail)
                go_roundw
                case rel => exact ⟨i, by omega, by go_num, by trivial, HI2⟩
                case measure => simp [intOf]
        · obtain rfl : j = g.pages := by omega
          clear hlt hj
          have OKP := Aside0.mk (rmoveN_ok HOK.out g g.pages)
          have OM := Aside0.mk (show m + hits g.fr g.pages ≤ 790000000 by have := HM.out; have := hits_le g.fr g.pages; omega)
          have hS := HS.out
          rw [if_neg (fun h => h HZ.out)] at hS
          obtain ⟨sP, hsP⟩ : ∃ sP, sP = (rmoveN g g.pages s).2 := ⟨_, rfl⟩
          rw [← hsP] at HR OKP hS
          obtain ⟨mP, hmP⟩ : ∃ mP, mP = m + hits g.fr g.pages := ⟨_, rfl⟩
          rw [← hmP] at OKP OM
          obtain ⟨rA, hrA⟩ : ∃ r, r = rCut 0 (1024 * (g.pages : Int)) sP g := ⟨_, rfl⟩
          obtain ⟨rB, hrB⟩ : ∃ r, r = rSync 0 rA.s rA.g := ⟨_, rfl⟩
          obtain ⟨rC, hrC⟩ : ∃ r, r = rrTell 0 g.pages rB.s rB.g := ⟨_, rfl⟩
          have hS2 : Lg.rcheckpoint s g = if rA.c ≠ 0 then rA else if rB.c ≠ 0 then rB else if rC.c ≠ 0 then rC else { rC with g := { rC.g with fr := [] } } := by
            have eB : (rA.andThen (rSync 0)) = if rA.c ≠ 0 then rA else rB := by rw [hrB]; rfl
            rw [hS, ← hrA, eB]
            unfold Run.andThen
            by_cases e1 : rA.c = 0 <;> by_cases e2 : rB.c = 0 <;> simp [e1, e2, ← hrC]
          have gA : rA.g = g := by rw [hrA]; rfl
          have gB : rB.g = g := by rw [hrB]; exact gA
          have okA : rA.s.ok (mP + 1) := by rw [hrA]; exact OKP.out.cutTo _ _
          have okB : rB.s.ok (mP + 2) := by rw [hrB]; exact okA.sync 0
          have v3 : IntKind.i64.wrap (1024 * (g.pages : Int)) = 1024 * (g.pages : Int) := IntWalk.i64_in _ (by omega)
          have p0 : wr.cell? ⟨gl, 0, none⟩ = some (pv gr) := (blk_cell hx1 0).trans rfl
          have CA := Aside0.mk (fun w1 (hq : QR w0 w gr gl O sP g w1) => hq.onR (s' := rA.s) (V := .int .i64 rA.c) (fun O1 h1 => by
            have h := rcut.calls gr O1 sP 0 (1024 * (g.pages : Int)) mP w0 w1 hq.1.hB h1 OKP.out (by have := OM.out; omega)
            rw [show rA.c = (sP.cutTo 0 (1024 * (g.pages : Int))).1 by rw [hrA]; rfl, show rA.s = (sP.cutTo 0 (1024 * (g.pages : Int))).2 by rw [hrA]; rfl]
            exact h))
          have CB := Aside0.mk (fun w1 (hq : QR w0 w gr gl O rA.s g w1) => hq.onR (s' := rB.s) (V := .int .i64 rB.c) (fun O1 h1 => by
            have h := rsync.calls gr O1 rA.s 0 (mP + 1) w0 w1 hq.1.hB h1 okA (by have := OM.out; omega)
            rw [show rB.c = (rA.s.sync 0).1 by rw [hrB]; rfl, show rB.s = (rA.s.sync 0).2 by rw [hrB]; rfl]
            exact h))
          have CC := Aside0.mk (fun w1 (hq : QR w0 w gr gl O rB.s g w1) => hq.onL (s' := rC.s) (g' := rC.g) (V := .int .i64 rC.c) (f := 153) (args := #[pv gl, .int .i64 0, .int .i64 g.pages]) (by
            have h := rtell.calls gr gl _ rB.s g (mP + 2) 0 g.pages w0 w1 hq.1 okB (by have := OM.out; omega) HG.out (by omega) HG.out.pages
            rw [hrC, gB]
            exact h))
          have HS2 := Aside0.mk hS2
          have GA := Aside0.mk gA
          have GB := Aside0.mk gB
          clear hx1 hr1 hO1 hS hS2 hrA hrB hrC gA gB okA okB hsP hmP HZ
          have held : ∀ {w1 : World} {s1 : St}, QR w0 w gr gl O s1 g w1 → w1.cell? ⟨gl, 0, none⟩ = some (pv gr) ∧ w1.cell? ⟨gl, 3, none⟩ = some (.int .i64 g.pages) := fun hq => by
            obtain ⟨A1, c1, hx1, -⟩ := hq.1.cells
            exact ⟨(blk_cell hx1 0).trans rfl, (blk_cell hx1 3).trans rfl⟩
          have HELD := Aside0.mk @held
          clear held p0
          go_upto_region 17 with (fail)
          go_region_held3 (fun w' => w'.cell? ⟨gl, 0, none⟩ = some (pv gr) ∧ w'.cell? ⟨gl, 3, none⟩ = some (.int .i64 g.pages)) (first | exact HELD.out T4.out | exact HELD.out (HR.out.below (below_drew (Below.refl _ wr))))
            (first
            | (go_at_call 128; (with_reducible refine (CA.out _ (HR.out.below (below_drew (Below.refl _ wr)))).mono ?_); rintro e w4 ⟨rfl, h4⟩; have T4 := Aside0.mk h4; clear h4))
          have hS2 := HS2.out
          by_cases e1 : rA.c = 0
          · have q1 : (rA.c == 0) = true := by rw [e1]; rfl
            rw [if_neg (fun h => h e1)] at hS2
            obtain ⟨p0, -⟩ := HELD.out T4.out
            have HCB := Aside0.mk (CB.out _ T4.out)
            clear e1
            by_cases e2 : rB.c = 0
            · have q2 : (rB.c == 0) = true := by rw [e2]; rfl
              rw [if_neg (fun h => h e2)] at hS2
              have HS3 := Aside0.mk hS2
              clear e2 hS2
              go_upto_region 22 with (first
                | (go_at_call 132; (with_reducible refine HCB.out.mono ?_); rintro e w5 ⟨rfl, h5⟩; have T5 := Aside0.mk h5; clear h5; obtain ⟨p05, p35⟩ := HELD.out T5.out)
                | (go_at_call 153; (with_reducible refine (CC.out _ T5.out).mono ?_); rintro e w6 ⟨rfl, h6⟩; have T6 := Aside0.mk h6; clear h6))
              by_cases e3 : rC.c = 0
              · have q3 : (rC.c == 0) = true := by rw [e3]; rfl
                have hS3 := HS3.out
                rw [if_neg (fun h => h e3)] at hS3
                have HF := Aside0.mk hS3
                obtain ⟨A6, c6, hx6, hr6, hO6, hb6⟩ := T6.out.1.cells
                have HX6 := Aside0.mk hx6
                have HO6 := Aside0.mk (And.intro hO6 hb6)
                have z1 := blk_frozen hx6 1
                have y1 : ∃ v, w6.cell? ⟨gl, 1, none⟩ = some v := ⟨_, (blk_cell hx6 1).trans rfl⟩
                obtain ⟨x1, y1⟩ := y1
                clear e3 hS3 hx6 hr6 hO6 hb6
                go_wp2_with (fail)
                go_ret
                rw [HF.out]
                have hK7 := set_kept (w := w6) (g := gl) (j := 1) (v := .slice none 0 0)
                have hq := T6.out.1.newrow (g' := { rC.g with fr := [] }) (T6.out.1.hB.setCell (p := ⟨gl, 1, none⟩) HO6.out.2 _) hK7 HX6.out (x' := .slice none 0 0) (blk_put HX6.out 1 _ rfl) (Kd.R_nil _ _ _ _ _)
                exact ⟨rfl, T6.out.step hq (hK7.mono (fun j hj => by rw [hj]; exact HO6.out.1))⟩
              · have q3 : (rC.c == 0) = false := beq_false e3
                have HF := Aside0.mk (HS3.out.trans (if_pos e3))
                clear e3
                go_wp2_with (fail)
                go_ret
                rw [HF.out]
                exact ⟨rfl, T6.out⟩
            · have q2 : (rB.c == 0) = false := beq_false e2
              rw [if_pos e2] at hS2
              have HF := Aside0.mk hS2
              clear e2 hS2
              go_wp2_with (go_at_call 132; (with_reducible refine HCB.out.mono ?_); rintro e w5 ⟨rfl, h5⟩; have T5 := Aside0.mk h5; clear h5)
              go_ret
              rw [HF.out, GB.out]
              exact ⟨rfl, T5.out⟩
          · have q1 : (rA.c == 0) = false := beq_false e1
            have HF := Aside0.mk (hS2.trans (if_pos e1))
            clear e1 hS2
            go_wp2_with (fail)
            go_ret
            rw [HF.out, GA.out]
            exact ⟨rfl, T4.out⟩
  · have HS := Aside0.mk (show Lg.rcheckpoint s g = ⟨11, s, g⟩ by unfold Lg.rcheckpoint; rw [if_pos h1])
    have n1 : ((g.fr.length : Int) != (g.kept : Int)) = true := by simp [bne, beq_false (show (g.fr.length : Int) ≠ (g.kept : Int) by omega)]
    clear h1
    go_enter Try.func83, Try.ntmps83
    go_upto_region 1 with (fail)
    go_quiet (fail)
    have T1 := Aside0.mk ((QR.refl H.out).below (pw_below_drewN (Below.refl _ w) nq))
    go_wp2_with (fail)
    go_ret
    rw [HS.out]
    exact ⟨rfl, T1.out⟩
end Go.Proofs.Ythaoaaboempajaa.Log
namespace Go.Proofs.Ythaoaaboempajaa.Log
open Go.RowKit Go.Maps Go.Proofs.Ythaoaaboempajaa.QLogRuns Go.Proofs.Ythaoaaboempajaa.QDiskRuns Go.Proofs.Ythaoaaboempajaa.Disk Go.Proofs.YthaoaaboempajaaW.PrintWords Go.Proofs.YthaoaaboempajaaW.PrintLast Go.Proofs.YthaoaaboempajaaW.PrintMore Go.Proofs.YthaoaaboempajaaX
set_option linter.unusedVariables false
set_option linter.unusedSimpArgs false
def aOp (tx : ByteArray) : Nat → St → Int × St
  | 0, s => s.cutTo 1 0
  | 1, s => s.sync 1
  | 2, s => s.write 1 0 tx
  | _, s => s.sync 1
def aRun (tx : ByteArray) : Nat → Nat → St → Int × St
  | 0, _, s => (0, s)
  | d + 1, j, s => if (aOp tx j s).1 ≠ 0 then aOp tx j s else aRun tx d (j + 1) (aOp tx j s).2
theorem last0 (x : Int × St) : x = if x.1 ≠ 0 then x else (0, x.2) := by
  obtain ⟨c, s⟩ := x
  by_cases h : c = 0 <;> simp [h]
theorem begin1_run (s : St) (p : Nat) : begin1 s p = aRun (markB ++ slotB 1 0 p) 4 0 s := by
  rw [begin1_is s p _ _ _ _ rfl rfl rfl rfl]
  show _ = if (s.cutTo 1 0).1 ≠ 0 then s.cutTo 1 0 else if ((s.cutTo 1 0).2.sync 1).1 ≠ 0 then (s.cutTo 1 0).2.sync 1 else if ((((s.cutTo 1 0).2.sync 1).2.write 1 0 (markB ++ slotB 1 0 p)).1 ≠ 0) then (((s.cutTo 1 0).2.sync 1).2.write 1 0 (markB ++ slotB 1 0 p)) else if ((((s.cutTo 1 0).2.sync 1).2.write 1 0 (markB ++ slotB 1 0 p)).2.sync 1).1 ≠ 0 then ((((s.cutTo 1 0).2.sync 1).2.write 1 0 (markB ++ slotB 1 0 p)).2.sync 1) else (0, ((((s.cutTo 1 0).2.sync 1).2.write 1 0 (markB ++ slotB 1 0 p)).2.sync 1).2)
  rw [← last0]
theorem aOp0 (tx : ByteArray) (s : St) : aOp tx 0 s = s.cutTo 1 0 := rfl
theorem aOp2 (tx : ByteArray) (s : St) : aOp tx 2 s = s.write 1 0 tx := rfl
theorem aOp1 (tx : ByteArray) (j : Nat) (s : St) (h : j = 1 ∨ j = 3) : aOp tx j s = s.sync 1 := by rcases h with rfl | rfl <;> rfl
theorem mark_lit : (⟨#[114, 101, 108, 115, 116, 111, 114, 101, 32, 108, 111, 103, 32, 48, 48, 49]⟩ : ByteArray) = markB := rfl
theorem aOp_ok {s : St} {m : Nat} (h : s.ok m) (tx : ByteArray) : ∀ j, (aOp tx j s).2.ok (m + 1)
  | 0 => h.cutTo _ _
  | 1 => h.sync _
  | 2 => h.write _ _ _
  | _ + 3 => h.sync _
set_option maxHeartbeats 8000000 in
set_option maxRecDepth 100000 in
theorem anew.calls (gr gl : Nat) (O : Nat → Prop) (s : St) (p : Nat) (m : Nat) (w0 w : World) (h : QB w0 w gr gl O s ⟨[], 0, p, 0, 0⟩) (hok : s.ok m) (hm : m ≤ 700000000) (hp : p ≤ 4294967295) :
    Calls Try.prog 152 #[pv gl] w fun e w' => e = .returned (.int .i64 (begin1 s p).1) ∧ QR w0 w gr gl O (begin1 s p).2 ⟨[], 0, p, 0, 1⟩ w' := by
  rw [begin1_run]
  have htx : relstoreref_slot.f 5 1 0 (p : Int) = some (slotB 1 0 p) := slot_is 1 0 p (by omega) (by omega) (by omega) 5 (Nat.le_refl _)
  have hsz := size_slot 1 0 p
  obtain ⟨tx, etx⟩ : ∃ tx, tx = slotB 1 0 p := ⟨_, rfl⟩
  rw [← etx] at htx hsz ⊢
  have HTX := Aside0.mk htx
  have sz1 : (9223372036854775807 < 16 + tx.size) = False := eq_false (by omega)
  have sz2 : ¬ (9223372036854775807 < 16 + tx.size) := by omega
  have sz3 : (9223372036854775807 < (ByteArray.mk #[114, 101, 108, 115, 116, 111, 114, 101, 32, 108, 111, 103, 32, 48, 48, 49]).size + tx.size) = False := eq_false (by rw [show (ByteArray.mk #[114, 101, 108, 115, 116, 111, 114, 101, 32, 108, 111, 103, 32, 48, 48, 49]).size = 16 from rfl]; omega)
  obtain ⟨A, c, hx, hr, hO, hb⟩ := h.cells
  have HX := Aside0.mk hx
  have HR := Aside0.mk hr
  have HO := Aside0.mk (And.intro hO hb)
  have HOK := Aside0.mk hok
  have HM := Aside0.mk hm
  have H := Aside0.mk h
  have p4 : ∃ v, w.cell? ⟨gl, 4, none⟩ = some v := ⟨_, (blk_cell hx 4).trans rfl⟩
  have p5 : ∃ v, w.cell? ⟨gl, 5, none⟩ = some v := ⟨_, (blk_cell hx 5).trans rfl⟩
  obtain ⟨x4, p4⟩ := p4
  obtain ⟨x5, p5⟩ := p5
  have z4 := blk_frozen hx 4
  have z5 := blk_frozen hx 5
  clear h hok hm hx hr hO hb htx hsz etx
  go_enter Try.func152, Try.ntmps152
  go_upto_region 2 with (fail)
  have HK1 := Aside0.mk (((set_kept (w := w) (g := gl) (j := 4) (v := .int .i64 0)).then_ (set_kept (g := gl) (j := 5) (v := .int .i64 1)) (fun j hj => .inl hj)))
  have T0 := Aside0.mk (show QR w0 w gr gl O s ⟨[], 0, p, 0, 1⟩ ((w.setCell ⟨gl, 4, none⟩ (.int .i64 0)).setCell ⟨gl, 5, none⟩ (.int .i64 1)) from
    ⟨(H.out.upd ((H.out.hB.setCell (p := ⟨gl, 4, none⟩) HO.out.2 _).setCell (p := ⟨gl, 5, none⟩) HO.out.2 _) HK1.out A c c 0 p 0 0 HX.out 0 (Nat.le_refl _) rfl (blk_put (blk_put HX.out 4 (.int .i64 0) rfl) 5 (.int .i64 1) rfl)).mono (fun k hk => .inl hk), HK1.out.mono (fun j hj => by rw [hj]; exact HO.out.1)⟩)
  clear p4 p5 z4 z5 HK1 HX HR H
  generalize (w.setCell ⟨gl, 4, none⟩ (.int .i64 0)).setCell ⟨gl, 5, none⟩ (.int .i64 1) = w1 at T0 ⊢
  go_wp2_with (fail)
  go_loopw [3] (fun v3 wr => ∃ (j : Nat) (sj : St), j ≤ 4 ∧ v3 = .int .i64 (j : Int) ∧ Aside0 (aRun (markB ++ tx) 4 0 s = aRun (markB ++ tx) (4 - j) j sj) ∧ Aside0 (sj.ok (m + j)) ∧ Aside0 (QR w0 w gr gl O sj ⟨[], 0, p, 0, 1⟩ wr)) (fun v3 _ => 4 - (intOf v3).toNat)
  case atStart => exact ⟨0, s, by omega, rfl, ⟨rfl⟩, HOK, T0⟩
  case round =>
    clear T0
    obtain ⟨j, sj, hj, rfl, HA, HK, T⟩ := hrel
    have HL := Aside0.mk (show m + j ≤ 800000000 by have := HM.out; omega)
    have p0 := T.out.rdisk
    have held : ∀ {w1 : World} {s1 : St}, QR w0 w gr gl O s1 ⟨[], 0, p, 0, 1⟩ w1 → w1.cell? ⟨gl, 0, none⟩ = some (pv gr) ∧ w1.cell? ⟨gl, 3, none⟩ = some (.int .i64 p) := fun hq => by
      obtain ⟨A1, c1, hx1, -⟩ := hq.1.cells
      exact ⟨(blk_cell hx1 0).trans rfl, (blk_cell hx1 3).trans rfl⟩
    have HELD := Aside0.mk @held
    clear held
    by_cases h4 : j = 4
    · subst h4
      have HF := Aside0.mk HA.out
      clear HA
      go_wp2_with (fail)
      go_ret
      rw [HF.out]
      exact ⟨rfl, T.out⟩
    · obtain ⟨d, hd⟩ : ∃ d, 4 - j = d + 1 := ⟨3 - j, by omega⟩
      have hA := HA.out
      rw [hd] at hA
      have HC : Aside0 (∀ w1, QR w0 w gr gl O sj ⟨[], 0, p, 0, 1⟩ w1 → (j = 0 → Calls Try.prog 128 #[pv gr, .int .i64 1, .int .i64 0] w1 fun e w' => e = .returned (.int .i64 (aOp (markB ++ tx) j sj).1) ∧ QR w0 w gr gl O (aOp (markB ++ tx) j sj).2 ⟨[], 0, p, 0, 1⟩ w') ∧ (j = 2 → Calls Try.prog 126 #[pv gr, .int .i64 1, .int .i64 0, .string (⟨#[114, 101, 108, 115, 116, 111, 114, 101, 32, 108, 111, 103, 32, 48, 48, 49]⟩ ++ tx)] w1 fun e w' => e = .returned (.int .i64 (aOp (markB ++ tx) j sj).1) ∧ QR w0 w gr gl O (aOp (markB ++ tx) j sj).2 ⟨[], 0, p, 0, 1⟩ w') ∧ (j = 1 ∨ j = 3 → Calls Try.prog 132 #[pv gr, .int .i64 1] w1 fun e w' => e = .returned (.int .i64 (aOp (markB ++ tx) j sj).1) ∧ QR w0 w gr gl O (aOp (markB ++ tx) j sj).2 ⟨[], 0, p, 0, 1⟩ w')) := ⟨fun w1 hq => by
        refine ⟨?_, ?_, ?_⟩
        · rintro rfl
          rw [aOp0]
          exact hq.onR (fun O1 h1 => rcut.calls gr O1 sj 1 0 _ w0 w1 hq.1.hB h1 HK.out (by have := HL.out; omega))
        · rintro rfl
          rw [aOp2, mark_lit]
          exact hq.onR (fun O1 h1 => rwrite.calls gr O1 sj 1 0 (markB ++ tx) _ w0 w1 hq.1.hB h1 HK.out (by have := HL.out; omega))
        · intro h
          rw [aOp1 _ _ _ h]
          exact hq.onR (fun O1 h1 => rsync.calls gr O1 sj 1 _ w0 w1 hq.1.hB h1 HK.out (by have := HL.out; omega))⟩
      have HK2 := Aside0.mk (aOp_ok HK.out (markB ++ tx) j)
      obtain ⟨⟨ce, sn⟩, hr⟩ : ∃ r, r = aOp (markB ++ tx) j sj := ⟨_, rfl⟩
      have hA2 : aRun (markB ++ tx) 4 0 s = if ce ≠ 0 then (ce, sn) else aRun (markB ++ tx) d (j + 1) sn := by
        rw [hA, aRun, ← hr]
      rw [← hr] at HC HK2
      clear hA hr HA
      have HD := Aside0.mk hd
      by_cases hz : ce = 0
      · subst hz
        rw [if_neg (fun h => h rfl)] at hA2
        have HA2 := Aside0.mk hA2
        clear hA2
        rcases (show j = 0 ∨ j = 1 ∨ j = 2 ∨ j = 3 by omega) with rfl | rfl | rfl | rfl
        · go_wp2_with (go_at_call 128; (with_reducible refine ((HC.out _ T.out).1 (by first | trivial | rfl)).mono ?_); rintro e w4 ⟨rfl, h4⟩; have T4 := Aside0.mk h4; clear h4)
          go_roundw
          case rel => exact ⟨1, sn, by omega, by go_num, ⟨by rw [HA2.out]; congr 1; have := HD.out; omega⟩, HK2, T4⟩
          case measure => simp [intOf]
        · go_wp2_with (go_at_call 132; (with_reducible refine ((HC.out _ T.out).2.2 (by first | trivial | exact .inl rfl)).mono ?_); rintro e w4 ⟨rfl, h4⟩; have T4 := Aside0.mk h4; clear h4)
          go_roundw
          case rel => exact ⟨2, sn, by omega, by go_num, ⟨by rw [HA2.out]; congr 1; have := HD.out; omega⟩, HK2, T4⟩
          case measure => simp [intOf]
        · go_upto_region 11 with (fail)
          go_region_held3 (fun w' => w'.cell? ⟨gl, 0, none⟩ = some (pv gr) ∧ w'.cell? ⟨gl, 3, none⟩ = some (.int .i64 p)) (first | exact HELD.out T3.out | exact HELD.out T2.out | exact HELD.out (T.out.below (below_drew (Below.refl _ wr))))
            (first
            | (have T2_ := Aside0.mk T2.out; go_at_call 126; (with_reducible refine ((HC.out _ T2.out).2.1 (by first | trivial | rfl)).mono ?_); rintro e w4 ⟨rfl, hd⟩; have T3 := Aside0.mk hd; clear hd)
            | (have T2 := Aside0.mk (T.out.below (below_drew (Below.refl _ wr))); go_at_call 179; (with_reducible refine (relstoreref_slot.calls 5 1 0 (p : Int) tx _ HTX.out).mono ?_); rintro e3 w3 ⟨rfl, hb3⟩; replace T2 := Aside0.mk ((T.out.below (below_drew (Below.refl _ wr))).below hb3); clear hb3))
          go_wp2_with (fail)
          go_roundw
          case rel => exact ⟨3, sn, by omega, by go_num, ⟨by rw [HA2.out]; congr 1; have := HD.out; omega⟩, HK2, T3⟩
          case measure => simp [intOf]
        · go_wp2_with (go_at_call 132; (with_reducible refine ((HC.out _ T.out).2.2 (by first | trivial | exact .inr rfl)).mono ?_); rintro e w4 ⟨rfl, h4⟩; have T4 := Aside0.mk h4; clear h4)
          go_roundw
          case rel => exact ⟨4, sn, by omega, by go_num, ⟨by rw [HA2.out]; congr 1; have := HD.out; omega⟩, HK2, T4⟩
          case measure => simp [intOf]
      · have qz : (ce != 0) = true := by simp [bne, beq_false hz]
        have HF := Aside0.mk (hA2.trans (if_pos hz))
        clear hA2 hz
        rcases (show j = 0 ∨ j = 1 ∨ j = 2 ∨ j = 3 by omega) with rfl | rfl | rfl | rfl
        · go_wp2_with (go_at_call 128; (with_reducible refine ((HC.out _ T.out).1 (by first | trivial | rfl)).mono ?_); rintro e w4 ⟨rfl, h4⟩; have T4 := Aside0.mk h4; clear h4)
          go_ret
          rw [HF.out]
          exact ⟨rfl, T4.out⟩
        · go_wp2_with (go_at_call 132; (with_reducible refine ((HC.out _ T.out).2.2 (by first | trivial | exact .inl rfl)).mono ?_); rintro e w4 ⟨rfl, h4⟩; have T4 := Aside0.mk h4; clear h4)
          go_ret
          rw [HF.out]
          exact ⟨rfl, T4.out⟩
        · go_upto_region 11 with (fail)
          go_region_held3 (fun w' => w'.cell? ⟨gl, 0, none⟩ = some (pv gr) ∧ w'.cell? ⟨gl, 3, none⟩ = some (.int .i64 p)) (first | exact HELD.out T3.out | exact HELD.out T2.out | exact HELD.out (T.out.below (below_drew (Below.refl _ wr))))
            (first
            | (have T2_ := Aside0.mk T2.out; go_at_call 126; (with_reducible refine ((HC.out _ T2.out).2.1 (by first | trivial | rfl)).mono ?_); rintro e w4 ⟨rfl, hd⟩; have T3 := Aside0.mk hd; clear hd)
            | (have T2 := Aside0.mk (T.out.below (below_drew (Below.refl _ wr))); go_at_call 179; (with_reducible refine (relstoreref_slot.calls 5 1 0 (p : Int) tx _ HTX.out).mono ?_); rintro e3 w3 ⟨rfl, hb3⟩; replace T2 := Aside0.mk ((T.out.below (below_drew (Below.refl _ wr))).below hb3); clear hb3))
          go_wp2_with (fail)
          go_ret
          rw [HF.out]
          exact ⟨rfl, T3.out⟩
        · go_wp2_with (go_at_call 132; (with_reducible refine ((HC.out _ T.out).2.2 (by first | trivial | exact .inr rfl)).mono ?_); rintro e w4 ⟨rfl, h4⟩; have T4 := Aside0.mk h4; clear h4)
          go_ret
          rw [HF.out]
          exact ⟨rfl, T4.out⟩
end Go.Proofs.Ythaoaaboempajaa.Log
