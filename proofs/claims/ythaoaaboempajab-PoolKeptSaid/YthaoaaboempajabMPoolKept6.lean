/- Lines of the texts that the claim PoolKept rests on, bundled: part 6; no conditions but those that each row names. -/
import Derived.Test.YthaoaaboempajabMPoolKept5
import Derived.Shelf.Sort.Plain
import Derived.Shelf.Slices.In.SortNone
import Derived.BigRegion
namespace Go.Proofs.Ythaoaaboempajab.Pool
open Go.RowKit Go.Maps Go.Proofs.Ythaoaaboempajab.QLogRuns Go.Proofs.Ythaoaaboempajab.QDiskRuns Go.Proofs.Ythaoaaboempajab.Disk Go.Proofs.Ythaoaaboempajab.Log Go.Proofs.YthaoaaboempajabW.PrintWords Go.Proofs.YthaoaaboempajabW.PrintLast Go.Proofs.YthaoaaboempajabW.PrintMore
set_option linter.unusedVariables false
set_option linter.unusedSimpArgs false
theorem room_pages (P : Po) : P.room.2.pages = P.pages := by
  unfold Po.room
  split
  · rfl
  · cases hu : unpin P.held with
    | none => rfl
    | some y =>
      obtain ⟨xs, f, ys⟩ := y
      simp only
      split
      · split <;> rfl
      · rfl
theorem wrap64_id {n : Int} (h : -9223372036854775808 ≤ n ∧ n ≤ 9223372036854775807) : wrap64 n = n := by unfold wrap64; omega
theorem Did.chain {w0 w w2 w' : World} {gd gl gp : Nat} {O : Nat → Prop} {Q2 : Po} (h1 : Below w0.heap.size w0 w2) (h2 : Kept w w2 O) (h : PQ w0.heap.size gd gl gp Q2 w' (fun k => (O k ∨ w.heap.size ≤ k) ∨ w2.heap.size ≤ k)) (hb : Below w0.heap.size w0 w') (hk : Kept w2 w' (fun k => O k ∨ w.heap.size ≤ k)) : Below w0.heap.size w0 w' ∧ Kept w w' O ∧ PQ w0.heap.size gd gl gp Q2 w' (fun k => O k ∨ w.heap.size ≤ k) :=
  ⟨hb, h2.then_ hk (fun k hk => hk), (fpQ _ _ _ _ _).mono h (fun k hk => hk.elim id (fun h => .inr (Nat.le_trans h2.1 h)))⟩
theorem readOf_link (s : ByteArray) : -9223372036854775808 ≤ (Pages.readOf s).2.1 ∧ (Pages.readOf s).2.1 < 9223372036854775808 := by
  have hd : -9223372036854775808 ≤ Pages.dmg.2.1 ∧ Pages.dmg.2.1 < 9223372036854775808 := by decide
  unfold Pages.readOf
  split
  · cases hp : Pages.parse s (min (Pages.u16 s.data.toList 6) 506) 0 [] with
    | none => exact hd
    | some l =>
      rw [Pages.opened_some]
      have := Pages.u32_lt s.data.toList 8
      split
      · split
        · show (-9223372036854775808 : Int) ≤ ((Pages.u32 s.data.toList 8 : Nat) : Int) ∧ ((Pages.u32 s.data.toList 8 : Nat) : Int) < 9223372036854775808
          omega
        · exact hd
      · exact hd
  · exact hd
theorem alloc_fine {P : Po} {m : Nat} (h : P.fine m) : P.alloc.2.2.fine (m + 6) := by
  unfold Po.alloc
  split
  · split
    · exact h.more (by omega)
    · split
      · exact (room_fine h).more (by omega)
      · rename_i h1 h2 h3
        have hr := room_fine h
        have hz := room_len h (by simpa using h3)
        have hp : P.room.2.pages = P.pages := room_pages P
        refine ⟨St.ok.more hr.ok (by omega), hr.g, ?_, ?_, hr.most, Nat.le_trans (addT_len _ _) (by have := hr.tl; omega)⟩
        · show (P.room.2.held ++ [_]).length ≤ 100
          rw [List.length_append, List.length_singleton]; exact hz
        · have := h.pages
          show 0 ≤ P.room.2.pages + 1 ∧ P.room.2.pages + 1 ≤ 100000
          rw [hp]
          omega
  · have h1 := read_fine h P.free
    simp only
    split
    · exact h1.more (by omega)
    · split
      · exact h1.more (by omega)
      · have h2 := setFree_fine h1 (Pages.readOf (P.read P.free).1).2.1
        split
        · exact h2.more (by omega)
        · have h3 := put_fine h2 P.free (freeB 0)
          split
          · exact h3
          · exact h3
set_option maxHeartbeats 16000000 in
set_option maxRecDepth 100000 in
theorem palloc.calls (gd gl gp : Nat) (O : Nat → Prop) (P : Po) (m : Nat) (w0 w : World) (hB : Below w0.heap.size w0 w) (hP : PQ w0.heap.size gd gl gp P w O) (hf : P.fine m) (hm : m ≤ 100000000) (hfr : -9223372036854775808 ≤ P.free ∧ P.free < 9223372036854775808) (hlt : ∀ f ∈ P.held, f.n ≠ P.pages) :
    Calls Try.prog 9 #[pv gp] w (Did w0 w gd gl gp O (.tuple #[.int .i64 P.alloc.1, .int .i64 P.alloc.2.1]) P.alloc.2.2) := by
  have HD := Aside0.mk (And.intro hB hP)
  have HF := Aside0.mk hf
  have HM := Aside0.mk hm
  obtain ⟨-, -, -, q4, q5⟩ := hP.nums
  by_cases hz : P.free = 0
  · have q1 : (P.free == 0) = true := beq_iff_eq.2 hz
    have hpg := hf.pages
    have e1 : wrap64 (P.pages + 1) = P.pages + 1 := wrap64_id (by omega)
    have e2 : wrap64 ((P.pages + 1) * 1024) = (P.pages + 1) * 1024 := wrap64_id (by omega)
    by_cases hbig : (P.pages + 1) * 1024 > 67108864
    · have HR := Aside0.mk (show P.alloc = (0, 8, P) by unfold Po.alloc; rw [if_pos hz, if_pos hbig])
      have t1 : decide ((P.pages + 1) * 1024 > 67108864) = true := decide_eq_true hbig
      have t2 : decide (67108864 < (P.pages + 1) * 1024) = true := decide_eq_true hbig
      clear hB hP hf hm hfr hlt hz hpg hbig
      go_enter Try.func9, Try.ntmps9
      go_wp2_with (fail)
      go_ret2
      rw [HR.out]
      exact Did.rest HD.out.1 HD.out.2
    · have t1 : decide ((P.pages + 1) * 1024 > 67108864) = false := decide_eq_false hbig
      have t2 : decide (67108864 < (P.pages + 1) * 1024) = false := decide_eq_false hbig
      have hc := room.calls gd gl gp O P m w0 w hB hP hf (by omega)
      have hqf := room_fine hf
      have hsub := room_sub P
      have hrp := room_pages P
      have hrl := fun h0 => room_len (P := P) hf h0
      obtain ⟨⟨c, Q⟩, hr⟩ : ∃ r, r = P.room := ⟨_, rfl⟩
      rw [← hr] at hc hqf hsub hrp hrl
      have HC := Aside0.mk hc
      have HQF := Aside0.mk hqf
      have HR := Aside0.mk (show P.alloc = if c ≠ 0 then (0, c, Q) else (Q.pages, 0, Q.grow) by unfold Po.alloc; rw [if_pos hz, if_neg hbig, ← hr])
      have HNO := Aside0.mk (show ∀ x ∈ Q.held, x.n ≠ Q.pages from fun x hx => by rw [show Q.pages = P.pages from hrp]; exact hlt x (hsub x hx))
      have HPG := Aside0.mk (show 0 ≤ Q.pages ∧ Q.pages ≤ 65535 by rw [show Q.pages = P.pages from hrp]; omega)
      have HRL := Aside0.mk hrl
      clear hB hP hf hm hfr hlt hz hpg hbig hc hqf hsub hrp hrl hr
      by_cases hc0 : c = 0
      · subst hc0
        have e3 : wrap64 (Q.pages + 1) = Q.pages + 1 := wrap64_id (by have := HPG.out; omega)
        go_enter Try.func9, Try.ntmps9
        go_upto_region 8 with (go_at_call 27; (with_reducible refine HC.out.mono ?_); rintro e w2 ⟨rfl, hq2, hb2, hk2⟩; obtain ⟨ge, bh, bt, al, fm, bf, nf, hs2⟩ := PQ.open_ hq2; have HS2 := Aside0.mk hs2; have HB2 := Aside0.mk hb2; have HK2 := Aside0.mk hk2; obtain ⟨O7, hu7, o3, o4, back⟩ := Sep.right hs2 (fpP _ _ _ _ _); have HU7 := Aside0.mk (show PU w2 w0.heap.size gp gl ge bh bt al fm bf nf O7 Q from hu7); have HBK := Aside0.mk back; have m4 : w2.cell? ⟨gp, 4, none⟩ = some (.int .i64 Q.pages) := (blk_cell HU7.out.hp 4).trans rfl; have z4 := blk_frozen HU7.out.hp 4; clear hq2 hb2 hk2 hs2 hu7 o3 o4 back)
        have HU8 := Aside0.mk (HU7.out.setp 4 (.int .i64 (Q.pages + 1)) (P' := { Q with pages := Q.pages + 1 }) rfl rfl rfl)
        have hog := HU7.out.own gp (.inl rfl)
        have HB8 := Aside0.mk (HB2.out.setCell (p := ⟨gp, 4, none⟩) hog.2 (.int .i64 (Q.pages + 1)))
        have HK8 := Aside0.mk (show Kept w2 (w2.setCell ⟨gp, 4, none⟩ (.int .i64 (Q.pages + 1))) O7 from set_kept.mono (fun j hj => by rw [hj]; exact hog.1))
        clear hog
        go_upto_region 9 with (fail)
        clear m4 z4
        generalize w2.setCell ⟨gp, 4, none⟩ (.int .i64 (Q.pages + 1)) = w3 at HU8 HB8 HK8 ⊢
        go_upto_region 11 with (first
          | (have H29 := Aside0.mk HC29.out; go_at_call 29; (with_reducible refine HC29.out.mono ?_); rintro e w6 ⟨rfl, hu6, hb6, hk6⟩; have HU6 := Aside0.mk hu6; have HB6 := Aside0.mk hb6; have HK6 := Aside0.mk hk6; clear hu6 hb6 hk6)
          | (have H55 := Aside0.mk HB4.out; (with_reducible refine gate_dst (N := 50) rfl ?_); refine box_event ?hg (N := 50) ?hd (cs := fcells ⟨Q.pages, freeB 0, 0, true⟩ (.pointer none) (.pointer none)) (t := 79) ?hr ?_; (case hd => rfl); (case hg => rfl); (case hr => first | (go_simp; done) | (go_simp; rfl)); intro g5 hg5 w5 hbox hb5; have HX5 := Aside0.mk hbox; have HB5 := Aside0.mk hb5; have HG5 := Aside0.mk (show w4.heap.size ≤ g5 by rw [hg5]; simp); have HC29 := Aside0.mk (last.calls gp gl ge bh bt al g5 ⟨Q.pages, freeB 0, 0, true⟩ (.pointer none) (.pointer none) fm bf nf (fun k => O7 k ∨ w3.heap.size ≤ k) { Q with pages := Q.pages + 1 } w0 w5 (below_step HB4.out.2 hb5) (((HU8.out.kept (Kept.of_below HB4.out.1 (fun _ => False)) (fun _ _ h => h)).kept (Kept.of_below hb5 (fun _ => False)) (fun _ _ h => h)).mono (fun k hk => .inl hk)) hbox (fun e => Nat.not_lt.mpr (Nat.le_trans (below_size HB4.out.1) HG5.out) (HU8.out.lt g5 (.inr (.inl e)))) ⟨.inr (Nat.le_trans (below_size HB4.out.1) HG5.out), Nat.le_trans (below_size HB8.out) (Nat.le_trans (below_size HB4.out.1) HG5.out)⟩ (wf_int (show -9223372036854775808 ≤ Q.pages ∧ Q.pages < 9223372036854775808 by have := HPG.out; omega)) HNO.out (by have h1 := HQF.out.len; have h2 := HU8.out.len; have h3 : al.length = Q.held.length := h2; omega)); clear hg5 hbox hb5)
          | (go_at_call 28; (with_reducible refine (sealNone.calls 0 _).mono ?_); rintro e w4 ⟨rfl, hb4⟩; have HB4 := Aside0.mk (And.intro hb4 (below_step HB8.out hb4)); clear hb4))
        have q6 : w6.cell? ⟨gp, 6, none⟩ = some (.map (some bt)) := (blk_cell HU6.out.hp 6).trans rfl
        obtain ⟨w7, hrun, hm7, hg7⟩ := MapK.put HU6.out.mt (by have := HQF.out.tl; have := HM.out; show Q.turned.length < maxLen; unfold maxLen; have : Q.turned.length ≤ m + 1 := HQF.out.tl; omega) (wf_int (x := Q.pages) (by have := HPG.out; omega))
        have HM7 := Aside0.mk hm7
        have HG7 := Aside0.mk hg7
        clear hm7 hg7
        go_wp2_with (first | (refine wpList_mapUpdate_run _ rfl _ _ _ 67 rfl _ _ _ rfl rfl rfl w7 hrun ?_) | go_in)
        go_ret2
        have hob := HU6.out.own bt (.inr (.inr (.inr rfl)))
        have hk7 : Kept w6 w7 (fun j => j = bt) := Kept.of_grown HG7.out (Kept.refl w6 _) (fun j hj => .inl (Option.some.inj hj).symm)
        have hu := HU6.out.turn HM7.out hk7
        have hk36 : Kept w3 w7 O7 := kept_new (((((Kept.of_below HB4.out.1 O7).then_ (Kept.of_below HB5.out O7) (fun k hk => .inl hk)).mono (fun k hk => .inl hk)).then_ HK6.out (fun k hk => .inl hk)).then_ hk7 (fun k hk => .inl (by rw [hk]; exact hob.1)))
        obtain ⟨b1, b2⟩ := HBK.out _ w7 (fpU _ _ _ _ _ _ _ _ _ _ _) (PU.mono hu (fun k hk => hk.imp id (Nat.le_trans HK8.out.1))) (HK8.out.then_ hk36 (fun k hk => .inl hk))
        rw [HR.out, if_neg (fun h => h rfl)]
        refine ⟨rfl, (fpQ _ _ _ _ _).mono (PQ.of (P := Q.grow) b1) (fun k hk => hk.elim id (fun h => .inr (Nat.le_trans HK2.out.1 h))), HB6.out.grown HG7.out (below_size HB6.out) (fun j hj => by cases hj; exact hob.2), HK2.out.then_ b2 (fun k hk => hk)⟩
      · have q_ : (c != 0) = true := bne_iff_ne.2 hc0
        have HCN := Aside0.mk hc0
        clear hc0
        go_enter Try.func9, Try.ntmps9
        go_wp2_with (go_at_call 27; (with_reducible refine HC.out.mono ?_); rintro e w2 ⟨rfl, hd2⟩; have HD2 := Aside0.mk hd2; clear hd2)
        go_ret2
        rw [HR.out, if_pos HCN.out]
        exact ⟨rfl, HD2.out⟩
  · have q1 : (P.free == 0) = false := beq_false_of_ne hz
    have hc := pread.calls gd gl gp O P m P.free w0 w hB hP hf (by omega) hfr
    have hqf := read_fine hf P.free
    obtain ⟨⟨s, c1, Q⟩, hr⟩ : ∃ r, r = P.read P.free := ⟨_, rfl⟩
    rw [← hr] at hc hqf
    have HC := Aside0.mk hc
    have HQF := Aside0.mk hqf
    have HFR := Aside0.mk hfr
    have HR := Aside0.mk (show P.alloc = if c1 ≠ 0 then (0, c1, Q) else if (Pages.readOf s).2.2.2 ≠ 0 then (0, (Pages.readOf s).2.2.2, Q) else
        if (Q.setFree (Pages.readOf s).2.1).1 ≠ 0 then (0, (Q.setFree (Pages.readOf s).2.1).1, (Q.setFree (Pages.readOf s).2.1).2) else
        if ((Q.setFree (Pages.readOf s).2.1).2.put P.free (freeB 0)).1 ≠ 0 then (0, ((Q.setFree (Pages.readOf s).2.1).2.put P.free (freeB 0)).1, ((Q.setFree (Pages.readOf s).2.1).2.put P.free (freeB 0)).2) else (P.free, 0, ((Q.setFree (Pages.readOf s).2.1).2.put P.free (freeB 0)).2) by
      unfold Po.alloc
      rw [if_neg hz, ← hr])
    clear hB hP hf hm hfr hlt hz hc hqf hr
    by_cases h1 : c1 = 0
    · subst h1
      have hop := openAny.calls s
      have hlk := readOf_link s
      obtain ⟨⟨kd, lk, cl, er⟩, hro⟩ : ∃ r, r = Pages.readOf s := ⟨_, rfl⟩
      rw [← hro] at hop hlk HR
      have HOP := Aside0.mk hop
      have HLK := Aside0.mk hlk
      clear hop hlk hro
      by_cases h2 : er = 0
      · subst h2
        have hqf2 := setFree_fine HQF.out lk
        obtain ⟨⟨c2, Q2⟩, hr2⟩ : ∃ r, r = Q.setFree lk := ⟨_, rfl⟩
        rw [← hr2] at hqf2
        have HQF2 := Aside0.mk (show Q2.fine (m + 4) from hqf2)
        have HSF := Aside0.mk hr2
        have HR2 := Aside0.mk (show P.alloc = if c2 ≠ 0 then (0, c2, Q2) else if (Q2.put P.free (freeB 0)).1 ≠ 0 then (0, (Q2.put P.free (freeB 0)).1, (Q2.put P.free (freeB 0)).2) else (P.free, 0, (Q2.put P.free (freeB 0)).2) by
          rw [HR.out, if_neg (fun h => h rfl), if_neg (fun h => h rfl)]
          simp only
          rw [← hr2])
        clear hqf2 hr2 HR
        by_cases h3 : c2 = 0
        · subst h3
          obtain ⟨⟨c3, Q3⟩, hr3⟩ : ∃ r, r = Q2.put P.free (freeB 0) := ⟨_, rfl⟩
          have HPUT := Aside0.mk hr3
          have HR3 := Aside0.mk (show P.alloc = if c3 ≠ 0 then (0, c3, Q3) else (P.free, 0, Q3) by
            rw [HR2.out, if_neg (fun h => h rfl), ← hr3])
          clear hr3 HR2
          by_cases h4 : c3 = 0
          · subst h4
            go_enter Try.func9, Try.ntmps9
            go_upto_region 18 with (first
              | (have H2_ := Aside0.mk HD2.out; go_at_call 31; (with_reducible refine (HOP.out _).mono ?_); rintro e w3 ⟨A, cc, rfl, hcc, hcl, hb3⟩; have HB3 := Aside0.mk hb3; clear hcc hcl hb3)
              | (go_at_call 30; (with_reducible refine HC.out.mono ?_); rintro e w2 ⟨rfl, hq2, hb2, hk2⟩; have HD2 := Aside0.mk (And.intro hq2 (And.intro hb2 hk2)); clear hq2 hb2 hk2))
            have HX4 := Aside0.mk (blk_new w3 (Obj.cells #[.int .i64 kd, .int .i64 lk, .slice A cl.length cc] 76 (0, 0)))
            have HB4 := Aside0.mk (show Below w2.heap.size w2 (w3.alloc (Obj.cells #[.int .i64 kd, .int .i64 lk, .slice A cl.length cc] 76 (0, 0))) from below_alloc HB3.out _)
            generalize w3.heap.size = g at HX4 ⊢
            generalize w3.alloc (Obj.cells #[.int .i64 kd, .int .i64 lk, .slice A cl.length cc] 76 (0, 0)) = w4 at HX4 HB4 ⊢
            have HQ4 := Aside0.mk ((fpQ _ _ _ _ _).apart HD2.out.1 (Kept.of_below HB4.out (fun _ => False)) (fun _ _ h => h))
            have HBB4 := Aside0.mk (below_step HD2.out.2.1 HB4.out)
            have HK4 := Aside0.mk (HD2.out.2.2.then_ (Kept.of_below HB4.out O) (fun k hk => .inl hk))
            have m1 : w4.cell? ⟨g, 1, none⟩ = some (.int .i64 lk) := (blk_cell HX4.out 1).trans rfl
            go_wp2_with (first
              | (have H6_ := Aside0.mk HB6.out; go_at_call 33; (have hput := pput.calls gd gl gp (fun k => O k ∨ w.heap.size ≤ k) Q2 (m + 4) P.free (freeB 0) w0 _ HB6.out.1 HQ6.out HQF2.out (by have := HM.out; omega) HFR.out); rw [← HPUT.out] at hput; (with_reducible refine hput.mono ?_); rintro e w7 ⟨rfl, hq7, hb7, hk7⟩; have HD7 := Aside0.mk (Did.chain HB6.out.1 HB6.out.2 hq7 hb7 hk7); clear hput hq7 hb7 hk7)
              | (have H5_ := Aside0.mk HD5.out; go_at_call 28; (with_reducible refine (sealNone.calls 0 _).mono ?_); rintro e w6 ⟨rfl, hb6⟩; have HB6 := Aside0.mk (And.intro (below_step HD5.out.1 hb6) (HD5.out.2.1.then_ (Kept.of_below hb6 O) (fun k hk => .inl hk))); have HQ6 := Aside0.mk ((fpQ _ _ _ _ _).apart HD5.out.2.2 (Kept.of_below hb6 (fun _ => False)) (fun _ _ h => h)); clear hb6)
              | (go_at_call 32; (have hsf := psetFree.calls gd gl gp (fun k => O k ∨ w.heap.size ≤ k) Q (m + 1) lk w0 _ HBB4.out HQ4.out HQF.out (by have := HM.out; omega) HLK.out); rw [← HSF.out] at hsf; (with_reducible refine hsf.mono ?_); rintro e w5 ⟨rfl, hq5, hb5, hk5⟩; have HD5 := Aside0.mk (Did.chain HBB4.out HK4.out hq5 hb5 hk5); clear hsf hq5 hb5 hk5))
            go_ret2
            rw [HR3.out, if_neg (fun h => h rfl)]
            exact ⟨rfl, HD7.out.2.2, HD7.out.1, HD7.out.2.1⟩
          · have q_ : (c3 != 0) = true := bne_iff_ne.2 h4
            have HCN := Aside0.mk h4
            clear h4
            go_enter Try.func9, Try.ntmps9
            go_upto_region 18 with (first
              | (have H2_ := Aside0.mk HD2.out; go_at_call 31; (with_reducible refine (HOP.out _).mono ?_); rintro e w3 ⟨A, cc, rfl, hcc, hcl, hb3⟩; have HB3 := Aside0.mk hb3; clear hcc hcl hb3)
              | (go_at_call 30; (with_reducible refine HC.out.mono ?_); rintro e w2 ⟨rfl, hq2, hb2, hk2⟩; have HD2 := Aside0.mk (And.intro hq2 (And.intro hb2 hk2)); clear hq2 hb2 hk2))
            have HX4 := Aside0.mk (blk_new w3 (Obj.cells #[.int .i64 kd, .int .i64 lk, .slice A cl.length cc] 76 (0, 0)))
            have HB4 := Aside0.mk (show Below w2.heap.size w2 (w3.alloc (Obj.cells #[.int .i64 kd, .int .i64 lk, .slice A cl.length cc] 76 (0, 0))) from below_alloc HB3.out _)
            generalize w3.heap.size = g at HX4 ⊢
            generalize w3.alloc (Obj.cells #[.int .i64 kd, .int .i64 lk, .slice A cl.length cc] 76 (0, 0)) = w4 at HX4 HB4 ⊢
            have HQ4 := Aside0.mk ((fpQ _ _ _ _ _).apart HD2.out.1 (Kept.of_below HB4.out (fun _ => False)) (fun _ _ h => h))
            have HBB4 := Aside0.mk (below_step HD2.out.2.1 HB4.out)
            have HK4 := Aside0.mk (HD2.out.2.2.then_ (Kept.of_below HB4.out O) (fun k hk => .inl hk))
            have m1 : w4.cell? ⟨g, 1, none⟩ = some (.int .i64 lk) := (blk_cell HX4.out 1).trans rfl
            go_wp2_with (first
              | (have H6_ := Aside0.mk HB6.out; go_at_call 33; (have hput := pput.calls gd gl gp (fun k => O k ∨ w.heap.size ≤ k) Q2 (m + 4) P.free (freeB 0) w0 _ HB6.out.1 HQ6.out HQF2.out (by have := HM.out; omega) HFR.out); rw [← HPUT.out] at hput; (with_reducible refine hput.mono ?_); rintro e w7 ⟨rfl, hq7, hb7, hk7⟩; have HD7 := Aside0.mk (Did.chain HB6.out.1 HB6.out.2 hq7 hb7 hk7); clear hput hq7 hb7 hk7)
              | (have H5_ := Aside0.mk HD5.out; go_at_call 28; (with_reducible refine (sealNone.calls 0 _).mono ?_); rintro e w6 ⟨rfl, hb6⟩; have HB6 := Aside0.mk (And.intro (below_step HD5.out.1 hb6) (HD5.out.2.1.then_ (Kept.of_below hb6 O) (fun k hk => .inl hk))); have HQ6 := Aside0.mk ((fpQ _ _ _ _ _).apart HD5.out.2.2 (Kept.of_below hb6 (fun _ => False)) (fun _ _ h => h)); clear hb6)
              | (go_at_call 32; (have hsf := psetFree.calls gd gl gp (fun k => O k ∨ w.heap.size ≤ k) Q (m + 1) lk w0 _ HBB4.out HQ4.out HQF.out (by have := HM.out; omega) HLK.out); rw [← HSF.out] at hsf; (with_reducible refine hsf.mono ?_); rintro e w5 ⟨rfl, hq5, hb5, hk5⟩; have HD5 := Aside0.mk (Did.chain HBB4.out HK4.out hq5 hb5 hk5); clear hsf hq5 hb5 hk5))
            go_ret2
            rw [HR3.out, if_pos HCN.out]
            exact ⟨rfl, HD7.out.2.2, HD7.out.1, HD7.out.2.1⟩
        · have q_ : (c2 != 0) = true := bne_iff_ne.2 h3
          have HCN := Aside0.mk h3
          clear h3
          go_enter Try.func9, Try.ntmps9
          go_upto_region 18 with (first
            | (have H2_ := Aside0.mk HD2.out; go_at_call 31; (with_reducible refine (HOP.out _).mono ?_); rintro e w3 ⟨A, cc, rfl, hcc, hcl, hb3⟩; have HB3 := Aside0.mk hb3; clear hcc hcl hb3)
            | (go_at_call 30; (with_reducible refine HC.out.mono ?_); rintro e w2 ⟨rfl, hq2, hb2, hk2⟩; have HD2 := Aside0.mk (And.intro hq2 (And.intro hb2 hk2)); clear hq2 hb2 hk2))
          have HX4 := Aside0.mk (blk_new w3 (Obj.cells #[.int .i64 kd, .int .i64 lk, .slice A cl.length cc] 76 (0, 0)))
          have HB4 := Aside0.mk (show Below w2.heap.size w2 (w3.alloc (Obj.cells #[.int .i64 kd, .int .i64 lk, .slice A cl.length cc] 76 (0, 0))) from below_alloc HB3.out _)
          generalize w3.heap.size = g at HX4 ⊢
          generalize w3.alloc (Obj.cells #[.int .i64 kd, .int .i64 lk, .slice A cl.length cc] 76 (0, 0)) = w4 at HX4 HB4 ⊢
          have HQ4 := Aside0.mk ((fpQ _ _ _ _ _).apart HD2.out.1 (Kept.of_below HB4.out (fun _ => False)) (fun _ _ h => h))
          have HBB4 := Aside0.mk (below_step HD2.out.2.1 HB4.out)
          have HK4 := Aside0.mk (HD2.out.2.2.then_ (Kept.of_below HB4.out O) (fun k hk => .inl hk))
          have m1 : w4.cell? ⟨g, 1, none⟩ = some (.int .i64 lk) := (blk_cell HX4.out 1).trans rfl
          go_wp2_with ((go_at_call 32; (have hsf := psetFree.calls gd gl gp (fun k => O k ∨ w.heap.size ≤ k) Q (m + 1) lk w0 _ HBB4.out HQ4.out HQF.out (by have := HM.out; omega) HLK.out); rw [← HSF.out] at hsf; (with_reducible refine hsf.mono ?_); rintro e w5 ⟨rfl, hq5, hb5, hk5⟩; have HD5 := Aside0.mk (Did.chain HBB4.out HK4.out hq5 hb5 hk5); clear hsf hq5 hb5 hk5))
          go_ret2
          rw [HR2.out, if_pos HCN.out]
          exact ⟨rfl, HD5.out.2.2, HD5.out.1, HD5.out.2.1⟩
      · have q_ : (er != 0) = true := bne_iff_ne.2 h2
        have HR3 := Aside0.mk (show P.alloc = (0, er, Q) by rw [HR.out, if_neg (fun h => h rfl), if_pos h2])
        clear h2
        go_enter Try.func9, Try.ntmps9
        go_wp2_with (first
          | (have H2_ := Aside0.mk HD2.out; go_at_call 31; (with_reducible refine (HOP.out _).mono ?_); rintro e w3 ⟨A, cc, rfl, hcc, hcl, hb3⟩; have HB3 := Aside0.mk hb3; clear hcc hcl hb3)
          | (go_at_call 30; (with_reducible refine HC.out.mono ?_); rintro e w2 ⟨rfl, hq2, hb2, hk2⟩; have HD2 := Aside0.mk (And.intro hq2 (And.intro hb2 hk2)); clear hq2 hb2 hk2))
        go_ret2
        have hb4 := below_alloc HB3.out (Obj.cells #[.int .i64 kd, .int .i64 lk, .slice A cl.length cc] 76 (0, 0))
        rw [HR3.out]
        exact ⟨rfl, (fpQ _ _ _ _ _).apart HD2.out.1 (Kept.of_below hb4 (fun _ => False)) (fun _ _ h => h), below_step HD2.out.2.1 hb4, HD2.out.2.2.then_ (Kept.of_below hb4 O) (fun k hk => .inl hk)⟩
    · have q_ : (c1 != 0) = true := bne_iff_ne.2 h1
      have HCN := Aside0.mk h1
      clear h1
      go_enter Try.func9, Try.ntmps9
      go_wp2_with (go_at_call 30; (with_reducible refine HC.out.mono ?_); rintro e w2 ⟨rfl, hq2, hb2, hk2⟩; have HD2 := Aside0.mk (And.intro hq2 (And.intro hb2 hk2)); clear hq2 hb2 hk2)
      go_ret2
      rw [HR.out, if_pos HCN.out]
      exact ⟨rfl, HD2.out⟩
def Tells2 (D : DataW Unit) (f : Int → Option Nat) : Prop := ∀ x, (Lit.int .i64 x).wf = true →
  match f x with
  | some g => Maps.has D (.int .i64 x) = true ∧ ∀ zd, D.atKey (.int .i64 x) zd = .lit (.int .i64 (g : Int))
  | none => Maps.has D (.int .i64 x) = false ∧ ∀ zd, D.atKey (.int .i64 x) zd = zd
theorem wpList_next_held (w : World) {ops : Array Oper} {rest : List Oper} {o : Oper} {a : Act} {Q : Exit → Act → World → Prop}
    (hg : o.guard = none) (it : Operand) (hop : o.op = Op.next it false) (b r n : Nat) (D : DataW Unit) (f : Int → Option Nat) (left : Lit → Bool) (cnt : Nat)
    (hit : a.eval it = .pointer (some ⟨r, 0, none⟩)) (hf : Tells2 D f) (h : w.ranges Try.prog 3 elemP b r n D left cnt)
    (hDone : cnt = 0 → (∀ kl, left kl = false) → wpList Try.prog ops Q rest (a.put o.dst (.tuple #[.bool false])) w)
    (hMore : ∀ (x : Int) (g : Nat) (w' : World) (cnt' : Nat), (Lit.int .i64 x).wf = true → f x = some g → left (.int .i64 x) = true → w'.ranges Try.prog 3 elemP b r n D (fun z => left z && !z.sameKey (.int .i64 x)) cnt' → cnt' < cnt →
      w.grownBy w' (some r) → w'.heap.size = w.heap.size → (Instr.entry (.pointer (some ⟨r, 0, none⟩))).run Try.prog w' = .ok (.tuple #[.int .i64 x, pv g]) w' → wpList Try.prog ops Q rest (a.put o.dst (.tuple #[.bool true, .int .i64 x, pv g])) w') :
    wpList Try.prog ops Q (o :: rest) a w :=
  wpList_next_ranges w hg it hop 3 law3 elemP (Value.int .i64) pvo (fun key kl hkey => by obtain ⟨x, rfl, _⟩ := Maps.keyOf_int_inv Try.underlying3 hkey; exact ⟨x, rfl⟩) (fun v y hv => by obtain ⟨c, rfl, _⟩ := elemP_inv hv; exact ⟨c, rfl⟩)
    b r n D left cnt hit h hDone (fun x c kl y w' cnt' hkey hlk hv hat hrg hlt hgr hsz hen => by
      obtain ⟨x', ex, rfl, hwx⟩ := Maps.keyOf_int_inv Try.underlying3 hkey
      cases ex
      obtain ⟨c', ec, ey⟩ := elemP_inv hv
      subst ey
      have hcc : c = c' := by
        have h1 := congrArg elemP ec
        rw [elemP_mk, elemP_mk] at h1
        exact numO_inj (Lit.int.inj (DataW.lit.inj (congrArg Prod.fst (Option.some.inj h1)))).2
      subst hcc
      have hfx := hf x hwx
      cases hm : f x with
      | none =>
        rw [hm] at hfx
        have := Maps.has_true_of_atKey hat
        rw [hfx.1] at this
        cases this
      | some g =>
        rw [hm] at hfx
        have e1 : (DataW.lit (.int .i64 (g : Int)) : DataW Unit) = .lit (.int .i64 (numO c)) := (hfx.2 (.lit (.bool true))).symm.trans (hat _)
        have e2 : (g : Int) = numO c := (Lit.int.inj (DataW.lit.inj e1)).2
        have e3 : c = some g := (numO_inj (a := some g) e2).symm
        subst e3
        exact hMore x g w' cnt' hwx hm hlk hrg hlt hgr hsz hen)
theorem PU.newT {w : World} {base gp gl ge bh bt : Nat} {al : List Nat} {fm : Nat → Fm} {bf nf : Nat → Nat} {O : Nat → Prop} {P : Po} (h : PU w base gp gl ge bh bt al fm bf nf O P) :
    PU ((w.alloc (.map #[] 0)).setCell ⟨gp, 6, none⟩ (.map (some w.heap.size))) base gp gl ge bh w.heap.size al fm bf nf (fun k => O k ∨ w.heap.size ≤ k) { P with turned := [] } ∧ Kept w ((w.alloc (.map #[] 0)).setCell ⟨gp, 6, none⟩ (.map (some w.heap.size))) O := by
  have hb : Below w.heap.size w (w.alloc (.map #[] 0)) := below_alloc (Below.refl _ w) _
  have h' := h.kept (Kept.of_below hb (fun _ => False)) (fun _ _ h => h)
  obtain ⟨n1, n2, n3, n4, n5⟩ := h.apart
  have hgp := h.own gp (.inl rfl)
  have hgl : gp < w.heap.size := blk_lt h.hp
  refine ⟨⟨blk_put h'.hp 6 _ rfl, fun a ha => blk_far (h'.hf a ha) (p := ⟨gp, 6, none⟩) (fun e => n1 (by rw [← show a = gp from e]; exact ha)) _, h.nd, h.lk, h.hl, h.h0, h.nn, h.wf, h'.mh.kept (Below.heap_setCell _ ⟨gp, 6, none⟩ _ bh n4), (MapK.made w).kept (Below.heap_setCell _ ⟨gp, 6, none⟩ _ w.heap.size (fun e => by have : w.heap.size = gp := e; omega)), (fun e => by have := h.mh.lt; omega), fun a ha => ?_⟩, (Kept.of_below hb O).then_ set_kept (fun k hk => .inl (by rw [hk]; exact hgp.1))⟩
  rcases ha with e | e | e | e
  · exact ⟨.inl (h.own a (.inl e)).1, (h.own a (.inl e)).2⟩
  · exact ⟨.inl (h.own a (.inr (.inl e))).1, (h.own a (.inr (.inl e))).2⟩
  · exact ⟨.inl (h.own a (.inr (.inr (.inl e)))).1, (h.own a (.inr (.inr (.inl e)))).2⟩
  · rw [e]
    exact ⟨.inr (Nat.le_refl _), by have := hgp.2; omega⟩
def stay (T : List Int) (left : Lit → Bool) (f : Fm) : Bool := !(T.contains f.n) || left (.int .i64 f.n)
theorem stay_start {T : List Int} {D : DataW Unit} (hf : ∀ x, (Lit.int .i64 x).wf = true → Maps.has D (.int .i64 x) = decide (x ∈ T)) {al : List Nat} {fm : Nat → Fm} (hw : ∀ a ∈ al, (Lit.int .i64 (fm a).n).wf = true) : al = al.filter (fun a => stay T (Maps.has D) (fm a)) := by
  symm
  rw [List.filter_eq_self]
  intro a ha
  unfold stay
  rw [hf _ (hw a ha)]
  by_cases e : (fm a).n ∈ T <;> simp [e]
theorem stay_end {T : List Int} {left : Lit → Bool} (hl : ∀ kl, left kl = false) {al : List Nat} {fm : Nat → Fm} : (al.filter (fun a => stay T left (fm a))).map fm = (al.map fm).filter (fun f => !T.contains f.n) := by
  rw [List.filter_map]
  congr 1
  refine List.filter_congr (fun a _ => ?_)
  show stay T left (fm a) = !T.contains (fm a).n
  unfold stay
  rw [hl]
  simp
theorem stay_step {T : List Int} {left : Lit → Bool} {x : Int} (hx : x ∈ T) {al : List Nat} {fm : Nat → Fm} :
    al.filter (fun a => stay T (fun z => left z && !z.sameKey (.int .i64 x)) (fm a)) = (al.filter (fun a => stay T left (fm a))).filter (fun a => decide ((fm a).n ≠ x)) := by
  rw [List.filter_filter]
  refine List.filter_congr (fun a _ => ?_)
  unfold stay
  by_cases e : (fm a).n = x
  · rw [e]
    show (!T.contains x || (left (.int .i64 x) && !(Lit.int .i64 x).sameKey (Lit.int .i64 x))) = _
    rw [left_cut_self left]
    simp [hx]
  · show (!T.contains (fm a).n || (left (.int .i64 (fm a).n) && !(Lit.int .i64 (fm a).n).sameKey (Lit.int .i64 x))) = _
    rw [left_cut left e]
    simp [e]
theorem filter_gone {fm : Nat → Fm} {x : Int} {al : List Nat} (h : addr fm al x = none) : al.filter (fun a => decide ((fm a).n ≠ x)) = al := by
  rw [List.filter_eq_self]
  intro a ha
  exact decide_eq_true (addr_none.1 h a ha)
theorem filter_one {fm : Nat → Fm} {x : Int} {xs ys : List Nat} {a : Nat} (hn : (((xs ++ a :: ys).map fm).map Fm.n).Nodup) (ha : (fm a).n = x) : (xs ++ a :: ys).filter (fun a => decide ((fm a).n ≠ x)) = xs ++ ys := by
  rw [List.map_append, List.map_append, List.map_cons, List.map_cons] at hn
  obtain ⟨n1, n2, n3⟩ := List.nodup_append.1 hn
  have e1 : xs.filter (fun a => decide ((fm a).n ≠ x)) = xs := by
    rw [List.filter_eq_self]
    intro z hz
    exact decide_eq_true (fun e => n3 _ (List.mem_map_of_mem (List.mem_map_of_mem hz)) _ List.mem_cons_self (e.trans ha.symm))
  have e2 : ys.filter (fun a => decide ((fm a).n ≠ x)) = ys := by
    rw [List.filter_eq_self]
    intro z hz
    exact decide_eq_true (fun e => (List.nodup_cons.1 n2).1 (by rw [ha, ← e]; exact List.mem_map_of_mem (List.mem_map_of_mem hz)))
  rw [List.filter_append, List.filter_cons, e1, e2, if_neg (by simp [ha])]
theorem ranges_as {w w' : World} {R : Value → Option (DataW Unit × List MemPlace)} {b r n : Nat} {D : DataW Unit} {left : Lit → Bool} {cnt : Nat} (h : w.ranges Try.prog 3 R b r n D left cnt) (hb : w'.heap[b]? = w.heap[b]?) (hr : w'.heap[r]? = w.heap[r]?) : w'.ranges Try.prog 3 R b r n D left cnt := by
  obtain ⟨es, clock, since, seen, c0, h1, F, hs, hD, h2, rest⟩ := h
  exact ⟨es, clock, since, seen, c0, hb.trans h1, F, hs, hD, hr.trans h2, rest⟩
theorem rolled_fine {P : Po} {m : Nat} (h : P.fine m) (hp : P.g.pages ≤ 100000) : P.rolled.fine m := by
  refine ⟨h.ok, h.g.back, ?_, ⟨Int.natCast_nonneg _, by show (P.g.pages : Int) ≤ 100000; omega⟩, h.most, Nat.zero_le _⟩
  have := h.len
  exact Nat.le_trans (List.length_filter_le _ _) this
set_option maxHeartbeats 16000000 in
set_option maxRecDepth 100000 in
theorem prollback.calls (gd gl gp : Nat) (O : Nat → Prop) (P : Po) (m : Nat) (w0 w : World) (hB : Below w0.heap.size w0 w) (hP : PQ w0.heap.size gd gl gp P w O) (hf : P.fine m) (hm : m ≤ 100000000) (hgp : P.g.pages ≤ 100000) (hnp : ∀ f ∈ P.held, ¬ f.p > 0) :
    Calls Try.prog 16 #[pv gp] w (Did w0 w gd gl gp O (.int .i64 P.rollback.1) P.rollback.2) := by
  have HB := Aside0.mk hB
  have HP := Aside0.mk hP
  have HF := Aside0.mk hf
  have HM := Aside0.mk hm
  have HGP := Aside0.mk hgp
  have HNP := Aside0.mk hnp
  obtain ⟨ge, bh, bt, al, fm, bf, nf, hS⟩ := PQ.open_ hP
  have HS := Aside0.mk hS
  obtain ⟨O2, hU, -⟩ := Sep.right hS (fpP _ _ _ _ _)
  have hU : PU w w0.heap.size gp gl ge bh bt al fm bf nf O2 P := hU
  have HU := Aside0.mk hU
  have q3 : w.cell? ⟨gp, 3, none⟩ = some (.map (some bh)) := (blk_cell hU.hp 3).trans rfl
  obtain ⟨D, hown, hsz, hfd⟩ := hU.mh
  have HO := Aside0.mk hown
  have HFD := Aside0.mk (show Tells2 D (addr fm al) from hfd)
  clear hB hP hf hm hgp hnp hS hU hown hsz hfd
  go_enter Try.func16, Try.ntmps16
  go_wp2_with (first
    | (at_range; refine wpList_range_own _ rfl _ 66 rfl 3 65 law3 Try.underlying66 elemP bh al.length D rfl HO.out ?_; intro w1 hrg1 hg1 hs1)
    | go_in)
  try go_frame
  have HRG := Aside0.mk hrg1
  have HK1 := Aside0.mk (show Kept w w1 (fun _ => False) from Kept.of_grown hg1 (Kept.refl w _) (fun j hj => by cases hj))
  have HB1 := Aside0.mk (show Below w0.heap.size w0 w1 from HB.out.grown hg1 HB.out.size (fun j hj => by cases hj))
  clear hrg1 hg1 hs1 q3
  go_loopw [4] (fun _ wr => ∃ (left : Lit → Bool) (cnt : Nat), Aside0 (wr.ranges Try.prog 3 elemP bh w.heap.size al.length D left cnt) ∧ Aside0 (Kept w wr (fun _ => False)) ∧ Aside0 (Below w0.heap.size w0 wr)) (fun _ wr => wr.rangeLeft bh w.heap.size)
  case atStart => exact ⟨_, _, HRG, HK1, HB1⟩
  case round =>
    clear HRG HK1 HB1
    obtain ⟨left, cnt, HRG, HK1, HB1⟩ := hrel
    go_wp2_with (first
      | (at_next; refine wpList_next_held _ rfl _ rfl bh w.heap.size al.length D (addr fm al) left cnt rfl HFD.out HRG.out ?_ ?_)
      | go_in)
    · intro hc0 hl0
      clear HRG
      have HS1 := Aside0.mk ((frSep (fpP _ _ _ _ _) (fpU _ _ _ _ _ _ _ _ _ _ _)).apart HS.out HK1.out (fun _ _ h => h))
      obtain ⟨O1, hl1, o1, o2, bck⟩ := Sep.left HS1.out (fpU _ _ _ _ _ _ _ _ _ _ _)
      obtain ⟨O3, hu1, -⟩ := Sep.right HS1.out (fpP _ _ _ _ _)
      have hu1 : PU wr w0.heap.size gp gl ge bh bt al fm bf nf O3 P := hu1
      have q0 : wr.cell? ⟨gp, 0, none⟩ = some (pv gl) := (blk_cell hu1.hp 0).trans rfl
      unfold pv at q0
      have HC39 := Aside0.mk (back.calls gd gl O1 P.s P.g w0 wr HB1.out hl1 HF.out.g)
      have HBK := Aside0.mk bck
      clear hl1 o1 o2 bck hu1 hc0 hl0
      go_upto_region 7 with (go_at_call 39; (refine HC39.out.mono ?_); rintro e w3 ⟨rfl, hl3, hb3, hk3⟩; have HX3 := Aside0.mk (And.intro hl3 (And.intro hb3 hk3)); clear hl3 hb3 hk3)
      obtain ⟨hs3, hk3⟩ := HBK.out (pP w0.heap.size gd gl P.s P.g.back) w3 (fpP _ _ _ _ _) HX3.out.1 HX3.out.2.2
      have HS3 := Aside0.mk hs3
      have HB3 := Aside0.mk HX3.out.2.1
      have HK3 := Aside0.mk ((HK1.out.mono (S' := O) (fun _ h => h.elim)).then_ hk3 (fun k hk => .inl hk))
      obtain ⟨O4, hu4, o3, o4, bck⟩ := Sep.right HS3.out (fpP _ _ _ _ _)
      have HU4 := Aside0.mk (PU.same (show PU w3 w0.heap.size gp gl ge bh bt al fm bf nf O4 P from hu4) (P' := { P with g := P.g.back }) rfl rfl rfl)
      have HBK4 := Aside0.mk bck
      have HO4 := Aside0.mk o4
      obtain ⟨D2, hown2, hsz2, hfd2⟩ := HU4.out.mt
      have HO2 := Aside0.mk (show w3.ownsMap Try.prog 3 (plainElem Try.prog 3) bt P.turned.length D2 from hown2)
      have HFD2 := Aside0.mk (show ∀ x, (Lit.int .i64 x).wf = true → Maps.has D2 (.int .i64 x) = decide (x ∈ P.turned) from hfd2)
      have q6 : w3.cell? ⟨gp, 6, none⟩ = some (.map (some bt)) := (blk_cell HU4.out.hp 6).trans rfl
      clear hu4 o3 o4 bck hown2 hsz2 hfd2 hs3 hk3 q0
      go_wp2_with (first
        | (at_range; refine wpList_range_own _ rfl _ 67 rfl 3 3 law3 Try.underlying67 (plainElem Try.prog 3) bt P.turned.length D2 rfl HO2.out ?_; intro w4 hrg4 hg4 hs4)
        | go_in)
      try go_frame
      have HRG4 := Aside0.mk hrg4
      have hk4 : Kept w3 w4 (fun _ => False) := Kept.of_grown hg4 (Kept.refl w3 _) (fun j hj => by cases hj)
      have HU5 := Aside0.mk (HU4.out.kept hk4 (fun _ _ h => h))
      have HK4 := Aside0.mk (hk4.mono (S' := O4) (fun _ h => h.elim))
      have HB4 := Aside0.mk (show Below w0.heap.size w0 w4 from HB3.out.grown hg4 HB3.out.size (fun j hj => by cases hj))
      have HFN := Aside0.mk (stay_start HFD2.out (al := al) (fm := fm) (fun a ha => HU.out.wf _ (by rw [← HU.out.hl]; exact List.mem_map_of_mem ha)))
      have HN4 := Aside0.mk (show ¬ O4 w3.heap.size from fun h => Nat.lt_irrefl _ (HO4.out _ h).2)
      clear hrg4 hg4 hs4 q6 hk4
      go_loopw [5, 6] (fun _ _ wr => ∃ (left : Lit → Bool) (cnt : Nat) (al2 : List Nat) (bf2 nf2 : Nat → Nat), Aside0 (wr.ranges Try.prog 3 (plainElem Try.prog 3) bt w3.heap.size P.turned.length D2 left cnt) ∧ Aside0 (PU wr w0.heap.size gp gl ge bh bt al2 fm bf2 nf2 O4 { P with g := P.g.back, held := al2.map fm }) ∧ Aside0 (al2 = al.filter (fun a => stay P.turned left (fm a))) ∧ Aside0 (Kept w3 wr O4) ∧ Aside0 (Below w0.heap.size w0 wr)) (fun _ _ wr => wr.rangeLeft bt w3.heap.size)
      case atStart =>
        refine ⟨_, _, al, bf, nf, HRG4, ⟨HU5.out.same rfl HU5.out.hl rfl⟩, HFN, HK4, HB4⟩
      case round =>
        clear HRG4 HU5 HK4 HB4 HFN
        obtain ⟨left, cnt, al2, bf2, nf2, HRG, HU6, HFN, HK6, HB6⟩ := hrel
        go_wp2_with (first
          | (at_next; refine wpList_next_ranges_ii _ rfl _ rfl 3 3 .i64 .i64 law3 Try.underlying3 Try.underlying3 bt w3.heap.size _ _ _ _ rfl HRG.out ?_ ?_)
          | go_in)
        · intro hc0 hl0
          have HST := Aside0.mk (show al2.map fm = P.held.filter (fun f => !P.turned.contains f.n) by rw [HFN.out, stay_end hl0, HU.out.hl])
          clear HRG hc0 hl0
          have hb9 := below_alloc (Below.refl wr.heap.size wr) (Obj.map #[] 0)
          have hu9 := HU6.out.kept (Kept.of_below hb9 (fun _ => False)) (fun _ _ h => h)
          have x6 : (wr.alloc (Obj.map #[] 0)).cell? ⟨gp, 6, none⟩ = some (.map (some bt)) := (blk_cell hu9.hp 6).trans rfl
          have z6 := blk_frozen hu9.hp 6
          have hmm : ∀ (w : World), (Instr.makeMap 67 none).run Try.prog w = .ok (.map (some w.heap.size)) (w.alloc (.map #[] 0)) := by
            intro w
            simp [Instr.makeMap, underlying, Try.underlying67]
          have HB9 := Aside0.mk ((below_step HB6.out hb9).setCell (p := ⟨gp, 6, none⟩) (HU6.out.own gp (.inl rfl)).2 (.map (some wr.heap.size)))
          clear hb9 hu9
          go_upto_region 14 with (fail)
          clear x6 z6 hmm
          obtain ⟨hu9, hk9⟩ := HU6.out.newT
          have HU9 := Aside0.mk hu9
          have HK9 := Aside0.mk hk9
          clear hu9 hk9
          generalize (wr.alloc (Obj.map #[] 0)).setCell ⟨gp, 6, none⟩ (.map (some wr.heap.size)) = w9 at HB9 HU9 HK9 ⊢
          obtain ⟨b1, b2⟩ := HBK4.out _ w9 (fpU _ _ _ _ _ _ _ _ _ _ _) (PU.mono HU9.out (fun k hk => hk.imp id (Nat.le_trans HK6.out.1))) (HK6.out.then_ HK9.out (fun k hk => .inl hk))
          have HQ9 := Aside0.mk ((fpQ _ _ _ _ _).mono (O' := fun k => O k ∨ w.heap.size ≤ k) (PQ.of (P := { P with g := P.g.back, held := al2.map fm, turned := [] }) b1) (fun k hk => hk.elim (fun h => h.imp id (Nat.le_trans HK1.out.1)) (fun h => .inr (Nat.le_trans HK3.out.1 h))))
          have HK10 := Aside0.mk (HK3.out.then_ b2 (fun k hk => hk.imp id (Nat.le_trans HK1.out.1)))
          clear b1 b2
          obtain ⟨zz, x0, -, x4, -⟩ := HQ9.out.nums
          have z4 := zz 4
          unfold pv at x0
          obtain ⟨O6, hl6, -⟩ := Sep.left HQ9.out (fpX _ _ _ _)
          have HC23 := Aside0.mk (pages.calls gd gl O6 P.s P.g.back w0 w9 hl6)
          clear zz hl6
          go_upto_region 15 with (go_at_call 23; (with_reducible refine HC23.out.mono ?_); rintro e w' ⟨rfl, rfl⟩)
          obtain ⟨c1, c2, c3⟩ := HQ9.out.setp 4 (.int .i64 ((P.g.back.pages : Nat) : Int)) (P' := { P with g := P.g.back, held := al2.map fm, turned := [], pages := P.g.pages }) (fun _ _ _ => rfl) rfl rfl rfl rfl
          have er : ({ P with g := P.g.back, held := al2.map fm, turned := [], pages := P.g.pages } : Po) = P.rolled := by unfold Po.rolled; rw [← HST.out]
          rw [er] at c1
          have HB11 := Aside0.mk (HB9.out.setCell (p := ⟨gp, 4, none⟩) c3 (.int .i64 ((P.g.back.pages : Nat) : Int)))
          have HK11 := Aside0.mk (HK10.out.then_ (set_kept (w := w') (g := gp) (j := 4) (v := .int .i64 ((P.g.back.pages : Nat) : Int))) (fun k hk => by subst hk; exact c2))
          have HQ11 := Aside0.mk c1
          clear x0 x4 z4 c1 c2 c3 er
          generalize w'.setCell ⟨gp, 4, none⟩ (.int .i64 ((P.g.back.pages : Nat) : Int)) = w11 at HB11 HK11 HQ11 ⊢
          have hc := pread.calls gd gl gp _ P.rolled m 0 w0 w11 HB11.out HQ11.out (rolled_fine HF.out HGP.out) (by have := HM.out; omega) (by decide)
          obtain ⟨⟨s, e1, Q⟩, hr⟩ : ∃ r, r = P.rolled.read 0 := ⟨_, rfl⟩
          rw [← hr] at hc
          have HC := Aside0.mk hc
          have HR := Aside0.mk (show P.rollback = if e1 ≠ 0 then (e1, Q) else ((Pages.readOf s).2.2.2, { Q with free := (Pages.readOf s).2.1 }) by
            unfold Po.rollback
            rw [if_neg (by simp only [List.any_eq_true, not_exists, not_and, decide_eq_true_eq]; exact fun f hf => by have := HNP.out f hf; omega), ← hr])
          clear hc hr
          by_cases h1 : e1 = 0
          · subst h1
            have hop := openAny.calls s
            obtain ⟨⟨kd, lk, cl, er⟩, hro⟩ : ∃ r, r = Pages.readOf s := ⟨_, rfl⟩
            rw [← hro] at hop HR
            have HOP := Aside0.mk hop
            clear hop hro
            go_upto_region 19 with (first
              | (have H2_ := Aside0.mk HD12.out; go_at_call 31; (with_reducible refine (HOP.out _).mono ?_); rintro e w13 ⟨A, cc, rfl, hcc, hcl, hb13⟩; have HB13 := Aside0.mk hb13; clear hcc hcl hb13)
              | (go_at_call 30; (with_reducible refine HC.out.mono ?_); rintro e w12 ⟨rfl, hq12, hb12, hk12⟩; have HD12 := Aside0.mk (Did.chain HB11.out HK11.out hq12 hb12 hk12); clear hq12 hb12 hk12))
            have HX4 := Aside0.mk (blk_new w13 (Obj.cells #[.int .i64 kd, .int .i64 lk, .slice A cl.length cc] 76 (0, 0)))
            have HB4 := Aside0.mk (show Below w12.heap.size w12 (w13.alloc (Obj.cells #[.int .i64 kd, .int .i64 lk, .slice A cl.length cc] 76 (0, 0))) from below_alloc HB13.out _)
            generalize w13.heap.size = g at HX4 ⊢
            generalize w13.alloc (Obj.cells #[.int .i64 kd, .int .i64 lk, .slice A cl.length cc] 76 (0, 0)) = w14 at HX4 HB4 ⊢
            have HQ14 := Aside0.mk ((fpQ _ _ _ _ _).apart HD12.out.2.2 (Kept.of_below HB4.out (fun _ => False)) (fun _ _ h => h))
            have m1 : w14.cell? ⟨g, 1, none⟩ = some (.int .i64 lk) := (blk_cell HX4.out 1).trans rfl
            obtain ⟨zz, -, -, -, x5⟩ := HQ14.out.nums
            have z5 := zz 5
            clear zz
            go_wp2_with (fail)
            go_ret
            obtain ⟨d1, d2, d3⟩ := HQ14.out.setp 5 (.int .i64 lk) (P' := { Q with free := lk }) (fun _ _ _ => rfl) rfl rfl rfl rfl
            rw [HR.out, if_neg (fun h => h rfl)]
            refine ⟨rfl, d1, (below_step HD12.out.1 HB4.out).setCell (p := ⟨gp, 5, none⟩) d3 _, (HD12.out.2.1.then_ (Kept.of_below HB4.out O) (fun k hk => .inl hk)).then_ set_kept (fun k hk => by subst hk; exact d2)⟩
          · have q_ : (e1 != 0) = true := bne_iff_ne.2 h1
            have HCN := Aside0.mk h1
            clear h1
            go_wp2_with (go_at_call 30; (with_reducible refine HC.out.mono ?_); rintro e w12 ⟨rfl, hq12, hb12, hk12⟩; have HD12 := Aside0.mk (Did.chain HB11.out HK11.out hq12 hb12 hk12); clear hq12 hb12 hk12)
            go_ret
            rw [HR.out, if_pos HCN.out]
            exact ⟨rfl, HD12.out.2.2, HD12.out.1, HD12.out.2.1⟩
        · intro x c w5 cnt1 hwx hwc hlx hat hrg1 hlt hg1 hs1 hen
          have hxt : x ∈ P.turned := of_decide_eq_true ((HFD2.out x hwx).symm.trans (Maps.has_true_of_atKey hat))
          have HU7 := Aside0.mk (HU6.out.kept (w' := w5) (S := fun j => j = w3.heap.size) (Kept.of_grown hg1 (Kept.refl wr (fun j => j = w3.heap.size)) (fun j hj => .inl (Option.some.inj hj).symm)) (fun k hk e => HN4.out (by rw [← e]; exact hk)))
          have HK7 := Aside0.mk (Kept.of_grown hg1 HK6.out (fun k hk => .inr (Nat.le_of_eq (Option.some.inj hk))))
          have HB7 := Aside0.mk (HB6.out.grown hg1 HB6.out.size (fun j hj => by cases hj; exact HB3.out.size))
          have hlk := HU7.out.mh.look hwx
          have c3 : w5.cell? ⟨gp, 3, none⟩ = some (.map (some bh)) := (blk_cell HU7.out.hp 3).trans rfl
          have HH := Aside0.mk (And.intro hrg1 hlt)
          have HST := Aside0.mk (show al.filter (fun a => stay P.turned (fun z => left z && !z.sameKey (.int .i64 x)) (fm a)) = al2.filter (fun a => decide ((fm a).n ≠ x)) by rw [stay_step hxt, ← HFN.out])
          clear hrg1 hlt hg1 hat hxt
          cases hx : addr fm al2 x with
          | none =>
            rw [hx] at hlk
            have HFG := Aside0.mk (filter_gone hx)
            clear hx
            unfold pvo at hlk
            go_wp2_with (fail)
            go_roundw
            case rel => exact ⟨_, cnt1, al2, bf2, nf2, ⟨HH.out.1⟩, HU7, ⟨(HST.out.trans HFG.out).symm⟩, HK7, HB7⟩
            case measure => rw [HH.out.1.left_eq, HRG.out.left_eq]; exact HH.out.2
          | some a =>
            rw [hx] at hlk
            obtain ⟨xs, ys, hal, -⟩ := addr_pick hx
            have hnn := HU7.out.nn
            rw [show ({ P with g := P.g.back, held := al2.map fm } : Po).held = al2.map fm from rfl, hal] at hnn
            have HFG := Aside0.mk (filter_one hnn (addr_mem hx).2)
            have HC := Aside0.mk (leave.calls2 gp gl ge bh bt al2 xs ys a fm bf2 nf2 O4 _ w0 w5 HB7.out HU7.out hal)
            have HAL := Aside0.mk hal
            clear hx hal hnn
            unfold pvo at hlk
            go_wp2_with (go_at_call 40; (with_reducible refine HC.out.mono ?_); rintro e w6 ⟨rfl, hu6, -, hb6, hk6, ht6⟩; have HU8 := Aside0.mk hu6; have HB8 := Aside0.mk hb6; have HK8 := Aside0.mk (HK7.out.then_ hk6 (fun k hk => .inl hk)); have HRG8 := Aside0.mk (ranges_as HH.out.1 ht6 (hk6.2 _ HH.out.1.lt HN4.out)); clear hu6 hb6 hk6 ht6)
            go_roundw
            case rel =>
              refine ⟨_, cnt1, xs ++ ys, _, _, HRG8, HU8, ⟨?_⟩, HK8, HB8⟩
              rw [HST.out, HAL.out]
              exact HFG.out.symm
            case measure => rw [HRG8.out.left_eq, HRG.out.left_eq]; exact HH.out.2
    · intro x g w2 cnt1 hwx hfx hlx hrg1 hlt hg1 hs1 hen
      obtain ⟨hga, hgn⟩ := addr_mem hfx
      have hk2 := Kept.of_grown hg1 HK1.out (fun k hk => .inr (Nat.le_of_eq (Option.some.inj hk)))
      have hu2 := HU.out.kept hk2 (fun _ _ h => h)
      have m2 : w2.cell? ⟨g, 2, none⟩ = some (.int .i64 (fm g).p) := (blk_cell (hu2.hf g (List.mem_cons_of_mem _ hga)) 2).trans rfl
      have hng := HNP.out (fm g) (by rw [← HU.out.hl]; exact List.mem_map_of_mem hga)
      have t1 : decide ((fm g).p > 0) = false := decide_eq_false (by omega)
      have t2 : decide (0 < (fm g).p) = false := decide_eq_false (by omega)
      have hb2 := HB1.out.grown hg1 HB1.out.size (fun j hj => by cases hj; exact HB.out.size)
      have HH := Aside0.mk (And.intro hrg1 (And.intro hlt (And.intro hk2 hb2)))
      clear hu2 hng hk2 hb2 hrg1 hlt hg1
      unfold pv at hen
      go_wp2_with (fail)
      go_roundw
      case rel => exact ⟨_, cnt1, ⟨HH.out.1⟩, ⟨HH.out.2.2.1⟩, ⟨HH.out.2.2.2⟩⟩
      case measure => rw [HH.out.1.left_eq, HRG.out.left_eq]; exact HH.out.2.1
end Go.Proofs.Ythaoaaboempajab.Pool
namespace Go.Proofs
open Go.Shelf
def Try.lays189_ren : Go.Shelf.Ren := ⟨fun | 189 => 34 | 125 => 63 | 257 => 62 | 128 => 90 | 129 => 91 | 294 => 81 | 295 => 82 | 296 => 83 | 297 => 84 | 298 => 85 | 299 => 86 | 216 => 87 | 300 => 88 | 301 => 89 | 328 => 92 | 329 => 93 | 330 => 94 | 331 => 95 | 332 => 96 | 215 => 97 | 343 => 98 | n => n, fun | 28 => 23 | 3 => 3 | 46 => 110 | 0 => 0 | 51 => 105 | 53 => 129 | 4 => 4 | 183 => 120 | 182 => 119 | 131 => 125 | 5 => 5 | 9 => 9 | 218 => 130 | 222 => 134 | 228 => 137 | 229 => 138 | n => n, fun | n => n⟩
theorem Try.lays189 : Go.Proofs.Lays.n189 Try.prog Try.lays189_ren := {
  mixed := by kernel_rfl
  f125 := Try.func63.trans (congrArg some (by kernel_rfl))
  f128 := Try.func90.trans (congrArg some (by kernel_rfl))
  f129 := Try.func91.trans (congrArg some (by kernel_rfl))
  f189 := Try.func34.trans (congrArg some (by kernel_rfl))
  f215 := Try.func97.trans (congrArg some (by kernel_rfl))
  f216 := Try.func87.trans (congrArg some (by kernel_rfl))
  f257 := Try.func62.trans (congrArg some (by kernel_rfl))
  f294 := Try.func81.trans (congrArg some (by kernel_rfl))
  f295 := Try.func82.trans (congrArg some (by kernel_rfl))
  f296 := Try.func83.trans (congrArg some (by kernel_rfl))
  f297 := Try.func84.trans (congrArg some (by kernel_rfl))
  f298 := Try.func85.trans (congrArg some (by kernel_rfl))
  f299 := Try.func86.trans (congrArg some (by kernel_rfl))
  f300 := Try.func88.trans (congrArg some (by kernel_rfl))
  f301 := Try.func89.trans (congrArg some (by kernel_rfl))
  f328 := Try.func92.trans (congrArg some (by kernel_rfl))
  f329 := Try.func93.trans (congrArg some (by kernel_rfl))
  f330 := Try.func94.trans (congrArg some (by kernel_rfl))
  f331 := Try.func95.trans (congrArg some (by kernel_rfl))
  f332 := Try.func96.trans (congrArg some (by kernel_rfl))
  f343 := Try.func98.trans (congrArg some (by kernel_rfl))
  t0 := Try.underlying0
  a0 := Try.isAgg0
  z0 := Try.sizeOf0
  v0 := Try.zeroValue0
  t3 := Try.underlying3
  a3 := Try.isAgg3
  z3 := Try.sizeOf3
  v3 := Try.zeroValue3
  t4 := Try.underlying4
  a4 := Try.isAgg4
  z4 := Try.sizeOf4
  v4 := Try.zeroValue4
  t5 := Try.underlying5
  a5 := Try.isAgg5
  z5 := Try.sizeOf5
  v5 := Try.zeroValue5
  t9 := Try.underlying9
  a9 := Try.isAgg9
  z9 := Try.sizeOf9
  v9 := Try.zeroValue9
  t28 := Try.underlying23
  a28 := Try.isAgg23
  z28 := Try.sizeOf23
  v28 := Try.zeroValue23
  t46 := Try.underlying110
  a46 := Try.isAgg110
  z46 := Try.sizeOf110
  v46 := Try.zeroValue110
  t51 := Try.underlying105
  a51 := Try.isAgg105
  z51 := Try.sizeOf105
  v51 := Try.zeroValue105
  t53 := Try.underlying129
  a53 := Try.isAgg129
  z53 := Try.sizeOf129
  v53 := Try.zeroValue129
  t131 := Try.underlying125
  a131 := Try.isAgg125
  z131 := Try.sizeOf125
  v131 := Try.zeroValue125
  t182 := Try.underlying119
  a182 := Try.isAgg119
  z182 := Try.sizeOf119
  v182 := Try.zeroValue119
  t183 := Try.underlying120
  a183 := Try.isAgg120
  z183 := Try.sizeOf120
  v183 := Try.zeroValue120
  t218 := Try.underlying130
  a218 := Try.isAgg130
  z218 := Try.sizeOf130
  v218 := Try.zeroValue130
  t222 := Try.underlying134
  a222 := Try.isAgg134
  z222 := Try.sizeOf134
  v222 := Try.zeroValue134
  t228 := Try.underlying137
  a228 := Try.isAgg137
  z228 := Try.sizeOf137
  v228 := Try.zeroValue137
  t229 := Try.underlying138
  a229 := Try.isAgg138
  z229 := Try.sizeOf138
  v229 := Try.zeroValue138 }
open Go.Sort Go.RowKit in
theorem Try.slices_Sort_int (blk off cap : Nat) (zs : List Int) (w : World) (hH : Holds (Value.int .i64) w blk off zs.toArray) (hblk : blk < w.heap.size) (hsz : zs.length < 4611686018427387904) :
    Calls Try.prog 34 #[.slice (some ⟨blk, off, none⟩) zs.length cap] w fun e w' =>
      e = .returned (.tuple #[]) ∧ ∃ n os, w' = grow (putRow (Value.int .i64) (Sort.ahead w n) blk off (zs.mergeSort fun x y => decide (x ≤ y)).toArray) os := Any.slices_Sort_int Try.lays189 blk off cap zs w hH hblk hsz
open Go.RowKit Go.Sort in
theorem Try.slices_Sort_int_none (p : Option Addr) (cap : Nat) (w : World) :
    Calls Try.prog 34 #[.slice p 0 cap] w fun e w' => e = .returned (.tuple #[]) ∧ w' = w := Any.slices_Sort_int_none Try.lays189 p cap w
end Go.Proofs
namespace Go.Proofs.Ythaoaaboempajab.Pool
open Go.RowKit Go.Maps Go.Proofs.Ythaoaaboempajab.QLogRuns Go.Proofs.Ythaoaaboempajab.QDiskRuns Go.Proofs.Ythaoaaboempajab.Disk Go.Proofs.Ythaoaaboempajab.Log Go.Proofs.YthaoaaboempajabW.PrintWords Go.Proofs.YthaoaaboempajabW.PrintLast Go.Proofs.YthaoaaboempajabW.PrintMore
set_option linter.unusedVariables false
set_option linter.unusedSimpArgs false
theorem put_heap (w : World) (n : Nat) (g : Nat) (d : Array Int) (os : Array Obj) (cur : Array Value) (h : w.heap[g]? = some (.cells cur 3 (0, 0))) :
    (Go.Sort.grow (Go.Sort.putRow (Value.int .i64) (Go.Sort.ahead w n) g 0 d) os).heap[g]? = some (.cells (Go.Sort.putCells (Value.int .i64) 0 d cur) 3 (0, 0)) ∧
    (∀ k, k < w.heap.size → k ≠ g → (Go.Sort.grow (Go.Sort.putRow (Value.int .i64) (Go.Sort.ahead w n) g 0 d) os).heap[k]? = w.heap[k]?) ∧
    w.heap.size ≤ (Go.Sort.grow (Go.Sort.putRow (Value.int .i64) (Go.Sort.ahead w n) g 0 d) os).heap.size := by
  have hlt : g < w.heap.size := (Array.getElem?_eq_some_iff.1 h).1
  have hs : (Go.Sort.putRow (Value.int .i64) (Go.Sort.ahead w n) g 0 d).heap.size = w.heap.size := by simp [Go.Sort.putRow, Go.Sort.mapBlock, Go.Sort.ahead]
  refine ⟨?_, fun k hk hne => ?_, ?_⟩
  · show ((Go.Sort.putRow (Value.int .i64) (Go.Sort.ahead w n) g 0 d).heap ++ os)[g]? = _
    rw [Array.getElem?_append_left (by rw [hs]; exact hlt)]
    simp [Go.Sort.putRow, Go.Sort.mapBlock, Go.Sort.ahead, Array.getElem?_modify, h, Go.Sort.onCells]
  · show ((Go.Sort.putRow (Value.int .i64) (Go.Sort.ahead w n) g 0 d).heap ++ os)[k]? = _
    rw [Array.getElem?_append_left (by rw [hs]; exact hk)]
    simp [Go.Sort.putRow, Go.Sort.mapBlock, Go.Sort.ahead, Array.getElem?_modify, Ne.symm hne]
  · show _ ≤ ((Go.Sort.putRow (Value.int .i64) (Go.Sort.ahead w n) g 0 d).heap ++ os).size
    rw [Array.size_append, hs]
    omega
theorem nums_get {zs : List Int} {cur : Array Value} (h : cur.toList.take (zs.length * 1) = nums .i64 zs) (j : Nat) (hj : j < zs.length) : cur[j]? = some (.int .i64 zs[j]) := by
  have h2 := congrArg (fun l => l[j]?) h
  simp only [nums, List.getElem?_map, Nat.mul_one] at h2
  rw [List.getElem?_take_of_lt hj, List.getElem?_eq_getElem hj] at h2
  simpa using h2
theorem sort.calls (base : Nat) (v : Value) (zs : List Int) (w : World) (ho : w.ownsRow base 3 1 v zs.length (nums .i64 zs)) (hb : base ≤ w.heap.size) (hl : zs.length ≤ 1000) :
    Calls Try.prog 34 #[v] w fun e w' => e = .returned (.tuple #[]) ∧ w'.ownsRow base 3 1 v zs.length (nums .i64 (zs.mergeSort fun x y => decide (x ≤ y))) ∧ Below base w w' := by
  rcases ho.2 with ⟨rfl, h0⟩ | ⟨g, cap, cur, rfl, hbg, hh, hc1, hc2, hsz, htk⟩
  · have hz : zs = [] := List.length_eq_zero_iff.1 h0
    subst hz
    refine (Try.slices_Sort_int_none none 0 w).mono ?_
    rintro e w' ⟨rfl, rfl⟩
    exact ⟨rfl, by simpa using ho, Below.refl _ _⟩
  · have hlt : g < w.heap.size := (Array.getElem?_eq_some_iff.1 hh).1
    refine (Try.slices_Sort_int g 0 cap zs w (fun j hj => ?_) hlt (by omega)).mono ?_
    · have hj' : j < zs.length := by simpa using hj
      refine ⟨?_, blk_frozen hh _⟩
      rw [show (0 + j) = j by omega]
      have := blk_cell hh j
      rw [this, nums_get htk j hj']
      simp [hj']
    · rintro e w' ⟨rfl, n, os, rfl⟩
      obtain ⟨p1, p2, p3⟩ := put_heap w n g (zs.mergeSort fun x y => decide (x ≤ y)).toArray os cur hh
      have hml : (zs.mergeSort fun x y => decide (x ≤ y)).length = zs.length := List.length_mergeSort _
      refine ⟨rfl, ⟨by simp [nums, hml], .inr ⟨g, cap, _, rfl, hbg, p1, hc1, hc2, by simp [Go.Sort.putCells, hsz], ?_⟩⟩, ⟨rfl, rfl, rfl, p3, fun k hk => p2 k (by omega) (by omega)⟩⟩
      apply List.ext_getElem?
      intro j
      by_cases hj : j < zs.length
      · rw [Nat.mul_one, List.getElem?_take_of_lt hj]
        have hjc : j < cur.size := by omega
        simp [nums, Go.Sort.putCells, hjc, hml, hj]
      · rw [List.getElem?_eq_none (by rw [List.length_take]; omega), List.getElem?_eq_none (by simp [nums, hml]; omega)]
theorem sorted_ext : ∀ {a b : List Int}, a.Pairwise (· < ·) → b.Pairwise (· < ·) → (∀ n, n ∈ a ↔ n ∈ b) → a = b
  | [], [], _, _, _ => rfl
  | [], y :: b, _, _, h => absurd ((h y).2 List.mem_cons_self) (by simp)
  | x :: a, [], _, _, h => absurd ((h x).1 List.mem_cons_self) (by simp)
  | x :: a, y :: b, ha, hb, h => by
    obtain ⟨a1, a2⟩ := List.pairwise_cons.1 ha
    obtain ⟨b1, b2⟩ := List.pairwise_cons.1 hb
    have e : x = y := by
      rcases List.mem_cons.1 ((h x).1 List.mem_cons_self) with e | e
      · exact e
      · rcases List.mem_cons.1 ((h y).2 List.mem_cons_self) with e2 | e2
        · exact e2.symm
        · have := b1 x e
          have := a1 y e2
          omega
    subst e
    refine congrArg (x :: ·) (sorted_ext a2 b2 (fun n => ⟨fun hn => ?_, fun hn => ?_⟩))
    · rcases List.mem_cons.1 ((h n).1 (List.mem_cons_of_mem _ hn)) with e | e
      · have := a1 n hn; omega
      · exact e
    · rcases List.mem_cons.1 ((h n).2 (List.mem_cons_of_mem _ hn)) with e | e
      · have := b1 n hn; omega
      · exact e
theorem strict {l : List Int} (h : l.Pairwise (· ≤ ·)) (hn : l.Nodup) : l.Pairwise (· < ·) :=
  (h.and hn).imp (fun ⟨h1, h2⟩ => by omega)
theorem ins_sorted (n : Int) : ∀ {l : List Int}, l.Pairwise (· ≤ ·) → (ins n l).Pairwise (· ≤ ·)
  | [], _ => List.pairwise_singleton _ _
  | m :: l, h => by
    obtain ⟨h1, h2⟩ := List.pairwise_cons.1 h
    unfold ins
    split
    · rename_i hle
      refine List.pairwise_cons.2 ⟨fun x hx => ?_, h⟩
      rcases List.mem_cons.1 hx with e | e
      · omega
      · have := h1 x e; omega
    · rename_i hle
      refine List.pairwise_cons.2 ⟨fun x hx => ?_, ins_sorted n h2⟩
      rcases List.mem_cons.1 ((ins_perm n l).mem_iff.1 hx) with e | e
      · omega
      · exact h1 x e
theorem sortI_sorted : ∀ l : List Int, (sortI l).Pairwise (· ≤ ·)
  | [] => List.Pairwise.nil
  | n :: l => ins_sorted n (sortI_sorted l)
theorem merge_sorted (zs : List Int) : (zs.mergeSort fun x y => decide (x ≤ y)).Pairwise (· ≤ ·) :=
  (List.pairwise_mergeSort (le := fun x y : Int => decide (x ≤ y)) (by intro a b c h1 h2; simp only [decide_eq_true_eq] at *; omega) (by intro a b; simp only [Bool.or_eq_true, decide_eq_true_eq]; omega) zs).imp (fun h => by simpa using h)
theorem dirty_is {zs : List Int} {l : List Fm} (hl : (l.map Fm.n).Nodup) (hz : zs.Nodup) (h : ∀ n, n ∈ zs ↔ ∃ f ∈ l, f.d = true ∧ f.n = n) : (zs.mergeSort fun x y => decide (x ≤ y)) = dirtyN l := by
  refine sorted_ext (strict (merge_sorted zs) ((List.mergeSort_perm zs _).nodup_iff.2 hz)) (strict (sortI_sorted _) (nodup_dirtyN hl)) (fun n => ?_)
  rw [(List.mergeSort_perm zs _).mem_iff, h, mem_dirtyN]
def Seen (l : List Fm) (left : Lit → Bool) (zs : List Int) : Prop := zs.Nodup ∧ ∀ n, n ∈ zs ↔ ∃ f ∈ l, (f.d = true ∧ f.n = n) ∧ left (.int .i64 n) = false
theorem Seen.end_ {l : List Fm} {left : Lit → Bool} {zs : List Int} (h : Seen l left zs) (hl : ∀ kl, left kl = false) (hn : (l.map Fm.n).Nodup) : (zs.mergeSort fun x y => decide (x ≤ y)) = dirtyN l :=
  dirty_is hn h.1 (fun n => (h.2 n).trans ⟨fun ⟨f, a, b, _⟩ => ⟨f, a, b⟩, fun ⟨f, a, b⟩ => ⟨f, a, b, hl _⟩⟩)
theorem Seen.start {D : DataW Unit} {al : List Nat} {fm : Nat → Fm} (hf : Tells2 D (addr fm al)) (hn : ((al.map fm).map Fm.n).Nodup) (hw : ∀ f ∈ al.map fm, (Lit.int .i64 f.n).wf = true) : Seen (al.map fm) (Maps.has D) [] := by
  refine ⟨List.nodup_nil, fun n => ⟨fun h => absurd h (List.not_mem_nil), fun ⟨f, hf1, ⟨_, e⟩, hl⟩ => ?_⟩⟩
  obtain ⟨a, ha, rfl⟩ := List.mem_map.1 hf1
  have hx := hf (fm a).n (hw _ hf1)
  rw [addr_in hn ha] at hx
  rw [← e, hx.1] at hl
  cases hl
theorem Seen.step {l : List Fm} {left : Lit → Bool} {zs : List Int} (h : Seen l left zs) {f : Fm} (hf : f ∈ l) (hn : (l.map Fm.n).Nodup) (hl : left (.int .i64 f.n) = true) : Seen l (fun z => left z && !z.sameKey (.int .i64 f.n)) (if f.d = true then zs ++ [f.n] else zs) := by
  have hnot : f.n ∉ zs := fun e => by
    obtain ⟨_, _, _, h3⟩ := (h.2 _).1 e
    rw [hl] at h3; cases h3
  have key : ∀ n, (left (.int .i64 n) && !(Lit.int .i64 n).sameKey (Lit.int .i64 f.n)) = false ↔ (left (.int .i64 n) = false ∨ n = f.n) := by
    intro n
    by_cases e : n = f.n
    · rw [e, left_cut_self left]; simp
    · rw [left_cut left e]; simp [e]
  have uniq : ∀ g ∈ l, g.n = f.n → g = f := fun g hg e => by
    obtain ⟨i, hi, rfl⟩ := List.mem_iff_getElem.1 hg
    obtain ⟨j, hj, rfl⟩ := List.mem_iff_getElem.1 hf
    have : i = j := (List.getElem_inj (xs := l.map Fm.n) (i := i) (j := j) (h₀ := by simpa using hi) (h₁ := by simpa using hj) hn).1 (by simpa using e)
    subst this; rfl
  by_cases hd : f.d = true
  · rw [if_pos hd]
    refine ⟨List.nodup_append.2 ⟨h.1, by simp, fun a ha b hb e => hnot (by rw [← List.mem_singleton.1 hb, ← e]; exact ha)⟩, fun n => ?_⟩
    rw [List.mem_append, List.mem_singleton, h.2]
    constructor
    · rintro (⟨g, g1, g2, g3⟩ | rfl)
      · exact ⟨g, g1, g2, (key n).2 (.inl g3)⟩
      · exact ⟨f, hf, ⟨hd, rfl⟩, (key _).2 (.inr rfl)⟩
    · rintro ⟨g, g1, g2, g3⟩
      rcases (key n).1 g3 with e | e
      · exact .inl ⟨g, g1, g2, e⟩
      · exact .inr e
  · rw [if_neg hd]
    refine ⟨h.1, fun n => ?_⟩
    rw [h.2]
    constructor
    · rintro ⟨g, g1, g2, g3⟩
      exact ⟨g, g1, g2, (key n).2 (.inl g3)⟩
    · rintro ⟨g, g1, g2, g3⟩
      rcases (key n).1 g3 with e | e
      · exact ⟨g, g1, g2, e⟩
      · exact absurd (by rw [← uniq g g1 (g2.2.trans e)]; exact g2.1) hd
theorem info3p : (Try.prog.info? 3).map (fun i => (i.zero, i.size, i.bytes)) = some (some (.int .i64 0), 1, 8) := by kernel_rfl
theorem own_at {w : World} {dg : Nat} {cur : Array Value} {l : List Int} (h : w.heap[dg]? = some (.cells cur 3 (0, 0))) (htk : cur.toList.take (l.length * 1) = nums .i64 l) {j : Nat} (hj : j < l.length) : w.cell? ((⟨dg, 0, none⟩ : Addr).add j) = some (.int .i64 l[j]) := by
  have e : (⟨dg, 0, none⟩ : Addr).add j = ⟨dg, j, none⟩ := by
    unfold Addr.add
    split
    · rename_i h0; rw [h0]
    · show (⟨dg, 0 + j, none⟩ : Addr) = _
      rw [Nat.zero_add]
  rw [e]
  exact (blk_cell h j).trans (nums_get htk j hj)
theorem own_box {w : World} {base : Nat} {v : Value} {l : List Int} (h : w.ownsRow base 3 1 v l.length (nums .i64 l)) (hl : l ≠ []) : ∃ (ad : Addr) (cap : Nat) (cur : Array Value), v = .slice (some ad) l.length cap ∧ base ≤ ad.block ∧ ad = ⟨ad.block, 0, none⟩ ∧ w.heap[ad.block]? = some (.cells cur 3 (0, 0)) ∧ cur.toList.take (l.length * 1) = nums .i64 l := by
  rcases h.2 with ⟨_, h0⟩ | ⟨g, cap, cur, rfl, h1, h2, _, _, _, h3⟩
  · exact absurd (List.length_eq_zero_iff.1 h0) hl
  · exact ⟨_, cap, cur, rfl, h1, rfl, h2, h3⟩
theorem own_at2 {w : World} {ad : Addr} {cur : Array Value} {l : List Int} (ha : ad = ⟨ad.block, 0, none⟩) (h : w.heap[ad.block]? = some (.cells cur 3 (0, 0))) (htk : cur.toList.take (l.length * 1) = nums .i64 l) {j : Nat} (hj : j < l.length) : w.cell? (ad.add j) = some (.int .i64 l[j]) := by
  rw [ha]
  exact own_at h htk hj
theorem PU.tell {w : World} {base gp gl ge bh bt a : Nat} {al : List Nat} {fm : Nat → Fm} {bf nf : Nat → Nat} {O : Nat → Prop} {Q : Po} (h : PU w base gp gl ge bh bt al fm bf nf O Q) (ha : a ∈ al) :
    PU (w.setCell ⟨a, 3, none⟩ (.bool false)) base gp gl ge bh bt al (upm fm a { fm a with d := false }) bf nf O { Q with held := cleanN Q.held (fm a).n } := by
  refine (h.setf ha 3 (.bool false) { fm a with d := false } (fun b n => rfl) rfl).same rfl ?_ rfl
  show cleanN Q.held (fm a).n = al.map (upm fm a { fm a with d := false })
  unfold cleanN
  rw [← h.hl, List.map_map]
  refine List.map_congr_left (fun z hz => ?_)
  show (if (fm z).n = (fm a).n then { fm z with d := false } else fm z) = upm fm a { fm a with d := false } z
  by_cases e : z = a
  · rw [e, upm_same, if_pos rfl]
  · rw [upm_other _ _ e, if_neg]
    intro e2
    have hn := h.nn
    rw [← h.hl] at hn
    have e3 := addr_in hn hz
    rw [e2, addr_in hn ha] at e3
    exact e (Option.some.inj e3).symm
theorem textN_at {al : List Nat} {fm : Nat → Fm} {l : List Fm} {n : Int} {a : Nat} (hl : al.map fm = l) (h : addr fm al n = some a) : textN l n = (fm a).t := by
  obtain ⟨xs, ys, -, hp⟩ := addr_pick h
  unfold textN
  rw [← hl, hp]
theorem get_last (P : Po) (n : Int) : (P.get n).1 = 0 → (lastF (P.get n).2.held).n = n := by
  unfold Po.get
  split
  · intro h; exact absurd h (show ¬ ((7 : Int) = 0) by decide)
  · cases hp : pickF n P.held with
    | some y =>
      obtain ⟨xs, f, ys⟩ := y
      intro _
      show (lastF (xs ++ ys ++ [f])).n = n
      rw [lastF_snoc]
      exact (pickF_some hp).2.1
    | none =>
      simp only
      split
      · rename_i h1
        intro h
        exact absurd h h1
      · unfold Po.fetch
        split
        · rename_i h1
          intro h
          exact absurd h h1
        · intro _
          show (lastF (P.room.2.held ++ [_])).n = n
          rw [lastF_snoc]
theorem flush_cons {P : Po} {n m : Int} {r : List Int} : P.flush (n :: m :: r) = if (Lg.append P.s P.g n (textN P.held n)).1 ≠ 0 then ((Lg.append P.s P.g n (textN P.held n)).1, { P with s := (Lg.append P.s P.g n (textN P.held n)).2.1, g := (Lg.append P.s P.g n (textN P.held n)).2.2 }) else Po.flush { P with s := (Lg.append P.s P.g n (textN P.held n)).2.1, g := (Lg.append P.s P.g n (textN P.held n)).2.2, held := cleanN P.held n } (m :: r) := rfl
theorem flush_one {P : Po} {n : Int} : P.flush [n] = if (Lg.commit P.s P.g n (textN P.held n) P.pages).c ≠ 0 then ((Lg.commit P.s P.g n (textN P.held n) P.pages).c, { P with s := (Lg.commit P.s P.g n (textN P.held n) P.pages).s, g := (Lg.commit P.s P.g n (textN P.held n) P.pages).g }) else (0, { P with s := (Lg.commit P.s P.g n (textN P.held n) P.pages).s, g := (Lg.commit P.s P.g n (textN P.held n) P.pages).g, held := cleanN P.held n }) := rfl
theorem clean_fine {P : Po} {m : Nat} {s : St} {g : Lg} (h : P.fine m) (hs : s.ok (m + 4)) (hg : g.ok) (n : Int) : ({ P with s := s, g := g, held := cleanN P.held n } : Po).fine (m + 4) :=
  ⟨hs, hg, by have := h.len; show (P.held.map _).length ≤ 100; rw [List.length_map]; exact this, h.pages, h.most, Nat.le_trans h.tl (by omega)⟩
set_option maxHeartbeats 16000000 in
set_option maxRecDepth 100000 in
theorem pcommit_clean (gd gl gp : Nat) (O : Nat → Prop) (P : Po) (m : Nat) (w0 w : World) (hB : Below w0.heap.size w0 w) (hP : PQ w0.heap.size gd gl gp P w O) (hf : P.fine m) (hm : m ≤ 100000000) (hpg : 1 ≤ P.pages) (hdn0 : dirtyN P.held = []) :
    Calls Try.prog 15 #[pv gp] w (Did w0 w gd gl gp O (.int .i64 P.commit.1) P.commit.2) := by
  have HB := Aside0.mk hB
  have HP := Aside0.mk hP
  have HF := Aside0.mk hf
  have HM := Aside0.mk hm
  have HPG := Aside0.mk hpg
  have HDN := Aside0.mk hdn0
  clear hdn0
  obtain ⟨ge, bh, bt, al, fm, bf, nf, hS⟩ := PQ.open_ hP
  have HS := Aside0.mk hS
  obtain ⟨O2, hU, -⟩ := Sep.right hS (fpP _ _ _ _ _)
  have hU : PU w w0.heap.size gp gl ge bh bt al fm bf nf O2 P := hU
  have HU := Aside0.mk hU
  have q6 : w.cell? ⟨gp, 6, none⟩ = some (.map (some bt)) := (blk_cell hU.hp 6).trans rfl
  have hl6 : ∀ ty, (Builtin.len_ #[67] ty #[.map (some bt)]).run Try.prog w = .ok (.int .i64 P.turned.length) w := hU.mt.len
  by_cases ht : P.turned = []
  · have t0 : ((P.turned.length : Int) == 0) = true := by rw [ht]; rfl
    have HR := Aside0.mk (show P.commit = (0, P) by unfold Po.commit; rw [if_pos ht])
    clear hB hP hf hm hpg hS hU ht
    go_enter Try.func15, Try.ntmps15
    go_wp2_with (fail)
    go_ret
    rw [HR.out]
    exact Did.rest HB.out HP.out
  · have t0 : ((P.turned.length : Int) == 0) = false := beq_false_of_ne (by have : P.turned.length ≠ 0 := fun e => ht (List.length_eq_zero_iff.1 e); omega)
    have HT := Aside0.mk ht
    have q3 : w.cell? ⟨gp, 3, none⟩ = some (.map (some bh)) := (blk_cell hU.hp 3).trans rfl
    obtain ⟨D, hown, hsz, hfd⟩ := hU.mh
    have HO := Aside0.mk hown
    have HSZ := Aside0.mk hsz
    have HFD := Aside0.mk (show Tells2 D (addr fm al) from hfd)
    clear hB hP hf hm hpg hS hU ht hown hsz hfd
    go_enter Try.func15, Try.ntmps15
    go_wp2_with (first
      | (at_range; refine wpList_range_own _ rfl _ 66 rfl 3 65 law3 Try.underlying66 elemP bh al.length D rfl HO.out ?_; intro w1 hrg1 hg1 hs1)
      | go_in)
    try go_frame
    have HRG := Aside0.mk hrg1
    have HK1 := Aside0.mk (show Kept w w1 (fun _ => False) from Kept.of_grown hg1 (Kept.refl w _) (fun j hj => by cases hj))
    have HB1 := Aside0.mk (show Below w0.heap.size w0 w1 from HB.out.grown hg1 HB.out.size (fun j hj => by cases hj))
    have HBW := Aside0.mk (show Below w.heap.size w w1 from (Below.refl w.heap.size w).grown hg1 (Nat.le_refl _) (fun j hj => by cases hj))
    clear hrg1 hg1 hs1 q3 q6 hl6
    go_loopw [3, 4, 5] (fun v3 _ _ wr => ∃ (left : Lit → Bool) (cnt : Nat) (zs : List Int), Aside0 (wr.ranges Try.prog 3 elemP bh w.heap.size al.length D left cnt) ∧ Aside0 (wr.ownsRow w.heap.size 3 1 v3 zs.length (nums .i64 zs)) ∧ Aside0 (Seen P.held left zs) ∧ Aside0 (zs.length + cnt ≤ al.length) ∧ Aside0 (Kept w wr (fun _ => False)) ∧ Aside0 (Below w0.heap.size w0 wr) ∧ Aside0 (Below w.heap.size w wr)) (fun _ _ _ wr => wr.rangeLeft bh w.heap.size)
    case atStart =>
      refine ⟨_, _, [], HRG, ⟨own_nil _ _ _ _⟩, ⟨?_⟩, ⟨by rw [HSZ.out]; exact Nat.le_of_eq (Nat.zero_add _)⟩, HK1, HB1, HBW⟩
      have h1 := Seen.start HFD.out (by rw [HU.out.hl]; exact HU.out.nn) (by rw [HU.out.hl]; exact HU.out.wf)
      rw [HU.out.hl] at h1
      exact h1
    case round =>
      clear HRG HK1 HB1 HBW
      obtain ⟨left, cnt, zs, HRG, HOW, HSN, HCN, HK1, HB1, HBW⟩ := hrel
      go_wp2_with (first
        | (at_next; refine wpList_next_held _ rfl _ rfl bh w.heap.size al.length D (addr fm al) left cnt rfl HFD.out HRG.out ?_ ?_)
        | go_in)
      · intro hc0 hl0
        have HLZ := Aside0.mk (show zs.length ≤ 1000 by have h1 := HCN.out; have h2 := HU.out.len; have h3 := HF.out.len; omega)
        have HDI := Aside0.mk (HSN.out.end_ hl0 HU.out.nn)
        have HSO := Aside0.mk (sort.calls w.heap.size _ zs wr HOW.out HBW.out.size HLZ.out)
        clear HRG hc0 hl0
        go_upto_region 10 with (go_at_call 34; (with_reducible refine HSO.out.mono ?_); rintro e w3 ⟨rfl, how3, hb3⟩; have HS3 := Aside0.mk (And.intro how3 hb3); clear how3 hb3)
        have hml := congrArg List.length HDI.out
        rw [List.length_mergeSort] at hml
        have how3 := HS3.out.1
        rw [HDI.out, hml] at how3
        have HOW3 := Aside0.mk how3
        have HK3 := Aside0.mk (show Kept w w3 (fun _ => False) from ⟨Nat.le_trans HK1.out.1 HS3.out.2.size, fun i hi hn => (HS3.out.2.block i hi).trans (HK1.out.2 i hi hn)⟩)
        have HB3 := Aside0.mk (show Below w0.heap.size w0 w3 from ⟨HS3.out.2.os.trans HB1.out.os, HS3.out.2.tape.trans HB1.out.tape, HS3.out.2.output.trans HB1.out.output, Nat.le_trans HB1.out.size HS3.out.2.size, fun k hk => (HS3.out.2.block k (Nat.lt_of_lt_of_le hk HB.out.size)).trans (HB1.out.block k hk)⟩)
        have HLD := Aside0.mk (show (dirtyN P.held).length ≤ 1000 by rw [← hml]; exact HLZ.out)
        clear hml how3 HSO HOW HSN
        have hdn := HDN.out
        obtain ⟨A3, c3, e3, -⟩ := own_reads HOW3.out
        subst e3
        have t1 : (((dirtyN P.held).length : Int) == 0) = true := by rw [hdn]; rfl
        have HP3 := Aside0.mk ((fpQ _ _ _ _ _).apart HP.out HK3.out (fun _ _ h => h))
        have hc := get.calls gd gl gp O P m 0 w0 w3 HB3.out HP3.out HF.out (by have := HM.out; omega) (by decide)
        have hqf := get_fine HF.out 0
        obtain ⟨⟨c, Q⟩, hr⟩ : ∃ r, r = P.get 0 := ⟨_, rfl⟩
        rw [← hr] at hc hqf
        have HC := Aside0.mk hc
        have HQF := Aside0.mk (show Q.fine (m + 1) from hqf)
        have HR := Aside0.mk (show P.commit = if c ≠ 0 then (c, Q) else Q.flushed [0] by unfold Po.commit; rw [if_neg HT.out, if_pos hdn, ← hr])
        have HGL := Aside0.mk (show c = 0 → (lastF Q.held).n = 0 by have := get_last P 0; rw [← hr] at this; exact this)
        clear hc hqf hr hdn
        by_cases hc0 : c = 0
        · subst hc0
          have HGL0 := Aside0.mk (HGL.out rfl)
          clear HGL
          go_upto_region 14 with (go_at_call 35; (with_reducible refine HC.out.mono ?_); rintro e w5 ⟨v, rfl, hb5, hk5, hq5⟩; have HG5 := Aside0.mk (And.intro hb5 (And.intro hk5 hq5)); clear hb5 hk5 hq5)
          obtain ⟨-, ge5, bh5, bt5, al0, a0, fm5, bf5, nf5, rfl, hs5⟩ := HG5.out.2.2.resolve_left (fun h => h.1 rfl)
          have HS5 := Aside0.mk hs5
          clear hs5
          go_upto_region 15 with (fail)
          obtain ⟨al, hal5⟩ : ∃ al, al = al0 ++ [a0] := ⟨_, rfl⟩
          rw [← hal5] at HS5
          obtain ⟨O9, hu9, -⟩ := Sep.right HS5.out (fpP _ _ _ _ _)
          have HU9 := Aside0.mk (show PU w5 w0.heap.size gp gl ge5 bh5 bt5 al fm5 bf5 nf5 O9 Q from hu9)
          have HDG := Aside0.mk (blk_new w5 (Obj.cells #[.int .i64 0] 3 (0, 0)))
          have hb6 := below_alloc (Below.refl w5.heap.size w5) (Obj.cells #[.int .i64 0] 3 (0, 0))
          obtain ⟨Ol, hOl⟩ : ∃ Ol : Nat → Prop, Ol = fun k => (O k ∨ w3.heap.size ≤ k) ∧ w0.heap.size ≤ k ∧ k < w5.heap.size := ⟨_, rfl⟩
          have HNO := Aside0.mk (show ¬ Ol w5.heap.size by rw [hOl]; intro h; exact Nat.lt_irrefl _ h.2.2)
          have HOL := Aside0.mk (show ∀ k, Ol k → O k ∨ w.heap.size ≤ k by rw [hOl]; exact fun k h => h.1.imp id (Nat.le_trans HK3.out.1))
          have HLS := Aside0.mk (show Log.Sep w0.heap.size (pP w0.heap.size gd gl Q.s Q.g) (PUp w0.heap.size gp gl ge5 bh5 bt5 al fm5 bf5 nf5 Q) (w5.alloc (Obj.cells #[.int .i64 0] 3 (0, 0))) Ol by
            rw [hOl]
            exact (frSep (fpP _ _ _ _ _) (fpU _ _ _ _ _ _ _ _ _ _ _)).apart ((frSep (fpP _ _ _ _ _) (fpU _ _ _ _ _ _ _ _ _ _ _)).narrow HS5.out) (Kept.of_below hb6 (fun _ => False)) (fun _ _ h => h))
          obtain ⟨mq, hmq⟩ : ∃ mq, mq = m + 1 := ⟨_, rfl⟩
          have HMQ := Aside0.mk (show mq ≤ 150000000 by have := HM.out; omega)
          have HFQ := Aside0.mk (show Q.fine (mq + 4 * 0) by rw [hmq]; exact HQF.out)
          have HBL := Aside0.mk (below_step HG5.out.1 hb6)
          have HKL := Aside0.mk (show Kept w (w5.alloc (Obj.cells #[.int .i64 0] 3 (0, 0))) O from ((HK3.out.mono (S' := O) (fun _ h => h.elim)).then_ HG5.out.2.1 (fun k hk => .inl hk)).then_ (Kept.of_below hb6 (fun _ => False)) (fun k hk => hk.elim))
          have HRES := Aside0.mk (show P.commit = Q.flushed [0] by rw [HR.out, if_neg (fun h => h rfl)])
          have HIN := Aside0.mk (show ∀ n ∈ ([0] : List Int), ∃ a, a ∈ al ∧ (fm5 a).n = n ∧ (-9223372036854775808 ≤ n ∧ n < 9223372036854775808) from fun n hn => by
            rw [List.mem_singleton.1 hn]
            refine ⟨a0, by rw [hal5]; simp, ?_, by decide⟩
            have h1 := lastF_map (show (al0 ++ [a0]).map fm5 = Q.held by rw [← hal5]; exact HU9.out.hl)
            rw [← h1.1]
            exact HGL0.out)
          have HTK := Aside0.mk (show (#[.int .i64 0] : Array Value).toList.take (([0] : List Int).length * 1) = nums .i64 [0] from rfl)
          obtain ⟨lz, hlz⟩ : ∃ lz : List Int, lz = [0] := ⟨_, rfl⟩
          have HLN := Aside0.mk (show lz.length = 1 by rw [hlz]; rfl)
          have HLL := Aside0.mk (show lz.length ≤ 1000 by rw [hlz]; decide)
          rw [← hlz] at HRES HIN HTK
          have HDL0 := Aside0.mk (show w5.heap.size < (w5.alloc (Obj.cells #[.int .i64 0] 3 (0, 0))).heap.size by simp)
          generalize hg : (⟨w5.heap.size, 0, none⟩ : Addr) = ad
          have hblk : ad.block = w5.heap.size := by rw [← hg]
          have HAD := Aside0.mk (show ad = ⟨ad.block, 0, none⟩ by rw [hblk]; exact hg.symm)
          rw [← hblk] at HDG HNO HDL0
          clear hb6 hOl hmq hlz hu9 hg hblk
          generalize w5.alloc (Obj.cells #[.int .i64 0] 3 (0, 0)) = wl at HLS HBL HKL HDL0 HDG ⊢
          have HDL := HDL0
          go_wp2_with (fail)
          go_loopw [8, 9, 10, 11, 52] (fun _ _ _ _ v52 wr => ∃ (i : Nat) (fi : Nat → Fm) (R : Po), i ≤ lz.length ∧ v52 = .int .i64 (i : Int) ∧ Aside0 (Log.Sep w0.heap.size (pP w0.heap.size gd gl R.s R.g) (PUp w0.heap.size gp gl ge5 bh5 bt5 al fi bf5 nf5 R) wr (fun k => Ol k ∨ wl.heap.size ≤ k)) ∧ Aside0 (Kept wl wr Ol) ∧ Aside0 (Below w0.heap.size w0 wr) ∧ Aside0 (R.fine (mq + 4 * i)) ∧ Aside0 (Q.flush lz = R.flush (lz.drop i)) ∧ Aside0 (∀ z ∈ al, (fi z).n = (fm5 z).n)) (fun _ _ _ _ v52 _ => lz.length - (intOf v52).toNat)
          case atStart => exact ⟨0, fm5, Q, Nat.zero_le _, rfl, ⟨(frSep (fpP _ _ _ _ _) (fpU _ _ _ _ _ _ _ _ _ _ _)).mono HLS.out (fun k hk => .inl hk)⟩, ⟨Kept.refl _ _⟩, HBL, HFQ, ⟨rfl⟩, ⟨fun _ _ => rfl⟩⟩
          case round =>
            obtain ⟨i, fi, R, hi, rfl, HSR, HKR, HBR, HFR, HFL, HFN⟩ := hrel
            have hlen := HLN.out
            by_cases hlt : i < lz.length
            · have t_ : decide ((i : Int) < (1 : Int)) = true := decide_eq_true (by omega)
              have f0 : wr.cell? (ad.add i) = some (.int .i64 (lz[i]'hlt)) := own_at2 HAD.out ((HKR.out.2 ad.block HDL.out HNO.out).trans HDG.out) HTK.out hlt
              have HDR := Aside0.mk (List.drop_eq_getElem_cons hlt)
              have HLT := Aside0.mk hlt
              have e8 : wrap64 ((i : Int) + 1) = (i : Int) + 1 := wrap64_id (by have := HLL.out; omega)
              have HNI := Aside0.mk (HIN.out _ (List.getElem_mem hlt))
              generalize lz[i]'hlt = n at f0 HDR HNI
              obtain ⟨a, ham, han, hwn⟩ := HNI.out
              obtain ⟨O5, hu5, -⟩ := Sep.right HSR.out (fpP _ _ _ _ _)
              have hu5 : PU wr w0.heap.size gp gl ge5 bh5 bt5 al fi bf5 nf5 O5 R := hu5
              have HAM := Aside0.mk ham
              have HAN := Aside0.mk (show (fi a).n = n from (HFN.out a ham).trans han)
              have HWN := Aside0.mk hwn
              have hlk := hu5.mh.look (wf_int hwn)
              have hat : addr fi al n = some a := by rw [← HAN.out]; exact addr_in (by rw [hu5.hl]; exact hu5.nn) ham
              rw [hat] at hlk
              have HTX0 := Aside0.mk (show textN R.held n = (fi a).t from textN_at hu5.hl hat)
              have c3 : wr.cell? ⟨gp, 3, none⟩ = some (.map (some bh5)) := (blk_cell hu5.hp 3).trans rfl
              have q0 : wr.cell? ⟨gp, 0, none⟩ = some (pv gl) := (blk_cell hu5.hp 0).trans rfl
              have q4 : wr.cell? ⟨gp, 4, none⟩ = some (.int .i64 R.pages) := (blk_cell hu5.hp 4).trans rfl
              have m1 : wr.cell? ⟨a, 1, none⟩ = some (.string (fi a).t) := (blk_cell (hu5.hf a (List.mem_cons_of_mem _ ham)) 1).trans rfl
              unfold pv at q0
              unfold pvo pv at hlk
              obtain ⟨t, ht⟩ : ∃ t, t = (fi a).t := ⟨_, rfl⟩
              have HTX := Aside0.mk (show textN R.held n = t from HTX0.out.trans ht.symm)
              rw [← ht] at m1
              clear hu5 hat ham han hwn HTX0 ht
              by_cases hlast : i + 1 < lz.length
              · have t2 : decide ((i : Int) < (1 : Int) - 1) = true := decide_eq_true (by omega)
                have e7 : wrap64 ((1 : Int) - 1) = (1 : Int) - 1 := wrap64_id (by have := HLL.out; omega)
                have HLAST := Aside0.mk hlast
                exact absurd hlast (by have := HLN.out; omega)
              · have t2 : decide ((i : Int) < (1 : Int) - 1) = false := decide_eq_false (by omega)
                have e7 : wrap64 ((1 : Int) - 1) = (1 : Int) - 1 := wrap64_id (by have := HLL.out; omega)
                have HLAST := Aside0.mk hlast
                obtain ⟨⟨c, s2, g2⟩, hrr⟩ : ∃ r : Int × St × Lg, r = ((Lg.commit R.s R.g n t R.pages).c, (Lg.commit R.s R.g n t R.pages).s, (Lg.commit R.s R.g n t R.pages).g) := ⟨_, rfl⟩
                have HRR := Aside0.mk hrr
                have HRR1 := Aside0.mk (show c = (Lg.commit R.s R.g n t R.pages).c from congrArg (·.1) HRR.out)
                have HRR2 := Aside0.mk (show s2 = (Lg.commit R.s R.g n t R.pages).s from congrArg (·.2.1) HRR.out)
                have HRR3 := Aside0.mk (show g2 = (Lg.commit R.s R.g n t R.pages).g from congrArg (·.2.2) HRR.out)
                have HFX := Aside0.mk (show Q.flush lz = if c ≠ 0 then (c, { R with s := s2, g := g2 }) else Po.flush { R with s := s2, g := g2, held := cleanN R.held n } (lz.drop (i + 1)) by
                  rw [HFL.out, HDR.out, show lz.drop (i + 1) = [] from List.drop_eq_nil_of_le (by have := HLAST.out; omega), flush_one, HTX.out, ← HRR1.out, ← HRR2.out, ← HRR3.out]
                  rfl)
                have HOK2 := Aside0.mk (show s2.ok (mq + 4 * i + 4) by rw [HRR2.out]; exact Log.Lg.commit_ok HFR.out.ok R.g n t R.pages)
                have HGK2 := Aside0.mk (show g2.ok by rw [HRR3.out]; exact Log.Lg.ok.commit HFR.out.g R.s n t R.pages)
                clear hrr
                have HB2 := Aside0.mk HBR.out.drew
                have HSP2 := Aside0.mk ((frSep (fpP _ _ _ _ _) (fpU _ _ _ _ _ _ _ _ _ _ _)).apart HSR.out (w' := wr.drew) (Kept.drew (Kept.refl wr (fun _ => False))) (fun _ _ h => h))
                obtain ⟨O3, hp3, o3, o4, bck⟩ := Sep.left HSP2.out (fpU _ _ _ _ _ _ _ _ _ _ _)
                have HBK := Aside0.mk bck
                have hap := commit.calls gd gl O3 R.s R.g (mq + 4 * i) n t R.pages w0 wr.drew HB2.out hp3 HFR.out.ok (by have := HMQ.out; have := HLL.out; omega) HFR.out.g HWN.out
                rw [← HRR1.out, ← HRR2.out, ← HRR3.out] at hap
                have HC := Aside0.mk hap
                clear hap hp3 o3 o4 bck
                go_upto_region 22 with (fail)
                go_cut [11] from 66 to 91 (fun v11 wx => v11 = .int .i64 c ∧ Aside0 (Log.Sep w0.heap.size (pP w0.heap.size gd gl s2 g2) (PUp w0.heap.size gp gl ge5 bh5 bt5 al fi bf5 nf5 R) wx (fun k => (Ol k ∨ wl.heap.size ≤ k) ∨ wr.heap.size ≤ k) ∧ Kept wr wx (fun k => Ol k ∨ wl.heap.size ≤ k) ∧ wr.heap.size ≤ wx.heap.size) ∧ Aside0 (Below w0.heap.size w0 wx))
                case first =>
                  go_region_law (refine goes_ Try.func24 (by kernel_rfl) rfl #[.pointer (some ⟨gl, 0, none⟩), .int .i64 n, .string t, .int .i64 R.pages] (by rfl) rfl rfl (by (try simp only [List.map_toArray, List.map_cons, List.map_nil]); first | done | rfl) ?_; (with_reducible refine HC.out.mono ?_); rintro e w4 ⟨rfl, hp4, hb4, hk4⟩; refine ⟨_, rfl, ?_⟩; have HP4 := Aside0.mk hp4; have HB4 := Aside0.mk hb4; have HK4 := Aside0.mk hk4; clear hp4 hb4 hk4)
                  all_goals
                    try go_frame
                    go_wp2_with (fail)
                    go_meet
                    case rel =>
                      obtain ⟨b1, b2⟩ := HBK.out (pP w0.heap.size gd gl s2 g2) w4 (fpP _ _ _ _ _) HP4.out HK4.out
                      exact ⟨rfl, ⟨b1, (Kept.drew (Kept.refl wr _)).then_ b2 (fun k hk => .inl hk), b2.1⟩, HB4⟩
                case rest =>
                  obtain ⟨rfl, HS4, HB4⟩ := hcut
                  clear HBK HC HSP2 m1 c3 q0 q4
                  by_cases hc : c = 0
                  · subst hc
                    obtain ⟨O4, hu4, o3, o4, bck⟩ := Sep.right HS4.out.1 (fpP _ _ _ _ _)
                    have HU4 := Aside0.mk (PU.same (show PU wc w0.heap.size gp gl ge5 bh5 bt5 al fi bf5 nf5 O4 R from hu4) (P' := { R with s := s2, g := g2 }) rfl rfl rfl)
                    have HBK := Aside0.mk bck
                    have x3 : wc.cell? ⟨a, 3, none⟩ = some (.bool (fi a).d) := (blk_cell (HU4.out.hf a (List.mem_cons_of_mem _ HAM.out)) 3).trans rfl
                    have z3 := blk_frozen (HU4.out.hf a (List.mem_cons_of_mem _ HAM.out)) 3
                    have HU5 := Aside0.mk (HU4.out.tell HAM.out)
                    have hoa := HU4.out.own a (.inr (.inl (List.mem_cons_of_mem _ HAM.out)))
                    have HB5 := Aside0.mk (HB4.out.setCell (p := ⟨a, 3, none⟩) hoa.2 (.bool false))
                    have HK5 := Aside0.mk (show Kept wc (wc.setCell ⟨a, 3, none⟩ (.bool false)) O4 from set_kept.mono (fun j hj => by rw [hj]; exact hoa.1))
                    clear hu4 o3 o4 bck hoa
                    go_wp2_with (fail)
                    go_roundw
                    case rel =>
                      obtain ⟨b1, b2⟩ := HBK.out _ _ (fpU _ _ _ _ _ _ _ _ _ _ _) (PU.mono HU5.out (fun k hk => .inl hk)) HK5.out
                      refine ⟨i + 1, upm fi a { fi a with d := false }, { R with s := s2, g := g2, held := cleanN R.held n }, HLT.out, by go_num, ⟨?_⟩, ⟨HKR.out.then_ (HS4.out.2.1.then_ b2 (fun k hk => hk)) (fun k hk => hk)⟩, HB5, ⟨?_⟩, ⟨?_⟩, ⟨fun z hz => ?_⟩⟩
                      · rw [HAN.out] at b1
                        refine (frSep (fpP _ _ _ _ _) (fpU _ _ _ _ _ _ _ _ _ _ _)).mono b1 (fun k hk => ?_)
                        rcases hk with (hk | hk) | hk
                        · exact hk
                        · exact .inr (Nat.le_trans HKR.out.1 hk)
                        · exact .inr (Nat.le_trans HKR.out.1 (Nat.le_trans HS4.out.2.2 hk))
                      · rw [show mq + 4 * (i + 1) = mq + 4 * i + 4 by omega]
                        exact clean_fine HFR.out HOK2.out HGK2.out n
                      · rw [HFX.out, if_neg (fun h => h rfl)]
                      · by_cases e : z = a
                        · rw [e, upm_same]; exact HFN.out a HAM.out
                        · rw [upm_other _ _ e]; exact HFN.out z hz
                    case measure => have := HLT.out; simp [intOf, e8]; omega
                  · have q_ : (c != 0) = true := bne_iff_ne.2 hc
                    have HCN2 := Aside0.mk hc
                    clear hc
                    go_wp2_with (fail)
                    go_ret
                    rw [HRES.out, show Q.flushed lz = (c, { R with s := s2, g := g2 }) by unfold Po.flushed; rw [HFX.out, if_pos HCN2.out, if_pos HCN2.out]]
                    obtain ⟨O5, O6, p1, p2, p3⟩ := HS4.out.1
                    have hk5 : Kept w wc (fun k => O k ∨ w.heap.size ≤ k) := (HKL.out.mono (fun k hk => .inl hk)).then_ (HKR.out.then_ HS4.out.2.1 (fun k hk => hk)) (fun k hk => .inl (HOL.out k hk))
                    refine ⟨rfl, (fpQ _ _ _ _ _).mono (PQ.of (P := { R with s := s2, g := g2 }) ⟨O5, O6, p1, PU.same p2 rfl rfl rfl, p3⟩) (fun k hk => ?_), HB4.out, kept_new hk5⟩
                    rcases hk with (hk | hk) | hk
                    · exact HOL.out k hk
                    · exact .inr (Nat.le_trans HKL.out.1 hk)
                    · exact .inr (Nat.le_trans HKL.out.1 (Nat.le_trans HKR.out.1 hk))
            · have t_ : decide ((i : Int) < (1 : Int)) = false := decide_eq_false (by omega)
              have HFL2 := Aside0.mk (show Q.flush lz = (0, R) by rw [HFL.out, List.drop_eq_nil_of_le (by omega)]; rfl)
              obtain ⟨O4, hu4, o3, o4, bck⟩ := Sep.right HSR.out (fpP _ _ _ _ _)
              have HU6 := Aside0.mk (show PU wr w0.heap.size gp gl ge5 bh5 bt5 al fi bf5 nf5 O4 R from hu4)
              have HBK4 := Aside0.mk bck
              clear hu4 o3 o4 bck
              have hb9 := below_alloc (Below.refl wr.heap.size wr) (Obj.map #[] 0)
              have hu9 := HU6.out.kept (Kept.of_below hb9 (fun _ => False)) (fun _ _ h => h)
              have x6 : (wr.alloc (Obj.map #[] 0)).cell? ⟨gp, 6, none⟩ = some (.map (some bt5)) := (blk_cell hu9.hp 6).trans rfl
              have z6 := blk_frozen hu9.hp 6
              have hmm : ∀ (w : World), (Instr.makeMap 67 none).run Try.prog w = .ok (.map (some w.heap.size)) (w.alloc (.map #[] 0)) := by
                intro w
                simp [Instr.makeMap, underlying, Try.underlying67]
              have HB9 := Aside0.mk ((below_step HBR.out hb9).setCell (p := ⟨gp, 6, none⟩) (HU6.out.own gp (.inl rfl)).2 (.map (some wr.heap.size)))
              clear hb9 hu9
              go_upto_region 28 with (fail)
              clear x6 z6 hmm
              obtain ⟨hu9, hk9⟩ := HU6.out.newT
              have HU9 := Aside0.mk hu9
              have HK9 := Aside0.mk hk9
              clear hu9 hk9
              generalize (wr.alloc (Obj.map #[] 0)).setCell ⟨gp, 6, none⟩ (.map (some wr.heap.size)) = w9 at HB9 HU9 HK9 ⊢
              obtain ⟨b1, b2⟩ := HBK4.out _ w9 (fpU _ _ _ _ _ _ _ _ _ _ _) HU9.out HK9.out
              have HQ9 := Aside0.mk ((fpQ _ _ _ _ _).mono (O' := fun k => O k ∨ w.heap.size ≤ k) (PQ.of (P := { R with turned := [] }) b1) (fun k hk => by
                rcases hk with (hk | hk) | hk
                · exact HOL.out k hk
                · exact .inr (Nat.le_trans HKL.out.1 hk)
                · exact .inr (Nat.le_trans HKL.out.1 (Nat.le_trans HKR.out.1 hk))))
              have HK10 := Aside0.mk (show Kept w w9 O from kept_new ((HKL.out.mono (S' := fun k => O k ∨ w.heap.size ≤ k) (fun k hk => .inl hk)).then_ (HKR.out.then_ b2 (fun k hk => hk)) (fun k hk => .inl (HOL.out k hk))))
              clear b1 b2
              obtain ⟨-, x0, -⟩ := HQ9.out.nums
              unfold pv at x0
              obtain ⟨O6, hl6, o3, o4, bck⟩ := Sep.left HQ9.out (fpX _ _ _ _)
              have HC37 := Aside0.mk (frames.calls gd gl O6 R.s R.g w0 w9 hl6)
              have HC38 := Aside0.mk (checkpoint.calls gd gl O6 R.s R.g (mq + 4 * i) w0 w9 HB9.out hl6 HFR.out.ok (by have := HMQ.out; have := HLL.out; omega) HFR.out.g)
              have HBK := Aside0.mk bck
              clear hl6 o3 o4 bck
              by_cases hfr : ((R.g.fr.length : Nat) : Int) ≥ 1000
              · have t3 : decide (((R.g.fr.length : Nat) : Int) ≥ 1000) = true := decide_eq_true hfr
                have t4 : decide (1000 ≤ ((R.g.fr.length : Nat) : Int)) = true := decide_eq_true hfr
                have HX := Aside0.mk (show P.commit = Po.check { R with turned := [] } by rw [HRES.out]; unfold Po.flushed; rw [HFL2.out, if_neg (fun h => h rfl), if_pos hfr])
                clear hfr
                go_wp2_with (first
                  | (have H3_ := Aside0.mk HM_.out; go_at_call 38; (with_reducible refine HC38.out.mono ?_); rintro e w10 ⟨rfl, hp10, hb10, hk10⟩; have HP10 := Aside0.mk hp10; have HB10 := Aside0.mk hb10; have HK11 := Aside0.mk hk10; clear hp10 hb10 hk10)
                  | (go_at_call 37; (with_reducible refine HC37.out.mono ?_); rintro e w10 ⟨rfl, rfl⟩; have HM_ := Aside0.mk (trivial : True)))
                go_ret
                obtain ⟨b1, b2⟩ := HBK.out (pP w0.heap.size gd gl (Lg.checkpoint R.s R.g).s (Lg.checkpoint R.s R.g).g) w10 (fpP _ _ _ _ _) HP10.out HK11.out
                rw [HX.out]
                refine ⟨rfl, ?_, HB10.out, kept_new ((HK10.out.mono (fun k hk => .inl hk)).then_ b2 (fun k hk => .inl hk))⟩
                obtain ⟨O7, O8, p1, ⟨g1, g2, g3, g4, g5, g6, g7, p2⟩, p3⟩ := b1
                exact (fpQ _ _ _ _ _).mono (PQ.of (P := { R with turned := [], s := (Lg.checkpoint R.s R.g).s, g := (Lg.checkpoint R.s R.g).g }) ⟨O7, O8, p1, PU.same p2 rfl rfl rfl, p3⟩) (fun k hk => hk.elim id (fun h => .inr (Nat.le_trans HK10.out.1 h)))
              · have t3 : decide (((R.g.fr.length : Nat) : Int) ≥ 1000) = false := decide_eq_false hfr
                have t4 : decide (1000 ≤ ((R.g.fr.length : Nat) : Int)) = false := decide_eq_false hfr
                have HX := Aside0.mk (show P.commit = (0, { R with turned := [] }) by rw [HRES.out]; unfold Po.flushed; rw [HFL2.out, if_neg (fun h => h rfl), if_neg hfr])
                clear hfr HC38
                go_wp2_with (go_at_call 37; (with_reducible refine HC37.out.mono ?_); rintro e w10 ⟨rfl, rfl⟩)
                go_ret
                rw [HX.out]
                exact ⟨rfl, HQ9.out, HB9.out, HK10.out⟩
        · have q_ : (c != 0) = true := bne_iff_ne.2 hc0
          have HCN2 := Aside0.mk hc0
          clear hc0
          go_wp2_with (go_at_call 35; (with_reducible refine HC.out.mono ?_); rintro e w5 ⟨v, rfl, hb5, hk5, hq5⟩; have HG5 := Aside0.mk (And.intro hb5 (And.intro hk5 hq5)); clear hb5 hk5 hq5)
          go_ret
          rw [HR.out, if_pos HCN2.out]
          have hq := (HG5.out.2.2.resolve_right (fun h => HCN2.out h.1)).2
          exact ⟨rfl, (fpQ _ _ _ _ _).mono hq (fun k hk => hk.imp id (Nat.le_trans HK3.out.1)), HG5.out.1, (HK3.out.mono (S' := O) (fun _ h => h.elim)).then_ HG5.out.2.1 (fun k hk => .inl hk)⟩
      · intro x g w2 cnt1 hwx hfx hlx hrg1 hlt hg1 hs1 hen
        obtain ⟨hga, hgn⟩ := addr_mem hfx
        have hk2 := Kept.of_grown hg1 HK1.out (fun k hk => .inr (Nat.le_of_eq (Option.some.inj hk)))
        have hu2 := HU.out.kept hk2 (fun _ _ h => h)
        have m3 : w2.cell? ⟨g, 3, none⟩ = some (.bool (fm g).d) := (blk_cell (hu2.hf g (List.mem_cons_of_mem _ hga)) 3).trans rfl
        have hb2 := HB1.out.grown hg1 HB1.out.size (fun j hj => by cases hj; exact HB.out.size)
        have hbw2 := HBW.out.grown hg1 HBW.out.size (fun j hj => by cases hj; exact Nat.le_refl _)
        have HSN2 := Aside0.mk (Seen.step HSN.out (f := fm g) (by rw [← HU.out.hl]; exact List.mem_map_of_mem hga) HU.out.nn (by rw [hgn]; exact hlx))
        have hne : u3.ownBlock ≠ some w.heap.size := by
          rcases HOW.out.2 with ⟨e, _⟩ | ⟨g5, cap, cur, e, _, h5, _⟩
          · rw [e]; exact fun e2 => by cases e2
          · rw [e]
            intro e2
            have e3 : g5 = w.heap.size := Option.some.inj e2
            obtain ⟨_, _, _, _, _, _, _, _, _, hr, _⟩ := HRG.out
            rw [← e3, h5] at hr
            cases hr
        have how2 : w2.ownsRow w.heap.size 3 1 u3 zs.length (nums .i64 zs) := HOW.out.kept hg1 (.inr hne)
        have HNE := Aside0.mk hne
        clear hne
        have HH := Aside0.mk (And.intro hrg1 (And.intro hlt (And.intro hk2 (And.intro hb2 hbw2))))
        have HOW2 := Aside0.mk how2
        have HGN := Aside0.mk hgn
        clear hu2 hk2 hb2 hbw2 hrg1 hlt hg1 how2 hgn hs1
        unfold pv at hen
        by_cases hd : (fm g).d = true
        · rw [hd] at m3
          rw [if_pos hd, HGN.out] at HSN2
          clear hd
          go_wp2_with (first
            | ((with_reducible refine gate_builtin (b := .append) (xs := #[.tmp 32, .tmp 34]) rfl ?_); at_builtin; refine print_append_num (w0 := w) w.heap.size rfl (.tmp 32) (.tmp 34) 23 3 .i64 8 rfl Try.underlying23 info3p (by decide) u3 zs x rfl rfl HOW2.out HH.out.2.2.2.2 HH.out.2.2.2.2.size (by have h1 := HCN.out; have h2 := HU.out.len; have h3 := HF.out.len; omega) ?_; intro v1 w3 how3 hbw3 hg3 hat3; have HOW3 := Aside0.mk how3; have HBW3 := Aside0.mk hbw3; have HG3 := Aside0.mk hg3; clear how3 hbw3 hg3 hat3))
          go_roundw
          case rel => exact ⟨_, cnt1, zs ++ [x], ⟨HH.out.1.kept HG3.out (fun e => by have h1 := own_base HOW2.out bh e.symm; have h2 := HU.out.mh.lt; omega) (fun e => HNE.out e.symm)⟩, HOW3, HSN2, ⟨by have h1 := HCN.out; have h2 := HH.out.2.1; rw [List.length_append, List.length_singleton]; omega⟩, ⟨Kept.of_grown HG3.out HH.out.2.2.1 (fun k hk => .inr (own_base HOW2.out k hk))⟩, ⟨HH.out.2.2.2.1.grown HG3.out HH.out.2.2.2.1.size (fun k hk => Nat.le_trans HB.out.size (own_base HOW2.out k hk))⟩, HBW3⟩
          case measure => rw [(HH.out.1.kept HG3.out (fun e => by have h1 := own_base HOW2.out bh e.symm; have h2 := HU.out.mh.lt; omega) (fun e => HNE.out e.symm)).left_eq, HRG.out.left_eq]; exact HH.out.2.1
        · have m3' : (fm g).d = false := by cases h : (fm g).d with | true => exact absurd h hd | false => rfl
          rw [m3'] at m3
          rw [if_neg hd, HGN.out] at HSN2
          clear hd m3'
          go_wp2_with (fail)
          go_roundw
          case rel => exact ⟨_, cnt1, zs, ⟨HH.out.1⟩, HOW2, HSN2, ⟨by have h1 := HCN.out; have h2 := HH.out.2.1; omega⟩, ⟨HH.out.2.2.1⟩, ⟨HH.out.2.2.2.1⟩, ⟨HH.out.2.2.2.2⟩⟩
          case measure => rw [HH.out.1.left_eq, HRG.out.left_eq]; exact HH.out.2.1
theorem meas_lt {i n : Nat} (h : i < n) (e : wrap64 ((i : Int) + 1) = (i : Int) + 1) : n - (intOf (.int .i64 (wrap64 ((i : Int) + 1)))).toNat < n - (intOf (.int .i64 (i : Int))).toNat := by
  rw [e]
  show n - ((i : Int) + 1).toNat < n - (i : Int).toNat
  omega
set_option maxHeartbeats 16000000 in
set_option maxRecDepth 100000 in
theorem pcommit_dirty (gd gl gp : Nat) (O : Nat → Prop) (P : Po) (m : Nat) (w0 w : World) (hB : Below w0.heap.size w0 w) (hP : PQ w0.heap.size gd gl gp P w O) (hf : P.fine m) (hm : m ≤ 100000000) (hpg : 1 ≤ P.pages) (hdn0 : ¬ dirtyN P.held = []) :
    Calls Try.prog 15 #[pv gp] w (Did w0 w gd gl gp O (.int .i64 P.commit.1) P.commit.2) := by
  have HB := Aside0.mk hB
  have HP := Aside0.mk hP
  have HF := Aside0.mk hf
  have HM := Aside0.mk hm
  have HPG := Aside0.mk hpg
  have HDN := Aside0.mk hdn0
  clear hdn0
  obtain ⟨ge, bh, bt, al, fm, bf, nf, hS⟩ := PQ.open_ hP
  have HS := Aside0.mk hS
  obtain ⟨O2, hU, -⟩ := Sep.right hS (fpP _ _ _ _ _)
  have hU : PU w w0.heap.size gp gl ge bh bt al fm bf nf O2 P := hU
  have HU := Aside0.mk hU
  have q6 : w.cell? ⟨gp, 6, none⟩ = some (.map (some bt)) := (blk_cell hU.hp 6).trans rfl
  have hl6 : ∀ ty, (Builtin.len_ #[67] ty #[.map (some bt)]).run Try.prog w = .ok (.int .i64 P.turned.length) w := hU.mt.len
  by_cases ht : P.turned = []
  · have t0 : ((P.turned.length : Int) == 0) = true := by rw [ht]; rfl
    have HR := Aside0.mk (show P.commit = (0, P) by unfold Po.commit; rw [if_pos ht])
    clear hB hP hf hm hpg hS hU ht
    go_enter Try.func15, Try.ntmps15
    go_wp2_with (fail)
    go_ret
    rw [HR.out]
    exact Did.rest HB.out HP.out
  · have t0 : ((P.turned.length : Int) == 0) = false := beq_false_of_ne (by have : P.turned.length ≠ 0 := fun e => ht (List.length_eq_zero_iff.1 e); omega)
    have HT := Aside0.mk ht
    have q3 : w.cell? ⟨gp, 3, none⟩ = some (.map (some bh)) := (blk_cell hU.hp 3).trans rfl
    obtain ⟨D, hown, hsz, hfd⟩ := hU.mh
    have HO := Aside0.mk hown
    have HSZ := Aside0.mk hsz
    have HFD := Aside0.mk (show Tells2 D (addr fm al) from hfd)
    clear hB hP hf hm hpg hS hU ht hown hsz hfd
    go_enter Try.func15, Try.ntmps15
    go_wp2_with (first
      | (at_range; refine wpList_range_own _ rfl _ 66 rfl 3 65 law3 Try.underlying66 elemP bh al.length D rfl HO.out ?_; intro w1 hrg1 hg1 hs1)
      | go_in)
    try go_frame
    have HRG := Aside0.mk hrg1
    have HK1 := Aside0.mk (show Kept w w1 (fun _ => False) from Kept.of_grown hg1 (Kept.refl w _) (fun j hj => by cases hj))
    have HB1 := Aside0.mk (show Below w0.heap.size w0 w1 from HB.out.grown hg1 HB.out.size (fun j hj => by cases hj))
    have HBW := Aside0.mk (show Below w.heap.size w w1 from (Below.refl w.heap.size w).grown hg1 (Nat.le_refl _) (fun j hj => by cases hj))
    clear hrg1 hg1 hs1 q3 q6 hl6
    go_loopw [3, 4, 5] (fun v3 _ _ wr => ∃ (left : Lit → Bool) (cnt : Nat) (zs : List Int), Aside0 (wr.ranges Try.prog 3 elemP bh w.heap.size al.length D left cnt) ∧ Aside0 (wr.ownsRow w.heap.size 3 1 v3 zs.length (nums .i64 zs)) ∧ Aside0 (Seen P.held left zs) ∧ Aside0 (zs.length + cnt ≤ al.length) ∧ Aside0 (Kept w wr (fun _ => False)) ∧ Aside0 (Below w0.heap.size w0 wr) ∧ Aside0 (Below w.heap.size w wr)) (fun _ _ _ wr => wr.rangeLeft bh w.heap.size)
    case atStart =>
      refine ⟨_, _, [], HRG, ⟨own_nil _ _ _ _⟩, ⟨?_⟩, ⟨by rw [HSZ.out]; exact Nat.le_of_eq (Nat.zero_add _)⟩, HK1, HB1, HBW⟩
      have h1 := Seen.start HFD.out (by rw [HU.out.hl]; exact HU.out.nn) (by rw [HU.out.hl]; exact HU.out.wf)
      rw [HU.out.hl] at h1
      exact h1
    case round =>
      clear HRG HK1 HB1 HBW
      obtain ⟨left, cnt, zs, HRG, HOW, HSN, HCN, HK1, HB1, HBW⟩ := hrel
      go_wp2_with (first
        | (at_next; refine wpList_next_held _ rfl _ rfl bh w.heap.size al.length D (addr fm al) left cnt rfl HFD.out HRG.out ?_ ?_)
        | go_in)
      · intro hc0 hl0
        have HLZ := Aside0.mk (show zs.length ≤ 1000 by have h1 := HCN.out; have h2 := HU.out.len; have h3 := HF.out.len; omega)
        have HDI := Aside0.mk (HSN.out.end_ hl0 HU.out.nn)
        have HSO := Aside0.mk (sort.calls w.heap.size _ zs wr HOW.out HBW.out.size HLZ.out)
        clear HRG hc0 hl0
        go_upto_region 10 with (go_at_call 34; (with_reducible refine HSO.out.mono ?_); rintro e w3 ⟨rfl, how3, hb3⟩; have HS3 := Aside0.mk (And.intro how3 hb3); clear how3 hb3)
        have hml := congrArg List.length HDI.out
        rw [List.length_mergeSort] at hml
        have how3 := HS3.out.1
        rw [HDI.out, hml] at how3
        have HOW3 := Aside0.mk how3
        have HK3 := Aside0.mk (show Kept w w3 (fun _ => False) from ⟨Nat.le_trans HK1.out.1 HS3.out.2.size, fun i hi hn => (HS3.out.2.block i hi).trans (HK1.out.2 i hi hn)⟩)
        have HB3 := Aside0.mk (show Below w0.heap.size w0 w3 from ⟨HS3.out.2.os.trans HB1.out.os, HS3.out.2.tape.trans HB1.out.tape, HS3.out.2.output.trans HB1.out.output, Nat.le_trans HB1.out.size HS3.out.2.size, fun k hk => (HS3.out.2.block k (Nat.lt_of_lt_of_le hk HB.out.size)).trans (HB1.out.block k hk)⟩)
        have HLD := Aside0.mk (show (dirtyN P.held).length ≤ 1000 by rw [← hml]; exact HLZ.out)
        clear hml how3 HSO HOW HSN
        have hdn := HDN.out
        obtain ⟨l, hl⟩ : ∃ l, l = dirtyN P.held := ⟨_, rfl⟩
        rw [← hl] at HOW3 HLD hdn
        have HDD := Aside0.mk hl
        clear hl HDN HDI HS3
        obtain ⟨ad, cap, cur, e3, hdb, had, hdg, htk⟩ := own_box HOW3.out hdn
        subst e3
        have hpos : l.length ≠ 0 := fun e => hdn (List.length_eq_zero_iff.1 e)
        have t1 : ((l.length : Int) == 0) = false := beq_false_of_ne (by omega)
        have HDG := Aside0.mk hdg
        have HTK := Aside0.mk htk
        have HAD := Aside0.mk had
        have HDL := Aside0.mk (show ad.block < w3.heap.size from blk_lt hdg)
        have HLN := Aside0.mk (show 0 < l.length by omega)
        have HRES := Aside0.mk (show P.commit = P.flushed l by rw [HDD.out] at hdn ⊢; unfold Po.commit; rw [if_neg HT.out, if_neg hdn])
        obtain ⟨Ol, hOl⟩ : ∃ Ol : Nat → Prop, Ol = fun k => O k ∧ w0.heap.size ≤ k ∧ k < w.heap.size := ⟨_, rfl⟩
        have HNO := Aside0.mk (show ¬ Ol ad.block by rw [hOl]; intro h; have := h.2.2; omega)
        have HOL := Aside0.mk (show ∀ k, Ol k → O k ∨ w.heap.size ≤ k by rw [hOl]; exact fun k h => .inl h.1)
        have HLS := Aside0.mk (show Log.Sep w0.heap.size (pP w0.heap.size gd gl P.s P.g) (PUp w0.heap.size gp gl ge bh bt al fm bf nf P) w3 Ol by
          rw [hOl]
          exact (frSep (fpP _ _ _ _ _) (fpU _ _ _ _ _ _ _ _ _ _ _)).apart ((frSep (fpP _ _ _ _ _) (fpU _ _ _ _ _ _ _ _ _ _ _)).narrow HS.out) HK3.out (fun _ _ h => h))
        obtain ⟨mq, hmq⟩ : ∃ mq, mq = m := ⟨_, rfl⟩
        have HMQ := Aside0.mk (show mq ≤ 150000000 by have := HM.out; omega)
        have HFQ := Aside0.mk (show P.fine (mq + 4 * 0) by rw [hmq]; exact HF.out)
        have HLL : Aside0 (l.length ≤ 1000) := HLD
        have HBL := HB3
        have HKL := Aside0.mk (HK3.out.mono (S' := O) (fun _ h => h.elim))
        have HIN := Aside0.mk (show ∀ n ∈ l, ∃ a, a ∈ al ∧ (fm a).n = n ∧ (-9223372036854775808 ≤ n ∧ n < 9223372036854775808) from fun n hn => by
          rw [HDD.out] at hn
          obtain ⟨f, h1, h2, h3⟩ := mem_dirtyN.1 hn
          have hw := wf_i64_inv (HU.out.wf f h1)
          rw [← HU.out.hl] at h1
          obtain ⟨a, ha, rfl⟩ := List.mem_map.1 h1
          exact ⟨a, ha, h3, by rw [← h3]; exact hw⟩)
        clear hdb had hdg htk hpos hOl hmq hdn
        go_upto_region 15 with (fail)
        obtain ⟨wl, hwl⟩ : ∃ wl, wl = w3 := ⟨_, rfl⟩
        subst hwl
        go_wp2_with (fail)
        go_loopw [8, 9, 10, 11, 52] (fun _ _ _ _ v52 wr => ∃ (i : Nat) (fi : Nat → Fm) (R : Po), i ≤ l.length ∧ v52 = .int .i64 (i : Int) ∧ Aside0 (Log.Sep w0.heap.size (pP w0.heap.size gd gl R.s R.g) (PUp w0.heap.size gp gl ge bh bt al fi bf nf R) wr (fun k => Ol k ∨ wl.heap.size ≤ k)) ∧ Aside0 (Kept wl wr Ol) ∧ Aside0 (Below w0.heap.size w0 wr) ∧ Aside0 (R.fine (mq + 4 * i)) ∧ Aside0 (P.flush l = R.flush (l.drop i)) ∧ Aside0 (∀ z ∈ al, (fi z).n = (fm z).n)) (fun _ _ _ _ v52 _ => l.length - (intOf v52).toNat)
        case atStart => exact ⟨0, fm, P, Nat.zero_le _, rfl, ⟨(frSep (fpP _ _ _ _ _) (fpU _ _ _ _ _ _ _ _ _ _ _)).mono HLS.out (fun k hk => .inl hk)⟩, ⟨Kept.refl _ _⟩, HBL, HFQ, ⟨rfl⟩, ⟨fun _ _ => rfl⟩⟩
        case round =>
          obtain ⟨i, fi, R, hi, rfl, HSR, HKR, HBR, HFR, HFL, HFN⟩ := hrel
          have hlen := HLN.out
          by_cases hlt : i < l.length
          · have t_ : decide ((i : Int) < ((l.length : Nat) : Int)) = true := decide_eq_true (by omega)
            have f0 : wr.cell? (ad.add i) = some (.int .i64 (l[i]'hlt)) := own_at2 HAD.out ((HKR.out.2 ad.block HDL.out HNO.out).trans HDG.out) HTK.out hlt
            have HDR := Aside0.mk (List.drop_eq_getElem_cons hlt)
            have HLT := Aside0.mk hlt
            have e8 : wrap64 ((i : Int) + 1) = (i : Int) + 1 := wrap64_id (by have := HLL.out; omega)
            have HNI := Aside0.mk (HIN.out _ (List.getElem_mem hlt))
            generalize l[i]'hlt = n at f0 HDR HNI
            obtain ⟨a, ham, han, hwn⟩ := HNI.out
            obtain ⟨O5, hu5, -⟩ := Sep.right HSR.out (fpP _ _ _ _ _)
            have hu5 : PU wr w0.heap.size gp gl ge bh bt al fi bf nf O5 R := hu5
            have HAM := Aside0.mk ham
            have HAN := Aside0.mk (show (fi a).n = n from (HFN.out a ham).trans han)
            have HWN := Aside0.mk hwn
            have hlk := hu5.mh.look (wf_int hwn)
            have hat : addr fi al n = some a := by rw [← HAN.out]; exact addr_in (by rw [hu5.hl]; exact hu5.nn) ham
            rw [hat] at hlk
            have HTX0 := Aside0.mk (show textN R.held n = (fi a).t from textN_at hu5.hl hat)
            have c3 : wr.cell? ⟨gp, 3, none⟩ = some (.map (some bh)) := (blk_cell hu5.hp 3).trans rfl
            have q0 : wr.cell? ⟨gp, 0, none⟩ = some (pv gl) := (blk_cell hu5.hp 0).trans rfl
            have q4 : wr.cell? ⟨gp, 4, none⟩ = some (.int .i64 R.pages) := (blk_cell hu5.hp 4).trans rfl
            have m1 : wr.cell? ⟨a, 1, none⟩ = some (.string (fi a).t) := (blk_cell (hu5.hf a (List.mem_cons_of_mem _ ham)) 1).trans rfl
            unfold pv at q0
            unfold pvo pv at hlk
            obtain ⟨t, ht⟩ : ∃ t, t = (fi a).t := ⟨_, rfl⟩
            have HTX := Aside0.mk (show textN R.held n = t from HTX0.out.trans ht.symm)
            rw [← ht] at m1
            clear hu5 hat ham han hwn HTX0 ht
            by_cases hlast : i + 1 < l.length
            · have t2 : decide ((i : Int) < ((l.length : Nat) : Int) - 1) = true := decide_eq_true (by omega)
              have e7 : wrap64 (((l.length : Nat) : Int) - 1) = ((l.length : Nat) : Int) - 1 := wrap64_id (by have := HLL.out; omega)
              have HLAST := Aside0.mk hlast
              obtain ⟨⟨c, s2, g2⟩, hrr⟩ : ∃ r : Int × St × Lg, r = Lg.append R.s R.g n t := ⟨_, rfl⟩
              have HRR := Aside0.mk hrr
              have HFX := Aside0.mk (show P.flush l = if c ≠ 0 then (c, { R with s := s2, g := g2 }) else Po.flush { R with s := s2, g := g2, held := cleanN R.held n } (l.drop (i + 1)) by
                rw [HFL.out, HDR.out]
                obtain ⟨m5, r5, e5⟩ : ∃ m5 r5, l.drop (i + 1) = m5 :: r5 := by
                  cases e : l.drop (i + 1) with
                  | nil => have := congrArg List.length e; rw [List.length_drop, List.length_nil] at this; have := HLAST.out; omega
                  | cons m5 r5 => exact ⟨m5, r5, rfl⟩
                rw [e5, flush_cons, HTX.out, ← HRR.out])
              have HOK2 := Aside0.mk (show s2.ok (mq + 4 * i + 4) by have := Log.St.ok.appended HFR.out.ok R.g n t; rw [← HRR.out] at this; exact St.ok.more this (by omega))
              have HGK2 := Aside0.mk (show g2.ok by have := Log.Lg.ok.append HFR.out.g R.s n t; rw [← HRR.out] at this; exact this)
              clear hrr
              have HB2 := Aside0.mk HBR.out.drew
              have HSP2 := Aside0.mk ((frSep (fpP _ _ _ _ _) (fpU _ _ _ _ _ _ _ _ _ _ _)).apart HSR.out (w' := wr.drew) (Kept.drew (Kept.refl wr (fun _ => False))) (fun _ _ h => h))
              obtain ⟨O3, hp3, o3, o4, bck⟩ := Sep.left HSP2.out (fpU _ _ _ _ _ _ _ _ _ _ _)
              have HBK := Aside0.mk bck
              have hap := append.calls gd gl O3 R.s R.g (mq + 4 * i) n t w0 wr.drew HB2.out hp3 HFR.out.ok (by have := HMQ.out; have := HLL.out; omega) HFR.out.g HWN.out
              rw [← HRR.out] at hap
              have HC := Aside0.mk hap
              clear hap hp3 o3 o4 bck
              go_upto_region 21 with (fail)
              go_cut [11] from 66 to 77 (fun v11 wx => v11 = .int .i64 c ∧ Aside0 (Log.Sep w0.heap.size (pP w0.heap.size gd gl s2 g2) (PUp w0.heap.size gp gl ge bh bt al fi bf nf R) wx (fun k => (Ol k ∨ wl.heap.size ≤ k) ∨ wr.heap.size ≤ k) ∧ Kept wr wx (fun k => Ol k ∨ wl.heap.size ≤ k) ∧ wr.heap.size ≤ wx.heap.size) ∧ Aside0 (Below w0.heap.size w0 wx))
              case first =>
                go_region_law (refine goes_ Try.func36 (by kernel_rfl) rfl #[.pointer (some ⟨gl, 0, none⟩), .int .i64 n, .string t] (by rfl) rfl rfl (by (try simp only [List.map_toArray, List.map_cons, List.map_nil]); first | done | rfl) ?_; (with_reducible refine HC.out.mono ?_); rintro e w4 ⟨rfl, hp4, hb4, hk4⟩; refine ⟨_, rfl, ?_⟩; have HP4 := Aside0.mk hp4; have HB4 := Aside0.mk hb4; have HK4 := Aside0.mk hk4; clear hp4 hb4 hk4)
                all_goals
                  try go_frame
                  go_wp2_with (fail)
                  go_meet
                  case rel =>
                    obtain ⟨b1, b2⟩ := HBK.out (pP w0.heap.size gd gl s2 g2) w4 (fpP _ _ _ _ _) HP4.out HK4.out
                    exact ⟨rfl, ⟨b1, (Kept.drew (Kept.refl wr _)).then_ b2 (fun k hk => .inl hk), b2.1⟩, HB4⟩
              case rest =>
                obtain ⟨rfl, HS4, HB4⟩ := hcut
                clear HBK HC HSP2 m1 c3 q0 q4
                by_cases hc : c = 0
                · subst hc
                  obtain ⟨O4, hu4, o3, o4, bck⟩ := Sep.right HS4.out.1 (fpP _ _ _ _ _)
                  have HU4 := Aside0.mk (PU.same (show PU wc w0.heap.size gp gl ge bh bt al fi bf nf O4 R from hu4) (P' := { R with s := s2, g := g2 }) rfl rfl rfl)
                  have HBK := Aside0.mk bck
                  have x3 : wc.cell? ⟨a, 3, none⟩ = some (.bool (fi a).d) := (blk_cell (HU4.out.hf a (List.mem_cons_of_mem _ HAM.out)) 3).trans rfl
                  have z3 := blk_frozen (HU4.out.hf a (List.mem_cons_of_mem _ HAM.out)) 3
                  have HU5 := Aside0.mk (HU4.out.tell HAM.out)
                  have hoa := HU4.out.own a (.inr (.inl (List.mem_cons_of_mem _ HAM.out)))
                  have HB5 := Aside0.mk (HB4.out.setCell (p := ⟨a, 3, none⟩) hoa.2 (.bool false))
                  have HK5 := Aside0.mk (show Kept wc (wc.setCell ⟨a, 3, none⟩ (.bool false)) O4 from set_kept.mono (fun j hj => by rw [hj]; exact hoa.1))
                  clear hu4 o3 o4 bck hoa
                  go_wp2_with (fail)
                  go_roundw
                  case rel =>
                    obtain ⟨b1, b2⟩ := HBK.out _ _ (fpU _ _ _ _ _ _ _ _ _ _ _) (PU.mono HU5.out (fun k hk => .inl hk)) HK5.out
                    refine ⟨i + 1, upm fi a { fi a with d := false }, { R with s := s2, g := g2, held := cleanN R.held n }, HLT.out, by go_num, ⟨?_⟩, ⟨HKR.out.then_ (HS4.out.2.1.then_ b2 (fun k hk => hk)) (fun k hk => hk)⟩, HB5, ⟨?_⟩, ⟨?_⟩, ⟨fun z hz => ?_⟩⟩
                    · rw [HAN.out] at b1
                      refine (frSep (fpP _ _ _ _ _) (fpU _ _ _ _ _ _ _ _ _ _ _)).mono b1 (fun k hk => ?_)
                      rcases hk with (hk | hk) | hk
                      · exact hk
                      · exact .inr (Nat.le_trans HKR.out.1 hk)
                      · exact .inr (Nat.le_trans HKR.out.1 (Nat.le_trans HS4.out.2.2 hk))
                    · rw [show mq + 4 * (i + 1) = mq + 4 * i + 4 by omega]
                      exact clean_fine HFR.out HOK2.out HGK2.out n
                    · rw [HFX.out, if_neg (fun h => h rfl)]
                    · by_cases e : z = a
                      · rw [e, upm_same]; exact HFN.out a HAM.out
                      · rw [upm_other _ _ e]; exact HFN.out z hz
                  case measure => first | exact meas_lt HLT.out e8 | exact meas_lt2 HLT.out
                · have q_ : (c != 0) = true := bne_iff_ne.2 hc
                  have HCN2 := Aside0.mk hc
                  clear hc
                  go_wp2_with (fail)
                  go_ret
                  rw [HRES.out, show P.flushed l = (c, { R with s := s2, g := g2 }) by unfold Po.flushed; rw [HFX.out, if_pos HCN2.out, if_pos HCN2.out]]
                  obtain ⟨O5, O6, p1, p2, p3⟩ := HS4.out.1
                  have hk5 : Kept w wc (fun k => O k ∨ w.heap.size ≤ k) := (HKL.out.mono (fun k hk => .inl hk)).then_ (HKR.out.then_ HS4.out.2.1 (fun k hk => hk)) (fun k hk => .inl (HOL.out k hk))
                  refine ⟨rfl, (fpQ _ _ _ _ _).mono (PQ.of (P := { R with s := s2, g := g2 }) ⟨O5, O6, p1, PU.same p2 rfl rfl rfl, p3⟩) (fun k hk => ?_), HB4.out, kept_new hk5⟩
                  rcases hk with (hk | hk) | hk
                  · exact HOL.out k hk
                  · exact .inr (Nat.le_trans HKL.out.1 hk)
                  · exact .inr (Nat.le_trans HKL.out.1 (Nat.le_trans HKR.out.1 hk))
            · have t2 : decide ((i : Int) < ((l.length : Nat) : Int) - 1) = false := decide_eq_false (by omega)
              have e7 : wrap64 (((l.length : Nat) : Int) - 1) = ((l.length : Nat) : Int) - 1 := wrap64_id (by have := HLL.out; omega)
              have HLAST := Aside0.mk hlast
              obtain ⟨⟨c, s2, g2⟩, hrr⟩ : ∃ r : Int × St × Lg, r = ((Lg.commit R.s R.g n t R.pages).c, (Lg.commit R.s R.g n t R.pages).s, (Lg.commit R.s R.g n t R.pages).g) := ⟨_, rfl⟩
              have HRR := Aside0.mk hrr
              have HRR1 := Aside0.mk (show c = (Lg.commit R.s R.g n t R.pages).c from congrArg (·.1) HRR.out)
              have HRR2 := Aside0.mk (show s2 = (Lg.commit R.s R.g n t R.pages).s from congrArg (·.2.1) HRR.out)
              have HRR3 := Aside0.mk (show g2 = (Lg.commit R.s R.g n t R.pages).g from congrArg (·.2.2) HRR.out)
              have HFX := Aside0.mk (show P.flush l = if c ≠ 0 then (c, { R with s := s2, g := g2 }) else Po.flush { R with s := s2, g := g2, held := cleanN R.held n } (l.drop (i + 1)) by
                rw [HFL.out, HDR.out, show l.drop (i + 1) = [] from List.drop_eq_nil_of_le (by have := HLAST.out; omega), flush_one, HTX.out, ← HRR1.out, ← HRR2.out, ← HRR3.out]
                rfl)
              have HOK2 := Aside0.mk (show s2.ok (mq + 4 * i + 4) by rw [HRR2.out]; exact Log.Lg.commit_ok HFR.out.ok R.g n t R.pages)
              have HGK2 := Aside0.mk (show g2.ok by rw [HRR3.out]; exact Log.Lg.ok.commit HFR.out.g R.s n t R.pages)
              clear hrr
              have HB2 := Aside0.mk HBR.out.drew
              have HSP2 := Aside0.mk ((frSep (fpP _ _ _ _ _) (fpU _ _ _ _ _ _ _ _ _ _ _)).apart HSR.out (w' := wr.drew) (Kept.drew (Kept.refl wr (fun _ => False))) (fun _ _ h => h))
              obtain ⟨O3, hp3, o3, o4, bck⟩ := Sep.left HSP2.out (fpU _ _ _ _ _ _ _ _ _ _ _)
              have HBK := Aside0.mk bck
              have hap := commit.calls gd gl O3 R.s R.g (mq + 4 * i) n t R.pages w0 wr.drew HB2.out hp3 HFR.out.ok (by have := HMQ.out; have := HLL.out; omega) HFR.out.g HWN.out
              rw [← HRR1.out, ← HRR2.out, ← HRR3.out] at hap
              have HC := Aside0.mk hap
              clear hap hp3 o3 o4 bck
              go_upto_region 22 with (fail)
              go_cut [11] from 66 to 91 (fun v11 wx => v11 = .int .i64 c ∧ Aside0 (Log.Sep w0.heap.size (pP w0.heap.size gd gl s2 g2) (PUp w0.heap.size gp gl ge bh bt al fi bf nf R) wx (fun k => (Ol k ∨ wl.heap.size ≤ k) ∨ wr.heap.size ≤ k) ∧ Kept wr wx (fun k => Ol k ∨ wl.heap.size ≤ k) ∧ wr.heap.size ≤ wx.heap.size) ∧ Aside0 (Below w0.heap.size w0 wx))
              case first =>
                go_region_law (refine goes_ Try.func24 (by kernel_rfl) rfl #[.pointer (some ⟨gl, 0, none⟩), .int .i64 n, .string t, .int .i64 R.pages] (by rfl) rfl rfl (by (try simp only [List.map_toArray, List.map_cons, List.map_nil]); first | done | rfl) ?_; (with_reducible refine HC.out.mono ?_); rintro e w4 ⟨rfl, hp4, hb4, hk4⟩; refine ⟨_, rfl, ?_⟩; have HP4 := Aside0.mk hp4; have HB4 := Aside0.mk hb4; have HK4 := Aside0.mk hk4; clear hp4 hb4 hk4)
                all_goals
                  try go_frame
                  go_wp2_with (fail)
                  go_meet
                  case rel =>
                    obtain ⟨b1, b2⟩ := HBK.out (pP w0.heap.size gd gl s2 g2) w4 (fpP _ _ _ _ _) HP4.out HK4.out
                    exact ⟨rfl, ⟨b1, (Kept.drew (Kept.refl wr _)).then_ b2 (fun k hk => .inl hk), b2.1⟩, HB4⟩
              case rest =>
                obtain ⟨rfl, HS4, HB4⟩ := hcut
                clear HBK HC HSP2 m1 c3 q0 q4
                by_cases hc : c = 0
                · subst hc
                  obtain ⟨O4, hu4, o3, o4, bck⟩ := Sep.right HS4.out.1 (fpP _ _ _ _ _)
                  have HU4 := Aside0.mk (PU.same (show PU wc w0.heap.size gp gl ge bh bt al fi bf nf O4 R from hu4) (P' := { R with s := s2, g := g2 }) rfl rfl rfl)
                  have HBK := Aside0.mk bck
                  have x3 : wc.cell? ⟨a, 3, none⟩ = some (.bool (fi a).d) := (blk_cell (HU4.out.hf a (List.mem_cons_of_mem _ HAM.out)) 3).trans rfl
                  have z3 := blk_frozen (HU4.out.hf a (List.mem_cons_of_mem _ HAM.out)) 3
                  have HU5 := Aside0.mk (HU4.out.tell HAM.out)
                  have hoa := HU4.out.own a (.inr (.inl (List.mem_cons_of_mem _ HAM.out)))
                  have HB5 := Aside0.mk (HB4.out.setCell (p := ⟨a, 3, none⟩) hoa.2 (.bool false))
                  have HK5 := Aside0.mk (show Kept wc (wc.setCell ⟨a, 3, none⟩ (.bool false)) O4 from set_kept.mono (fun j hj => by rw [hj]; exact hoa.1))
                  clear hu4 o3 o4 bck hoa
                  go_wp2_with (fail)
                  go_roundw
                  case rel =>
                    obtain ⟨b1, b2⟩ := HBK.out _ _ (fpU _ _ _ _ _ _ _ _ _ _ _) (PU.mono HU5.out (fun k hk => .inl hk)) HK5.out
                    refine ⟨i + 1, upm fi a { fi a with d := false }, { R with s := s2, g := g2, held := cleanN R.held n }, HLT.out, by go_num, ⟨?_⟩, ⟨HKR.out.then_ (HS4.out.2.1.then_ b2 (fun k hk => hk)) (fun k hk => hk)⟩, HB5, ⟨?_⟩, ⟨?_⟩, ⟨fun z hz => ?_⟩⟩
                    · rw [HAN.out] at b1
                      refine (frSep (fpP _ _ _ _ _) (fpU _ _ _ _ _ _ _ _ _ _ _)).mono b1 (fun k hk => ?_)
                      rcases hk with (hk | hk) | hk
                      · exact hk
                      · exact .inr (Nat.le_trans HKR.out.1 hk)
                      · exact .inr (Nat.le_trans HKR.out.1 (Nat.le_trans HS4.out.2.2 hk))
                    · rw [show mq + 4 * (i + 1) = mq + 4 * i + 4 by omega]
                      exact clean_fine HFR.out HOK2.out HGK2.out n
                    · rw [HFX.out, if_neg (fun h => h rfl)]
                    · by_cases e : z = a
                      · rw [e, upm_same]; exact HFN.out a HAM.out
                      · rw [upm_other _ _ e]; exact HFN.out z hz
                  case measure => first | exact meas_lt HLT.out e8 | exact meas_lt2 HLT.out
                · have q_ : (c != 0) = true := bne_iff_ne.2 hc
                  have HCN2 := Aside0.mk hc
                  clear hc
                  go_wp2_with (fail)
                  go_ret
                  rw [HRES.out, show P.flushed l = (c, { R with s := s2, g := g2 }) by unfold Po.flushed; rw [HFX.out, if_pos HCN2.out, if_pos HCN2.out]]
                  obtain ⟨O5, O6, p1, p2, p3⟩ := HS4.out.1
                  have hk5 : Kept w wc (fun k => O k ∨ w.heap.size ≤ k) := (HKL.out.mono (fun k hk => .inl hk)).then_ (HKR.out.then_ HS4.out.2.1 (fun k hk => hk)) (fun k hk => .inl (HOL.out k hk))
                  refine ⟨rfl, (fpQ _ _ _ _ _).mono (PQ.of (P := { R with s := s2, g := g2 }) ⟨O5, O6, p1, PU.same p2 rfl rfl rfl, p3⟩) (fun k hk => ?_), HB4.out, kept_new hk5⟩
                  rcases hk with (hk | hk) | hk
                  · exact HOL.out k hk
                  · exact .inr (Nat.le_trans HKL.out.1 hk)
                  · exact .inr (Nat.le_trans HKL.out.1 (Nat.le_trans HKR.out.1 hk))
          · have t_ : decide ((i : Int) < ((l.length : Nat) : Int)) = false := decide_eq_false (by omega)
            have HFL2 := Aside0.mk (show P.flush l = (0, R) by rw [HFL.out, List.drop_eq_nil_of_le (by omega)]; rfl)
            obtain ⟨O4, hu4, o3, o4, bck⟩ := Sep.right HSR.out (fpP _ _ _ _ _)
            have HU6 := Aside0.mk (show PU wr w0.heap.size gp gl ge bh bt al fi bf nf O4 R from hu4)
            have HBK4 := Aside0.mk bck
            clear hu4 o3 o4 bck
            have hb9 := below_alloc (Below.refl wr.heap.size wr) (Obj.map #[] 0)
            have hu9 := HU6.out.kept (Kept.of_below hb9 (fun _ => False)) (fun _ _ h => h)
            have x6 : (wr.alloc (Obj.map #[] 0)).cell? ⟨gp, 6, none⟩ = some (.map (some bt)) := (blk_cell hu9.hp 6).trans rfl
            have z6 := blk_frozen hu9.hp 6
            have hmm : ∀ (w : World), (Instr.makeMap 67 none).run Try.prog w = .ok (.map (some w.heap.size)) (w.alloc (.map #[] 0)) := by
              intro w
              simp [Instr.makeMap, underlying, Try.underlying67]
            have HB9 := Aside0.mk ((below_step HBR.out hb9).setCell (p := ⟨gp, 6, none⟩) (HU6.out.own gp (.inl rfl)).2 (.map (some wr.heap.size)))
            clear hb9 hu9
            go_upto_region 28 with (fail)
            clear x6 z6 hmm
            obtain ⟨hu9, hk9⟩ := HU6.out.newT
            have HU9 := Aside0.mk hu9
            have HK9 := Aside0.mk hk9
            clear hu9 hk9
            generalize (wr.alloc (Obj.map #[] 0)).setCell ⟨gp, 6, none⟩ (.map (some wr.heap.size)) = w9 at HB9 HU9 HK9 ⊢
            obtain ⟨b1, b2⟩ := HBK4.out _ w9 (fpU _ _ _ _ _ _ _ _ _ _ _) HU9.out HK9.out
            have HQ9 := Aside0.mk ((fpQ _ _ _ _ _).mono (O' := fun k => O k ∨ w.heap.size ≤ k) (PQ.of (P := { R with turned := [] }) b1) (fun k hk => by
              rcases hk with (hk | hk) | hk
              · exact HOL.out k hk
              · exact .inr (Nat.le_trans HKL.out.1 hk)
              · exact .inr (Nat.le_trans HKL.out.1 (Nat.le_trans HKR.out.1 hk))))
            have HK10 := Aside0.mk (show Kept w w9 O from kept_new ((HKL.out.mono (S' := fun k => O k ∨ w.heap.size ≤ k) (fun k hk => .inl hk)).then_ (HKR.out.then_ b2 (fun k hk => hk)) (fun k hk => .inl (HOL.out k hk))))
            clear b1 b2
            obtain ⟨-, x0, -⟩ := HQ9.out.nums
            unfold pv at x0
            obtain ⟨O6, hl6, o3, o4, bck⟩ := Sep.left HQ9.out (fpX _ _ _ _)
            have HC37 := Aside0.mk (frames.calls gd gl O6 R.s R.g w0 w9 hl6)
            have HC38 := Aside0.mk (checkpoint.calls gd gl O6 R.s R.g (mq + 4 * i) w0 w9 HB9.out hl6 HFR.out.ok (by have := HMQ.out; have := HLL.out; omega) HFR.out.g)
            have HBK := Aside0.mk bck
            clear hl6 o3 o4 bck
            by_cases hfr : ((R.g.fr.length : Nat) : Int) ≥ 1000
            · have t3 : decide (((R.g.fr.length : Nat) : Int) ≥ 1000) = true := decide_eq_true hfr
              have t4 : decide (1000 ≤ ((R.g.fr.length : Nat) : Int)) = true := decide_eq_true hfr
              have HX := Aside0.mk (show P.commit = Po.check { R with turned := [] } by rw [HRES.out]; unfold Po.flushed; rw [HFL2.out, if_neg (fun h => h rfl), if_pos hfr])
              clear hfr
              go_wp2_with (first
                | (have H3_ := Aside0.mk HM_.out; go_at_call 38; (with_reducible refine HC38.out.mono ?_); rintro e w10 ⟨rfl, hp10, hb10, hk10⟩; have HP10 := Aside0.mk hp10; have HB10 := Aside0.mk hb10; have HK11 := Aside0.mk hk10; clear hp10 hb10 hk10)
                | (go_at_call 37; (with_reducible refine HC37.out.mono ?_); rintro e w10 ⟨rfl, rfl⟩; have HM_ := Aside0.mk (trivial : True)))
              go_ret
              obtain ⟨b1, b2⟩ := HBK.out (pP w0.heap.size gd gl (Lg.checkpoint R.s R.g).s (Lg.checkpoint R.s R.g).g) w10 (fpP _ _ _ _ _) HP10.out HK11.out
              rw [HX.out]
              refine ⟨rfl, ?_, HB10.out, kept_new ((HK10.out.mono (fun k hk => .inl hk)).then_ b2 (fun k hk => .inl hk))⟩
              obtain ⟨O7, O8, p1, ⟨g1, g2, g3, g4, g5, g6, g7, p2⟩, p3⟩ := b1
              exact (fpQ _ _ _ _ _).mono (PQ.of (P := { R with turned := [], s := (Lg.checkpoint R.s R.g).s, g := (Lg.checkpoint R.s R.g).g }) ⟨O7, O8, p1, PU.same p2 rfl rfl rfl, p3⟩) (fun k hk => hk.elim id (fun h => .inr (Nat.le_trans HK10.out.1 h)))
            · have t3 : decide (((R.g.fr.length : Nat) : Int) ≥ 1000) = false := decide_eq_false hfr
              have t4 : decide (1000 ≤ ((R.g.fr.length : Nat) : Int)) = false := decide_eq_false hfr
              have HX := Aside0.mk (show P.commit = (0, { R with turned := [] }) by rw [HRES.out]; unfold Po.flushed; rw [HFL2.out, if_neg (fun h => h rfl), if_neg hfr])
              clear hfr HC38
              go_wp2_with (go_at_call 37; (with_reducible refine HC37.out.mono ?_); rintro e w10 ⟨rfl, rfl⟩)
              go_ret
              rw [HX.out]
              exact ⟨rfl, HQ9.out, HB9.out, HK10.out⟩
      · intro x g w2 cnt1 hwx hfx hlx hrg1 hlt hg1 hs1 hen
        obtain ⟨hga, hgn⟩ := addr_mem hfx
        have hk2 := Kept.of_grown hg1 HK1.out (fun k hk => .inr (Nat.le_of_eq (Option.some.inj hk)))
        have hu2 := HU.out.kept hk2 (fun _ _ h => h)
        have m3 : w2.cell? ⟨g, 3, none⟩ = some (.bool (fm g).d) := (blk_cell (hu2.hf g (List.mem_cons_of_mem _ hga)) 3).trans rfl
        have hb2 := HB1.out.grown hg1 HB1.out.size (fun j hj => by cases hj; exact HB.out.size)
        have hbw2 := HBW.out.grown hg1 HBW.out.size (fun j hj => by cases hj; exact Nat.le_refl _)
        have HSN2 := Aside0.mk (Seen.step HSN.out (f := fm g) (by rw [← HU.out.hl]; exact List.mem_map_of_mem hga) HU.out.nn (by rw [hgn]; exact hlx))
        have hne : u3.ownBlock ≠ some w.heap.size := by
          rcases HOW.out.2 with ⟨e, _⟩ | ⟨g5, cap, cur, e, _, h5, _⟩
          · rw [e]; exact fun e2 => by cases e2
          · rw [e]
            intro e2
            have e3 : g5 = w.heap.size := Option.some.inj e2
            obtain ⟨_, _, _, _, _, _, _, _, _, hr, _⟩ := HRG.out
            rw [← e3, h5] at hr
            cases hr
        have how2 : w2.ownsRow w.heap.size 3 1 u3 zs.length (nums .i64 zs) := HOW.out.kept hg1 (.inr hne)
        have HNE := Aside0.mk hne
        clear hne
        have HH := Aside0.mk (And.intro hrg1 (And.intro hlt (And.intro hk2 (And.intro hb2 hbw2))))
        have HOW2 := Aside0.mk how2
        have HGN := Aside0.mk hgn
        clear hu2 hk2 hb2 hbw2 hrg1 hlt hg1 how2 hgn hs1
        unfold pv at hen
        by_cases hd : (fm g).d = true
        · rw [hd] at m3
          rw [if_pos hd, HGN.out] at HSN2
          clear hd
          go_wp2_with (first
            | ((with_reducible refine gate_builtin (b := .append) (xs := #[.tmp 32, .tmp 34]) rfl ?_); at_builtin; refine print_append_num (w0 := w) w.heap.size rfl (.tmp 32) (.tmp 34) 23 3 .i64 8 rfl Try.underlying23 info3p (by decide) u3 zs x rfl rfl HOW2.out HH.out.2.2.2.2 HH.out.2.2.2.2.size (by have h1 := HCN.out; have h2 := HU.out.len; have h3 := HF.out.len; omega) ?_; intro v1 w3 how3 hbw3 hg3 hat3; have HOW3 := Aside0.mk how3; have HBW3 := Aside0.mk hbw3; have HG3 := Aside0.mk hg3; clear how3 hbw3 hg3 hat3))
          go_roundw
          case rel => exact ⟨_, cnt1, zs ++ [x], ⟨HH.out.1.kept HG3.out (fun e => by have h1 := own_base HOW2.out bh e.symm; have h2 := HU.out.mh.lt; omega) (fun e => HNE.out e.symm)⟩, HOW3, HSN2, ⟨by have h1 := HCN.out; have h2 := HH.out.2.1; rw [List.length_append, List.length_singleton]; omega⟩, ⟨Kept.of_grown HG3.out HH.out.2.2.1 (fun k hk => .inr (own_base HOW2.out k hk))⟩, ⟨HH.out.2.2.2.1.grown HG3.out HH.out.2.2.2.1.size (fun k hk => Nat.le_trans HB.out.size (own_base HOW2.out k hk))⟩, HBW3⟩
          case measure => rw [(HH.out.1.kept HG3.out (fun e => by have h1 := own_base HOW2.out bh e.symm; have h2 := HU.out.mh.lt; omega) (fun e => HNE.out e.symm)).left_eq, HRG.out.left_eq]; exact HH.out.2.1
        · have m3' : (fm g).d = false := by cases h : (fm g).d with | true => exact absurd h hd | false => rfl
          rw [m3'] at m3
          rw [if_neg hd, HGN.out] at HSN2
          clear hd m3'
          go_wp2_with (fail)
          go_roundw
          case rel => exact ⟨_, cnt1, zs, ⟨HH.out.1⟩, HOW2, HSN2, ⟨by have h1 := HCN.out; have h2 := HH.out.2.1; omega⟩, ⟨HH.out.2.2.1⟩, ⟨HH.out.2.2.2.1⟩, ⟨HH.out.2.2.2.2⟩⟩
          case measure => rw [HH.out.1.left_eq, HRG.out.left_eq]; exact HH.out.2.1
theorem pcommit.calls (gd gl gp : Nat) (O : Nat → Prop) (P : Po) (m : Nat) (w0 w : World) (hB : Below w0.heap.size w0 w) (hP : PQ w0.heap.size gd gl gp P w O) (hf : P.fine m) (hm : m ≤ 100000000) (hpg : 1 ≤ P.pages) :
    Calls Try.prog 15 #[pv gp] w (Did w0 w gd gl gp O (.int .i64 P.commit.1) P.commit.2) := by
  by_cases h : dirtyN P.held = []
  · exact pcommit_clean gd gl gp O P m w0 w hB hP hf hm hpg h
  · exact pcommit_dirty gd gl gp O P m w0 w hB hP hf hm hpg h
def zcells (gl : Nat) (most : Int) (v2 v3 : Value) (pg : Int) (v6 : Value) : Array Value := #[pv gl, .int .i64 most, v2, v3, .int .i64 pg, .int .i64 0, v6, .int .i64 0, .int .i64 0, .int .i64 0]
theorem fresh_PQ {base gd gl gp ge bh bt : Nat} {w : World} {O : Nat → Prop} {s : St} {g : Lg} {most : Int} (hl : PL w base gd gl O s g) (hO : ∀ k, O k → base ≤ k ∧ k < w.heap.size)
    (hp : w.heap[gp]? = some (.cells (zcells gl most (pv ge) (.map (some bh)) g.pages (.map (some bt))) 71 (0, 0))) (he : w.heap[ge]? = some (.cells (fcells noFm (pv ge) (pv ge)) 79 (0, 0)))
    (hh : MapP w bh 0 (fun _ => none)) (ht : MapK w bt []) (hne : bh ≠ bt) (hg : ∀ k, k = gp ∨ k = ge ∨ k = bh ∨ k = bt → base ≤ k ∧ ¬ O k) :
    PQ base gd gl gp (fresh s g most 0) w (fun k => O k ∨ k = gp ∨ k = ge ∨ k = bh ∨ k = bt) := by
  refine ⟨O, fun k => k = gp ∨ k = ge ∨ k = bh ∨ k = bt, hl, ⟨ge, bh, bt, [], fun _ => noFm, fun _ => ge, fun _ => ge, hp, fun a ha => ?_, List.nodup_cons.2 ⟨by simp, List.nodup_nil⟩, ⟨rfl, rfl, trivial⟩, rfl, rfl, List.nodup_nil, (fun f hf => by cases hf), hh, ht, hne, fun a ha => ?_⟩, fun k hk => .inl hk, fun k hk => .inr hk, fun k h1 h2 => (hg k h2).2 h1, hO, fun k hk => ⟨(hg k hk).1, ?_⟩⟩
  · rw [List.mem_singleton.1 ha]; exact he
  · have : a = gp ∨ a = ge ∨ a = bh ∨ a = bt := by
      rcases ha with e | e | e | e
      · exact .inl e
      · exact .inr (.inl (List.mem_singleton.1 e))
      · exact .inr (.inr (.inl e))
      · exact .inr (.inr (.inr e))
    exact ⟨this, (hg a this).1⟩
  · rcases hk with e | e | e | e
    · rw [e]; exact blk_lt hp
    · rw [e]; exact blk_lt he
    · rw [e]; exact hh.lt
    · rw [e]; exact ht.lt
set_option maxHeartbeats 16000000 in
set_option maxRecDepth 100000 in
theorem forget.calls (gd gl gp : Nat) (O : Nat → Prop) (s : St) (g : Lg) (most : Int) (m : Nat) (w0 w : World) (hB : Below w0.heap.size w0 w) (hL : PL w w0.heap.size gd gl O s g) (hok : s.ok m) (hg : g.ok)
    (hp : w.heap[gp]? = some (.cells (zcells gl most (.pointer none) (.map none) 0 (.map none)) 71 (0, 0))) (hgo : ¬ O gp ∧ w0.heap.size ≤ gp) :
    Calls Try.prog 26 #[pv gp] w fun e w' => e = .returned (.int .i64 (forgetP s g most).1) ∧ PQ w0.heap.size gd gl gp (forgetP s g most).2 w' (fun k => O k ∨ k = gp ∨ w.heap.size ≤ k) ∧ Below w0.heap.size w0 w' ∧ Kept w w' (fun k => k = gp) := by
  have HB := Aside0.mk hB
  have HL := Aside0.mk ((frPL _ _ _ _ _).narrow hL)
  have HOK := Aside0.mk hok
  have HG := Aside0.mk hg
  have HGO := Aside0.mk hgo
  have HGL := Aside0.mk (blk_lt hp)
  have HP := Aside0.mk hp
  clear hB hL hok hg hp hgo
  have hmm1 : ∀ (w : World), (Instr.makeMap 66 none).run Try.prog w = .ok (.map (some w.heap.size)) (w.alloc (.map #[] 0)) := by
    intro w
    simp [Instr.makeMap, underlying, Try.underlying66]
  have hmm2 : ∀ (w : World), (Instr.makeMap 67 none).run Try.prog w = .ok (.map (some w.heap.size)) (w.alloc (.map #[] 0)) := by
    intro w
    simp [Instr.makeMap, underlying, Try.underlying67]
  go_enter Try.func26, Try.ntmps26
  go_upto_region 2 with ((with_reducible refine gate_dst (N := 8) rfl ?_); refine box_event ?hg (N := 8) ?hd (cs := fcells noFm (.pointer none) (.pointer none)) (t := 79) ?hr ?_; (case hd => rfl); (case hg => rfl); (case hr => first | (go_simp; done) | (go_simp; rfl)); intro ge hge w1 hbox hb1; have HX1 := Aside0.mk hbox; have HB1 := Aside0.mk hb1; have HE1 := Aside0.mk (show w.heap.size ≤ ge by rw [hge]; exact Nat.le_refl _); have HP1 := Aside0.mk ((hb1.block gp HGL.out).trans HP.out); have x2 : w1.cell? ⟨gp, 2, none⟩ = some (.pointer none) := (blk_cell HP1.out 2).trans rfl; have z2 := blk_frozen HP1.out 2; clear hge hbox hb1)
  have hne1 : ge ≠ gp := fun e => by have := HE1.out; have := HGL.out; omega
  have HP2 := Aside0.mk (blk_put HP1.out 2 (pv ge) (show _ = zcells gl most (pv ge) (.map none) 0 (.map none) from rfl))
  have HX2 := Aside0.mk (blk_far HX1.out (p := ⟨gp, 2, none⟩) hne1 (pv ge))
  have HK2 := Aside0.mk (show Kept w (w1.setCell ⟨gp, 2, none⟩ (pv ge)) (fun k => k = gp) from (Kept.of_below HB1.out _).then_ set_kept (fun k hk => .inl hk))
  have HB2 := Aside0.mk ((below_step HB.out HB1.out).setCell (p := ⟨gp, 2, none⟩) HGO.out.2 (pv ge))
  clear x2 z2
  generalize w1.setCell ⟨gp, 2, none⟩ (pv ge) = w2 at HP2 HX2 HK2 HB2 ⊢
  have c2 : w2.cell? ⟨gp, 2, none⟩ = some (pv ge) := (blk_cell HP2.out 2).trans rfl
  have c4 : w2.cell? ⟨ge, 4, none⟩ = some (.pointer none) := (blk_cell HX2.out 4).trans rfl
  have c5 : w2.cell? ⟨ge, 5, none⟩ = some (.pointer none) := (blk_cell HX2.out 5).trans rfl
  have z4 := blk_frozen HX2.out 4
  have z5 := blk_frozen HX2.out 5
  unfold pv at c2
  go_region
  try go_frame
  have HX3 := Aside0.mk (show (((w2.setCell ⟨ge, 4, none⟩ (pv ge)).setCell ⟨ge, 5, none⟩ (pv ge)).drew).heap[ge]? = some (.cells (fcells noFm (pv ge) (pv ge)) 79 (0, 0)) from blk_drew (blk_put (blk_put HX2.out 4 (pv ge) rfl) 5 (pv ge) rfl))
  have HP3 := Aside0.mk (show (((w2.setCell ⟨ge, 4, none⟩ (pv ge)).setCell ⟨ge, 5, none⟩ (pv ge)).drew).heap[gp]? = _ from blk_drew (blk_far (blk_far HP2.out (p := ⟨ge, 4, none⟩) hne1.symm (pv ge)) (p := ⟨ge, 5, none⟩) hne1.symm (pv ge)))
  have HK3 := Aside0.mk (show Kept w (((w2.setCell ⟨ge, 4, none⟩ (pv ge)).setCell ⟨ge, 5, none⟩ (pv ge)).drew) (fun k => k = gp) from HK2.out.then_ (Kept.drew (Kept.then_ (set_kept (w := w2) (g := ge) (j := 4) (v := pv ge)) (set_kept (g := ge) (j := 5) (v := pv ge)) (fun k hk => .inl hk))) (fun k hk => .inr (by rw [hk]; exact HE1.out)))
  have HB3 := Aside0.mk (((HB2.out.setCell (p := ⟨ge, 4, none⟩) (Nat.le_trans HB.out.size HE1.out) (pv ge)).setCell (p := ⟨ge, 5, none⟩) (Nat.le_trans HB.out.size HE1.out) (pv ge)).drew)
  clear c2 c4 c5 z4 z5
  have ew : ((w2.setCell ⟨ge, 4, none⟩ (.pointer (some ⟨ge, 0, none⟩))).setCell ⟨ge, 5, none⟩ (.pointer (some ⟨ge, 0, none⟩))).drew = ((w2.setCell ⟨ge, 4, none⟩ (pv ge)).setCell ⟨ge, 5, none⟩ (pv ge)).drew := rfl
  rw [ew]
  clear ew
  generalize ((w2.setCell ⟨ge, 4, none⟩ (pv ge)).setCell ⟨ge, 5, none⟩ (pv ge)).drew = w3 at HP3 HX3 HK3 HB3 ⊢
  have hb4 := below_alloc (Below.refl w3.heap.size w3) (Obj.map #[] 0)
  have hp4 := (hb4.block gp (blk_lt HP3.out)).trans HP3.out
  have x3 : (w3.alloc (Obj.map #[] 0)).cell? ⟨gp, 3, none⟩ = some (.map none) := (blk_cell hp4 3).trans rfl
  have z3 := blk_frozen hp4 3
  have HP4 := Aside0.mk (blk_put hp4 3 (.map (some w3.heap.size)) (show _ = zcells gl most (pv ge) (.map (some w3.heap.size)) 0 (.map none) from rfl))
  have HX4 := Aside0.mk (blk_far ((hb4.block ge (blk_lt HX3.out)).trans HX3.out) (p := ⟨gp, 3, none⟩) hne1 (.map (some w3.heap.size)))
  have HBH := Aside0.mk (show w.heap.size ≤ w3.heap.size ∧ w3.heap.size ≠ gp ∧ ge < w3.heap.size from ⟨HK3.out.1, (fun e => by have := HGL.out; have := HK3.out.1; omega), blk_lt HX3.out⟩)
  have HM4 := Aside0.mk ((MapP.made w3).kept (w' := (w3.alloc (Obj.map #[] 0)).setCell ⟨gp, 3, none⟩ (.map (some w3.heap.size))) (Below.heap_setCell _ ⟨gp, 3, none⟩ _ w3.heap.size HBH.out.2.1))
  have HK4 := Aside0.mk (show Kept w ((w3.alloc (Obj.map #[] 0)).setCell ⟨gp, 3, none⟩ (.map (some w3.heap.size))) (fun k => k = gp) from (HK3.out.then_ (Kept.of_below hb4 (fun k => k = gp)) (fun k hk => .inl hk)).then_ set_kept (fun k hk => .inl hk))
  have HB4 := Aside0.mk ((below_step HB3.out hb4).setCell (p := ⟨gp, 3, none⟩) HGO.out.2 (.map (some w3.heap.size)))
  clear hb4 hp4
  go_upto_region 4 with (fail)
  clear x3 z3
  obtain ⟨bh, hbh⟩ : ∃ bh, bh = w3.heap.size := ⟨_, rfl⟩
  rw [← hbh] at HP4 HX4 HBH HM4 HK4 HB4 ⊢
  clear hbh
  generalize (w3.alloc (Obj.map #[] 0)).setCell ⟨gp, 3, none⟩ (.map (some bh)) = w4 at HP4 HX4 HM4 HK4 HB4 ⊢
  have hb5 := below_alloc (Below.refl w4.heap.size w4) (Obj.map #[] 0)
  have hp5 := (hb5.block gp (blk_lt HP4.out)).trans HP4.out
  have x6 : (w4.alloc (Obj.map #[] 0)).cell? ⟨gp, 6, none⟩ = some (.map none) := (blk_cell hp5 6).trans rfl
  have z6 := blk_frozen hp5 6
  have HP5 := Aside0.mk (blk_put hp5 6 (.map (some w4.heap.size)) (show _ = zcells gl most (pv ge) (.map (some bh)) 0 (.map (some w4.heap.size)) from rfl))
  have HX5 := Aside0.mk (blk_far ((hb5.block ge (blk_lt HX4.out)).trans HX4.out) (p := ⟨gp, 6, none⟩) hne1 (.map (some w4.heap.size)))
  have HBT := Aside0.mk (show w.heap.size ≤ w4.heap.size ∧ w4.heap.size ≠ gp ∧ bh < w4.heap.size from ⟨HK4.out.1, (fun e => by have := HGL.out; have := HK4.out.1; omega), HM4.out.lt⟩)
  have HT5 := Aside0.mk ((MapK.made w4).kept (w' := (w4.alloc (Obj.map #[] 0)).setCell ⟨gp, 6, none⟩ (.map (some w4.heap.size))) (Below.heap_setCell _ ⟨gp, 6, none⟩ _ w4.heap.size HBT.out.2.1))
  have HM5 := Aside0.mk ((HM4.out.kept (hb5.block bh HM4.out.lt)).kept (w' := (w4.alloc (Obj.map #[] 0)).setCell ⟨gp, 6, none⟩ (.map (some w4.heap.size))) (Below.heap_setCell _ ⟨gp, 6, none⟩ _ bh HBH.out.2.1))
  have HK5 := Aside0.mk (show Kept w ((w4.alloc (Obj.map #[] 0)).setCell ⟨gp, 6, none⟩ (.map (some w4.heap.size))) (fun k => k = gp) from (HK4.out.then_ (Kept.of_below hb5 (fun k => k = gp)) (fun k hk => .inl hk)).then_ set_kept (fun k hk => .inl hk))
  have HB5 := Aside0.mk ((below_step HB4.out hb5).setCell (p := ⟨gp, 6, none⟩) HGO.out.2 (.map (some w4.heap.size)))
  clear hb5 hp5
  go_upto_region 5 with (fail)
  clear x6 z6 hmm1 hmm2
  obtain ⟨bt, hbt⟩ : ∃ bt, bt = w4.heap.size := ⟨_, rfl⟩
  rw [← hbt] at HP5 HX5 HBT HT5 HM5 HK5 HB5 ⊢
  clear hbt
  generalize (w4.alloc (Obj.map #[] 0)).setCell ⟨gp, 6, none⟩ (.map (some bt)) = w5 at HP5 HX5 HT5 HM5 HK5 HB5 ⊢
  have HL5 := Aside0.mk ((frPL _ _ _ _ _).apart HL.out HK5.out (fun k hk e => HGO.out.1 (by rw [← e]; exact hk.1)))
  have HC23 := Aside0.mk (pages.calls gd gl _ s g w0 w5 HL5.out)
  have x0 : w5.cell? ⟨gp, 0, none⟩ = some (pv gl) := (blk_cell HP5.out 0).trans rfl
  have x4 : w5.cell? ⟨gp, 4, none⟩ = some (.int .i64 0) := (blk_cell HP5.out 4).trans rfl
  have z4 := blk_frozen HP5.out 4
  unfold pv at x0
  have HP6 := Aside0.mk (blk_put HP5.out 4 (.int .i64 ((g.pages : Nat) : Int)) (show _ = zcells gl most (pv ge) (.map (some bh)) g.pages (.map (some bt)) from rfl))
  have HX6 := Aside0.mk (blk_far HX5.out (p := ⟨gp, 4, none⟩) hne1 (.int .i64 ((g.pages : Nat) : Int)))
  have HM6 := Aside0.mk (HM5.out.kept (w' := w5.setCell ⟨gp, 4, none⟩ (.int .i64 ((g.pages : Nat) : Int))) (Below.heap_setCell _ ⟨gp, 4, none⟩ _ bh HBH.out.2.1))
  have HT6 := Aside0.mk (HT5.out.kept (w' := w5.setCell ⟨gp, 4, none⟩ (.int .i64 ((g.pages : Nat) : Int))) (Below.heap_setCell _ ⟨gp, 4, none⟩ _ bt HBT.out.2.1))
  have HK6 := Aside0.mk (show Kept w (w5.setCell ⟨gp, 4, none⟩ (.int .i64 ((g.pages : Nat) : Int))) (fun k => k = gp) from HK5.out.then_ set_kept (fun k hk => .inl hk))
  have HB6 := Aside0.mk (HB5.out.setCell (p := ⟨gp, 4, none⟩) HGO.out.2 (.int .i64 ((g.pages : Nat) : Int)))
  have HL6 := Aside0.mk ((frPL w0.heap.size gd gl s g).apart HL.out HK6.out (fun k hk e => HGO.out.1 (by rw [← e]; exact hk.1)))
  go_upto_region 6 with (go_at_call 23; (with_reducible refine HC23.out.mono ?_); rintro e w6 ⟨rfl, hw6⟩; subst hw6)
  have HQ6 := Aside0.mk (fresh_PQ (most := most) HL6.out (fun k hk => ⟨hk.2.1, Nat.lt_of_lt_of_le hk.2.2 HK6.out.1⟩) HP6.out HX6.out HM6.out HT6.out (by have := HBT.out.2.2; omega) (fun k hk => by
    rcases hk with e | e | e | e
    · rw [e]; exact ⟨HGO.out.2, fun h => HGO.out.1 h.1⟩
    · rw [e]; exact ⟨Nat.le_trans HB.out.size HE1.out, fun h => Nat.not_lt.mpr HE1.out h.2.2⟩
    · rw [e]; exact ⟨Nat.le_trans HB.out.size HBH.out.1, fun h => Nat.not_lt.mpr HBH.out.1 h.2.2⟩
    · rw [e]; exact ⟨Nat.le_trans HB.out.size HBT.out.1, fun h => Nat.not_lt.mpr HBT.out.1 h.2.2⟩))
  have HQ7 := Aside0.mk ((fpQ _ _ _ _ _).mono (O' := fun k => O k ∨ k = gp ∨ w.heap.size ≤ k) HQ6.out (fun k hk => by
    rcases hk with h | e | e | e | e
    · exact .inl h.1
    · exact .inr (.inl e)
    · exact .inr (.inr (by rw [e]; exact HE1.out))
    · exact .inr (.inr (by rw [e]; exact HBH.out.1))
    · exact .inr (.inr (by rw [e]; exact HBT.out.1))))
  have HC55 := Aside0.mk (lread.calls gd gl _ s g m 0 w0 _ HL6.out HOK.out HG.out (by decide))
  clear x0 x4 z4 HP5 HX5 HM5 HT5 HK5 HB5 HL5 HC23 HP6 HX6 HM6 HT6
  generalize w6.setCell ⟨gp, 4, none⟩ (.int .i64 ((g.pages : Nat) : Int)) = w7 at HQ6 HQ7 HC55 HK6 HB6 HL6 ⊢
  obtain ⟨-, x0, -⟩ := HQ7.out.nums
  unfold pv at x0
  obtain ⟨⟨t, e1⟩, hr⟩ : ∃ r, r = Lg.read s g 0 := ⟨_, rfl⟩
  rw [← hr] at HC55
  have HR := Aside0.mk (show forgetP s g most = if e1 ≠ 0 then (e1, fresh s g most 0) else ((Pages.readOf t).2.2.2, fresh s g most (Pages.readOf t).2.1) by unfold forgetP; rw [← hr])
  clear hr
  by_cases h1 : e1 = 0
  · subst h1
    have hop := openAny.calls t
    obtain ⟨⟨kd, lk, cl, er⟩, hro⟩ : ∃ r, r = Pages.readOf t := ⟨_, rfl⟩
    rw [← hro] at hop HR
    have HOP := Aside0.mk hop
    clear hop hro
    go_upto_region 10 with (first
      | (have H2_ := Aside0.mk HD8.out; go_at_call 31; (with_reducible refine (HOP.out _).mono ?_); rintro e w9 ⟨A, cc, rfl, hcc, hcl, hb9⟩; have HB9 := Aside0.mk hb9; clear hcc hcl hb9)
      | (go_at_call 55; (with_reducible refine HC55.out.mono ?_); rintro e w8 ⟨rfl, hd8⟩; have HD8 := Aside0.mk hd8; clear hd8))
    have HX4 := Aside0.mk (blk_new w9 (Obj.cells #[.int .i64 kd, .int .i64 lk, .slice A cl.length cc] 76 (0, 0)))
    have HB4 := Aside0.mk (show Below w8.heap.size w8 (w9.alloc (Obj.cells #[.int .i64 kd, .int .i64 lk, .slice A cl.length cc] 76 (0, 0))) from below_alloc HB9.out _)
    generalize w9.heap.size = gx at HX4 ⊢
    generalize w9.alloc (Obj.cells #[.int .i64 kd, .int .i64 lk, .slice A cl.length cc] 76 (0, 0)) = w10 at HX4 HB4 ⊢
    have HBB := Aside0.mk (below_step HD8.out.below HB4.out)
    have HQ10 := Aside0.mk ((fpQ _ _ _ _ _).apart HQ7.out (Kept.of_below HBB.out (fun _ => False)) (fun _ _ h => h))
    have m1 : w10.cell? ⟨gx, 1, none⟩ = some (.int .i64 lk) := (blk_cell HX4.out 1).trans rfl
    obtain ⟨zz, -, -, -, x5⟩ := HQ10.out.nums
    have z5 := zz 5
    clear zz
    go_wp2_with (fail)
    go_ret
    obtain ⟨d1, d2, d3⟩ := HQ10.out.setp 5 (.int .i64 lk) (P' := fresh s g most lk) (fun _ _ _ => rfl) rfl rfl rfl rfl
    rw [HR.out, if_neg (fun h => h rfl)]
    exact ⟨rfl, d1, (below_step HB6.out HBB.out).setCell (p := ⟨gp, 5, none⟩) d3 _, (HK6.out.then_ (Kept.of_below HBB.out (fun k => k = gp)) (fun k hk => .inl hk)).then_ set_kept (fun k hk => .inl hk)⟩
  · have q_ : (e1 != 0) = true := bne_iff_ne.2 h1
    have HCN := Aside0.mk h1
    clear h1
    go_wp2_with (go_at_call 55; (with_reducible refine HC55.out.mono ?_); rintro e w8 ⟨rfl, hd8⟩; have HD8 := Aside0.mk hd8; clear hd8)
    go_ret
    rw [HR.out, if_pos HCN.out]
    exact ⟨rfl, (fpQ _ _ _ _ _).apart HQ7.out (Kept.of_below HD8.out.below (fun _ => False)) (fun _ _ h => h), below_step HB6.out HD8.out.below, HK6.out.then_ (Kept.of_below HD8.out.below (fun k => k = gp)) (fun k hk => .inl hk)⟩
theorem metaNone.calls (n : Int) (w : World) : Calls Try.prog 25 #[.int .i64 n, .slice none 0 0] w fun e w' => e = .returned (.string (metaB n [])) ∧ Below w.heap.size w w' :=
  metaP.calls n [] none 0 w (Kd.C_nil _ _) (Nat.le_refl _) (Nat.zero_le _)
def Opened2 (w0 w : World) (gd : Nat) (O : Nat → Prop) (Q : Po) : Ending → World → Prop := fun e w' =>
  ∃ gl gp, e = .returned (.tuple #[pv gp, .int .i64 0]) ∧ PQ w0.heap.size gd gl gp Q w' (fun k => O k ∨ w.heap.size ≤ k) ∧ Below w0.heap.size w0 w' ∧ Kept w w' O
set_option maxHeartbeats 16000000 in
set_option maxRecDepth 100000 in
theorem popen.calls (gd : Nat) (O : Nat → Prop) (s s2 : St) (g : Lg) (Q : Po) (m : Nat) (w0 w : World) (hB : Below w0.heap.size w0 w) (hD : DD w w0.heap.size gd O s) (hok : s.ok m) (hm : m ≤ 100000000)
    (ho : openP s = (0, s2, some g)) (hok2 : s2.ok m) (hg : g.ok) (hp : openPool s 8 = (0, Q.s, some Q)) :
    Calls Try.prog 5 #[pv gd, .int .i64 8] w (Opened2 w0 w gd O Q) := by
  have hc := open.calls gd O s m w0 w hB hD hok (by omega)
  rw [ho] at hc
  have HC22 := Aside0.mk hc
  have HOK := Aside0.mk hok2
  have HG := Aside0.mk hg
  have HM := Aside0.mk hm
  unfold openPool at hp
  rw [if_neg (by decide), ho] at hp
  by_cases hz : g.pages = 0
  · have q1 : (((g.pages : Nat) : Int) == 0) = true := by rw [hz]; rfl
    simp only at hp
    rw [if_pos hz] at hp
    by_cases hcc : (Lg.commit s2 g 0 (metaB 0 []) 1).c ≠ 0
    · rw [if_pos hcc] at hp
      exact absurd (show (none : Option Po) = some Q from congrArg (fun x => x.2.2) hp) (by simp)
    · rw [if_neg hcc] at hp
      have hcz : (Lg.commit s2 g 0 (metaB 0 []) 1).c = 0 := by omega
      have HF1 := Aside0.mk (show (forgetP (Lg.commit s2 g 0 (metaB 0 []) 1).s (Lg.commit s2 g 0 (metaB 0 []) 1).g 8).1 = 0 from congrArg (·.1) hp)
      have HF2 := Aside0.mk (show (forgetP (Lg.commit s2 g 0 (metaB 0 []) 1).s (Lg.commit s2 g 0 (metaB 0 []) 1).g 8).2 = Q from Option.some.inj (congrArg (·.2.2) hp))
      have HCZ := Aside0.mk hcz
      have HOK3 := Aside0.mk (Log.Lg.commit_ok hok2 g 0 (metaB 0 []) 1)
      have HG3 := Aside0.mk (Log.Lg.ok.commit hg s2 0 (metaB 0 []) 1)
      clear hc hB hD hok hm ho hok2 hg hp hz hcc hcz
      go_enter Try.func5, Try.ntmps5
      go_wp2_with (first
        | (have H7_ := Aside0.mk HX7.out; go_at_call 26; (with_reducible refine (forget.calls gd gl gp _ _ _ 8 (m + 4) w0 w7 HB7.out HL7.out HOK3.out HG3.out HX7.out HGO7.out).mono ?_); rintro e w8 ⟨rfl, hq8, hb8, hk8⟩; have HQ8 := Aside0.mk hq8; have HB8 := Aside0.mk hb8; have HK8 := Aside0.mk hk8; clear hq8 hb8 hk8)
        | (have H6_ := Aside0.mk HP6.out; (with_reducible refine gate_dst (N := 35) rfl ?_); refine box_event ?hg (N := 35) ?hd (cs := zcells gl 8 (.pointer none) (.map none) 0 (.map none)) (t := 71) ?hr ?_; (case hd => rfl); (case hg => rfl); (case hr => first | (go_simp; done) | (go_simp; rfl)); intro gp hgp w7 hbox hb7; have HX7 := Aside0.mk hbox; have HB7 := Aside0.mk (below_step HB6.out hb7); have HL7 := Aside0.mk ((frPL _ _ _ _ _).narrow ((frPL _ _ _ _ _).apart ((frPL _ _ _ _ _).narrow HP6.out) (Kept.of_below hb7 (fun _ => False)) (fun _ _ h => h))); have HGE := Aside0.mk (show w6.heap.size ≤ gp by rw [hgp]; simp); have HK7 := Aside0.mk (Kept.of_below hb7 (fun _ => False)); have HGO7 := Aside0.mk (show ¬ ((((fun k => (O k ∨ w.heap.size ≤ k) ∨ w4.heap.size ≤ k) gp) ∧ w0.heap.size ≤ gp ∧ gp < w6.heap.size) ∧ w0.heap.size ≤ gp ∧ gp < w7.heap.size) ∧ w0.heap.size ≤ gp from ⟨fun h => Nat.not_lt.mpr HGE.out h.1.2.2, Nat.le_trans (below_size HB6.out) HGE.out⟩); clear hgp hbox hb7)
        | (have H5_ := Aside0.mk HL4.out; go_at_call 24; (have hcm := commit.calls gd gl _ s2 g m 0 (metaB 0 []) 1 w0 w4 HB4.out HL4.out HOK.out (by have := HM.out; omega) HG.out (by decide)); rw [HCZ.out] at hcm; (with_reducible refine hcm.mono ?_); rintro e w6 ⟨rfl, hp6, hb6, hk6⟩; have HP6 := Aside0.mk hp6; have HB6 := Aside0.mk hb6; have HK6 := Aside0.mk hk6; clear hcm hp6 hb6 hk6)
        | (have H4_ := Aside0.mk HPG.out; go_at_call 25; (with_reducible refine (metaNone.calls 0 _).mono ?_); rintro e w4 ⟨rfl, hb4⟩; have HB4 := Aside0.mk (below_step HB2.out hb4); have HK4 := Aside0.mk (HK2.out.then_ (Kept.of_below hb4 (fun _ => False)) (fun k hk => hk.elim)); have HL4 := Aside0.mk ((frPL _ _ _ _ _).apart HL2.out (Kept.of_below hb4 (fun _ => False)) (fun _ _ h => h)); clear hb4)
        | (have H3_ := Aside0.mk HL2.out; go_at_call 23; (with_reducible refine (pages.calls gd gl _ s2 g w0 _ HL2.out).mono ?_); rintro e w3 ⟨rfl, rfl⟩; have HPG := Aside0.mk (trivial : True))
        | (go_at_call 22; (with_reducible refine HC22.out.mono ?_); rintro e w2 ⟨v, rfl, hb2, hk2, gl, rfl, hl2⟩; have HB2 := Aside0.mk hb2; have HK2 := Aside0.mk hk2; have HL2 := Aside0.mk hl2; clear hb2 hk2 hl2))
      go_ret2
      have hq8 := HQ8.out
      rw [HF2.out] at hq8
      refine ⟨gl, gp, (by rw [HF1.out]; rfl), (fpQ _ _ _ _ _).mono hq8 (fun k hk => ?_), HB8.out, ?_⟩
      · rcases hk with h | e | e
        · rcases h.1.1 with h | h
          · exact h
          · exact .inr (Nat.le_trans HK4.out.1 h)
        · exact .inr (by rw [e]; exact Nat.le_trans HK4.out.1 (Nat.le_trans HK6.out.1 HGE.out))
        · exact .inr (Nat.le_trans HK4.out.1 (Nat.le_trans HK6.out.1 (Nat.le_trans HK7.out.1 e)))
      · exact ((HK4.out.then_ HK6.out (fun k hk => hk)).then_ HK7.out (fun k hk => hk.elim)).then_ HK8.out (fun k hk => .inr (by rw [hk]; exact Nat.le_trans HK4.out.1 (Nat.le_trans HK6.out.1 HGE.out)))
  · have q1 : (((g.pages : Nat) : Int) == 0) = false := beq_false_of_ne (by omega)
    simp only at hp
    rw [if_neg hz] at hp
    have HF1 := Aside0.mk (show (forgetP s2 g 8).1 = 0 from congrArg (·.1) hp)
    have HF2 := Aside0.mk (show (forgetP s2 g 8).2 = Q from Option.some.inj (congrArg (·.2.2) hp))
    clear hc hB hD hok hm ho hok2 hg hp hz
    go_enter Try.func5, Try.ntmps5
    go_wp2_with (first
      | (have H7_ := Aside0.mk HX7.out; go_at_call 26; (with_reducible refine (forget.calls gd gl gp _ _ _ 8 m w0 w7 HB7.out HL7.out HOK.out HG.out HX7.out HGO7.out).mono ?_); rintro e w8 ⟨rfl, hq8, hb8, hk8⟩; have HQ8 := Aside0.mk hq8; have HB8 := Aside0.mk hb8; have HK8 := Aside0.mk hk8; clear hq8 hb8 hk8)
      | (have H5_ := Aside0.mk HPG.out; have H6_ := Aside0.mk HL3.out; (with_reducible refine gate_dst (N := 35) rfl ?_); refine box_event ?hg (N := 35) ?hd (cs := zcells gl 8 (.pointer none) (.map none) 0 (.map none)) (t := 71) ?hr ?_; (case hd => rfl); (case hg => rfl); (case hr => first | (go_simp; done) | (go_simp; rfl)); intro gp hgp w7 hbox hb7; have HX7 := Aside0.mk hbox; have HB7 := Aside0.mk (below_step HB3.out hb7); have HL7 := Aside0.mk ((frPL _ _ _ _ _).narrow ((frPL _ _ _ _ _).apart ((frPL _ _ _ _ _).narrow HL3.out) (Kept.of_below hb7 (fun _ => False)) (fun _ _ h => h))); have HGE := Aside0.mk (show w3.heap.size ≤ gp by rw [hgp]; simp); have HK7 := Aside0.mk (Kept.of_below hb7 (fun _ => False)); have HGO7 := Aside0.mk (show ¬ ((((fun k => O k ∨ w.heap.size ≤ k) gp) ∧ w0.heap.size ≤ gp ∧ gp < w3.heap.size) ∧ w0.heap.size ≤ gp ∧ gp < w7.heap.size) ∧ w0.heap.size ≤ gp from ⟨fun h => Nat.not_lt.mpr HGE.out h.1.2.2, Nat.le_trans (below_size HB3.out) HGE.out⟩); clear hgp hbox hb7)
      | (have H3_ := Aside0.mk HL2.out; go_at_call 23; (with_reducible refine (pages.calls gd gl _ s2 g w0 _ HL2.out).mono ?_); rintro e w3 ⟨rfl, hw3⟩; have HPG := Aside0.mk (trivial : True); have HL3 := HL2; have HB3 := HB2; have HK3 := HK2; subst hw3)
      | (go_at_call 22; (with_reducible refine HC22.out.mono ?_); rintro e w2 ⟨v, rfl, hb2, hk2, gl, rfl, hl2⟩; have HB2 := Aside0.mk hb2; have HK2 := Aside0.mk hk2; have HL2 := Aside0.mk hl2; clear hb2 hk2 hl2))
    go_ret2
    have hq8 := HQ8.out
    rw [HF2.out] at hq8
    refine ⟨gl, gp, (by rw [HF1.out]; rfl), (fpQ _ _ _ _ _).mono hq8 (fun k hk => ?_), HB8.out, ?_⟩
    · rcases hk with h | e | e
      · exact h.1.1
      · exact .inr (by rw [e]; exact Nat.le_trans HK3.out.1 HGE.out)
      · exact .inr (Nat.le_trans HK3.out.1 (Nat.le_trans HK7.out.1 e))
    · exact (HK3.out.then_ HK7.out (fun k hk => hk.elim)).then_ HK8.out (fun k hk => .inr (by rw [hk]; exact Nat.le_trans HK3.out.1 HGE.out))
set_option maxHeartbeats 4000000 in
set_option maxRecDepth 100000 in
theorem without.calls (b n : Nat) (f : Int → Option ByteArray) (k : Int) (w : World) (h : MapS w b n f) (hn : n ≤ 1000000000) :
    Calls Try.prog 13 #[.map (some b), .int .i64 k] w fun e w' => ∃ b', e = .returned (.map (some b')) ∧ w.heap.size ≤ b' ∧ MapS w' b' n (fun x => if x = k then none else f x) ∧ Below w.heap.size w w' := by
  obtain ⟨D0, hown, hf⟩ := h
  have HF := Aside0.mk hf
  have HN := Aside0.mk hn
  have HSZ := Aside0.mk hown.size_le
  have hmm : ∀ (w : World), (Instr.makeMap 32 none).run Try.prog w = .ok (.map (some w.heap.size)) (w.alloc (.map #[] 0)) := by
    intro w
    simp [Instr.makeMap, underlying, Try.underlying32]
  have HM1 := Aside0.mk (show MapS (w.alloc (.map #[] 0)) w.heap.size 0 (fun _ => none) from ⟨.map [], World.ownsMap_made _ _ _ _, fun x hx => ⟨rfl, fun _ => rfl⟩⟩)
  have HB1 := Aside0.mk (show Below w.heap.size w (w.alloc (.map #[] 0)) from (Below.refl _ _).alloc (Nat.le_refl _) _)
  have HL1 := Aside0.mk (show w.heap.size < (w.alloc (.map #[] 0)).heap.size from HM1.out.lt)
  have HO1 := Aside0.mk (hown.kept (grown_of_below HB1.out none) (by simp))
  have hown0_ne := hown.lt
  clear hown hf hn
  go_enter Try.func13, Try.ntmps13
  go_wp2_with (first
    | (at_range; refine wpList_range_own _ rfl _ 32 rfl 3 9 law3 Try.underlying32 _ b n _ rfl HO1.out ?_; intro w0 hrg0 hg0 hs0)
    | go_in)
  try go_frame
  have HRG := Aside0.mk hrg0
  have HOUT := Aside0.mk (show MapS w0 w.heap.size (Maps.size D0 - Maps.size D0) (fun _ => none) from (HM1.out.kept (hg0.5 _ HL1.out (by simp))).mono (by omega))
  have HBL := Aside0.mk (show Below w.heap.size w w0 from HB1.out.grown hg0 (Nat.le_of_lt HL1.out) (fun j hj => by cases hj))
  clear hrg0 hg0 hs0
  generalize (w.alloc (.map #[] 0)).heap.size = rb at HRG HL1 ⊢
  go_loopw [6, 7] (fun _ _ wr => ∃ (left : Lit → Bool) (cnt : Nat) (fo : Int → Option ByteArray), Aside0 (wr.ranges Try.prog 3 (plainElem Try.prog 9) b rb n D0 left cnt) ∧ cnt ≤ Maps.size D0 ∧ Aside0 (MapS wr w.heap.size (Maps.size D0 - cnt) fo) ∧ Aside0 (fo k = none ∧ ∀ x, x ≠ k → (Lit.int .i64 x).wf = true → fo x = if left (.int .i64 x) = true then none else f x) ∧ Aside0 (Below w.heap.size w wr)) (fun _ _ wr => wr.rangeLeft b rb)
  case atStart =>
    refine ⟨_, _, _, HRG, Nat.le_refl _, HOUT, ⟨rfl, fun x hx hwf => ?_⟩, HBL⟩
    by_cases hh : Maps.has D0 (.int .i64 x) = true
    · rw [if_pos hh]
    · rw [if_neg hh]
      exact (has_left_none (HF.out x hwf) (by simpa using hh)).symm
  case round =>
    clear HRG HOUT HBL
    obtain ⟨left, cnt, fo, HRG, hcs, HOUT, HA, HBL⟩ := hrel
    have HL2 := Aside0.mk (HOUT.out.lt)
    have hsz_ := HSZ.out
    have hn_ := HN.out
    go_wp2_with (first
      | (at_next; refine wpList_next_ranges_is _ rfl _ rfl 3 9 .i64 law3 Try.underlying3 Try.underlying9 b rb n _ _ _ rfl HRG.out ?_ ?_)
      | go_in)
    · intro hc0 hl0
      go_wp2_with (fail)
      go_ret
      refine ⟨_, rfl, Nat.le_refl _, (HOUT.out.mono (by omega)).congr (fun x hx => ?_), HBL.out⟩
      by_cases e : x = k
      · rw [if_pos e, e, HA.out.1]
      · rw [if_neg e, HA.out.2 x e hx, if_neg (by rw [hl0]; simp)]
    · intro x c w2 cnt1 hwx hwc hlx hat hrg1 hlt hg1 hs1 hen
      have hout1 := HOUT.out.kept (hg1.5 _ HL2.out (by simp only [ne_eq, Option.some.injEq]; exact Nat.ne_of_lt HL1.out))
      have hfx := has_left_some (HF.out x hwx) hat
      have hB2 := HBL.out.grown hg1 HBL.out.size (fun j hj => by cases hj; exact Nat.le_of_lt HL1.out)
      by_cases e : x = k
      · have hsame : (x != k) = false := by simp [e]
        go_wp2_with (fail)
        go_roundw
        case rel =>
          refine ⟨_, cnt1, fo, ⟨hrg1⟩, by omega, ⟨hout1.mono (by omega)⟩, ⟨HA.out.1, fun z hz hwz => ?_⟩, ⟨hB2⟩⟩
          rw [HA.out.2 z hz hwz, left_cut left (e ▸ hz)]
        case measure => rw [hrg1.left_eq, HRG.out.left_eq]; exact hlt
      · have hsame : (x != k) = true := by simp [e]
        obtain ⟨w3, hrun3, hm3, hg3⟩ := hout1.put (t := c) (by unfold maxLen; omega) hwx hwc
        have HR3 := Aside0.mk hrun3
        go_wp2_with (first
          | (refine wpList_mapUpdate_run _ rfl _ _ _ 32 rfl _ _ _ rfl rfl rfl w3 HR3.out ?_; go_frame)
          | go_in)
        have hrg2 := hrg1.kept hg3 (fun e => by have := Option.some.inj e; have := hown0_ne; omega) (fun e => by have := Option.some.inj e; have := HL1.out; omega)
        go_roundw
        case rel =>
          refine ⟨_, cnt1, _, ⟨hrg2⟩, by omega, ⟨hm3.mono (by omega)⟩, ⟨?_, fun z hz hwz => ?_⟩, ⟨hB2.grown hg3 hB2.size (fun j hj => by cases hj; exact Nat.le_refl _)⟩⟩
          · show (if k = x then some c else fo k) = none
            rw [if_neg (Ne.symm e), HA.out.1]
          · show (if z = x then some c else fo z) = _
            by_cases ez : z = x
            · subst ez
              rw [if_pos rfl, left_cut_self left, hfx]
              rfl
            · rw [if_neg ez, HA.out.2 z hz hwz, left_cut left ez]
        case measure => rw [hrg2.left_eq, HRG.out.left_eq]; exact hlt
theorem toList_bytes {a b : ByteArray} (h : a.toList = b.toList) : a = b := by
  rw [ByteArray.toList_eq, ByteArray.toList_eq] at h
  exact bytes_ext h
theorem meas_r2 {n p : Nat} (h : n < p) : p - (intOf (.int .i64 ((n : Int) + 1))).toNat < p - (intOf (.int .i64 (n : Int))).toNat := by
  show p - ((n : Int) + 1).toNat < p - (n : Int).toNat
  omega
theorem room_calm {P : Po} (h : ∀ f ∈ P.held, f.d = false) : P.room.2.s = P.s ∧ ∀ f ∈ P.room.2.held, f.d = false := by
  refine ⟨?_, fun f hf => h f (room_sub P f hf)⟩
  unfold Po.room
  split
  · rfl
  · cases hu : unpin P.held with
    | none => rfl
    | some y =>
      obtain ⟨xs, f, ys⟩ := y
      simp only
      have hf : f.d = false := h f (by rw [(unpin_some hu).1]; simp)
      rw [if_neg (by rw [hf]; decide)]
theorem get_calm {P : Po} (h : ∀ f ∈ P.held, f.d = false) (n : Int) : (P.get n).2.s = P.s ∧ ∀ f ∈ (P.get n).2.held, f.d = false := by
  obtain ⟨r1, r2⟩ := room_calm h
  unfold Po.get
  split
  · exact ⟨rfl, h⟩
  · cases hp : pickF n P.held with
    | some y =>
      obtain ⟨xs, f, ys⟩ := y
      refine ⟨rfl, fun x hx => h x ?_⟩
      have hx : x ∈ xs ++ ys ++ [f] := hx
      rw [(pickF_some hp).1]
      simp only [List.mem_append, List.mem_cons, List.mem_singleton, List.not_mem_nil, or_false] at hx ⊢
      rcases hx with (e | e) | e
      · exact .inl e
      · exact .inr (.inr e)
      · exact .inr (.inl e)
    | none =>
      simp only
      split
      · exact ⟨r1, r2⟩
      · unfold Po.fetch
        split
        · exact ⟨r1, r2⟩
        · refine ⟨r1, fun x hx => ?_⟩
          have hx : x ∈ P.room.2.held ++ [_] := hx
          rcases List.mem_append.1 hx with e | e
          · exact r2 x e
          · rw [List.mem_singleton.1 e]
theorem read_calm {P : Po} (h : ∀ f ∈ P.held, f.d = false) (n : Int) : (P.read n).2.2.s = P.s ∧ ∀ f ∈ (P.read n).2.2.held, f.d = false := by
  unfold Po.read
  split <;> exact get_calm h n
structure Rd (P Q : Po) (C : Cn) (m j : Nat) : Prop where
  inv : Inv Q C
  near : Near P Q 0 j
  turned : Q.turned = P.turned
  fine : Q.fine (m + j)
  calm : (∀ f ∈ P.held, f.d = false) → Q.s = P.s ∧ ∀ f ∈ Q.held, f.d = false
def Rdd (w0 w : World) (gd gl gp : Nat) (O : Nat → Prop) (P : Po) (C M : Cn) (m : Nat) : Ending → World → Prop := fun e w' =>
  ∃ (r : Bool) (Q : Po) (j : Nat), e = .returned (.bool r) ∧ PQ w0.heap.size gd gl gp Q w' (fun k => O k ∨ w.heap.size ≤ k) ∧ Below w0.heap.size w0 w' ∧ Kept w w' O ∧ Rd P Q C m j ∧ j ≤ 300 ∧ ((∀ n t, M n = some t → C n = some t) → r = true ∨ Q.s.d = true)
set_option maxHeartbeats 8000000 in
set_option maxRecDepth 100000 in
theorem preads.calls (gd gl gp : Nat) (O : Nat → Prop) (P : Po) (C M : Cn) (bm nm m : Nat) (w0 w : World) (hB : Below w0.heap.size w0 w) (hP : PQ w0.heap.size gd gl gp P w O) (hf : P.fine m) (hm : m ≤ 10000000)
    (hi : Inv P C) (hc : cnt P < 50000) (hmp : MapS w bm nm M) (hbo : ¬ O bm) (hpg : P.pages ≤ 300) :
    Calls Try.prog 17 #[pv gp, .agg #[.int .i64 P.pages, .map (some bm)]] w (Rdd w0 w gd gl gp O P C M m) := by
  obtain ⟨p, hp⟩ : ∃ p : Nat, P.pages = (p : Int) := ⟨P.pages.toNat, by have := hi.pages; omega⟩
  have HB := Aside0.mk hB
  have HP := Aside0.mk ((fpQ _ _ _ _ _).narrow hP)
  have HF := Aside0.mk hf
  have HM := Aside0.mk hm
  have HI := Aside0.mk hi
  have HC := Aside0.mk hc
  have HMP := Aside0.mk hmp
  have HBO := Aside0.mk hbo
  have HPG := Aside0.mk (show p ≤ 300 by omega)
  have HPP := Aside0.mk hp
  have HBM := Aside0.mk hmp.lt
  rw [hp]
  clear hB hP hf hm hi hc hmp hbo hpg hp
  go_enter Try.func17, Try.ntmps17
  go_wp2_with ((with_reducible refine gate_dst (N := 3) rfl ?_); refine box_event ?hg (N := 3) ?hd (cs := #[.int .i64 p, .map (some bm)]) (t := 34) ?hr ?_; (case hd => rfl); (case hg => rfl); (case hr => first | (go_simp; done) | (go_simp; rfl)); intro bx hbx w1 hbox hb1; have HX := Aside0.mk hbox; have HB1 := Aside0.mk hb1; have HBX := Aside0.mk (show w.heap.size ≤ bx by rw [hbx]; exact Nat.le_refl _); clear hbx hbox hb1)
  try go_frame
  obtain ⟨Oq, hOq⟩ : ∃ Oq : Nat → Prop, Oq = fun k => O k ∧ w0.heap.size ≤ k ∧ k < w.heap.size := ⟨_, rfl⟩
  rw [← hOq] at HP
  have HOO := Aside0.mk (show (∀ k, Oq k → O k) ∧ ¬ Oq bx ∧ ¬ Oq bm from by
    rw [hOq]
    exact ⟨fun k h => h.1, fun h => Nat.not_lt.mpr HBX.out h.2.2, fun h => HBO.out h.1⟩)
  clear hOq
  have HP1 := Aside0.mk ((fpQ _ _ _ _ _).apart HP.out (Kept.of_below HB1.out (fun _ => False)) (fun _ _ h => h))
  have HBB1 := Aside0.mk (below_step HB.out HB1.out)
  have HMP1 := Aside0.mk (HMP.out.kept (HB1.out.block bm HBM.out))
  have HBL1 := Aside0.mk (show bx < w1.heap.size ∧ bm < w1.heap.size from ⟨blk_lt HX.out, HMP1.out.lt⟩)
  go_loopw [5, 6, 7, 8, 9] (fun v5 _ _ _ _ wr => ∃ (n : Nat) (Q : Po), (1 ≤ n ∧ n ≤ p + 1) ∧ v5 = .int .i64 (n : Int) ∧ Aside0 (PQ w0.heap.size gd gl gp Q wr (fun k => Oq k ∨ w1.heap.size ≤ k)) ∧ Aside0 (Kept w1 wr Oq) ∧ Aside0 (Below w0.heap.size w0 wr) ∧ Aside0 (Rd P Q C m (n - 1))) (fun v5 _ _ _ _ _ => p - (intOf v5).toNat)
  case atStart => exact ⟨1, P, ⟨Nat.le_refl _, by omega⟩, rfl, ⟨(fpQ _ _ _ _ _).mono HP1.out (fun k hk => .inl hk)⟩, ⟨Kept.refl _ _⟩, HBB1, ⟨HI.out, Near.refl P, rfl, HF.out, fun h => ⟨rfl, h⟩⟩⟩
  case round =>
    obtain ⟨n, Q, hn, rfl, HQr, HKr, HBr, HRr⟩ := hrel
    have HN := Aside0.mk hn
    have hp3 := HPG.out
    have hxr := (HKr.out.2 bx HBL1.out.1 HOO.out.2.1).trans HX.out
    have x0 : wr.cell? ⟨bx, 0, none⟩ = some (.int .i64 p) := (blk_cell hxr 0).trans rfl
    have x1 : wr.cell? ⟨bx, 1, none⟩ = some (.map (some bm)) := (blk_cell hxr 1).trans rfl
    clear hxr
    by_cases hlt : n < p
    · have t_ : decide ((n : Int) < (p : Int)) = true := decide_eq_true (by omega)
      have e8 : wrap64 ((n : Int) + 1) = (n : Int) + 1 := wrap64_id (by omega)
      have HLT := Aside0.mk hlt
      obtain ⟨t, hlk, htt⟩ := (HMP1.out.kept (HKr.out.2 bm HBL1.out.2 HOO.out.2.2)).look (x := (n : Int)) (wf_int (by omega))
      have hrd := HRr.out.inv.read HRr.out.fine.ok (by have h1 := HRr.out.near.cnt; have h2 := HC.out; omega) (n := (n : Int)) (by rw [HRr.out.near.pages, HPP.out]; omega)
      have hc30 := pread.calls gd gl gp _ Q (m + (n - 1)) (n : Int) w0 wr HBr.out HQr.out HRr.out.fine (by have := HM.out; omega) (by omega)
      have hrf := read_fine HRr.out.fine (n : Int)
      have hrc := fun h => read_calm (P := Q) h (n : Int)
      obtain ⟨⟨s, e1, Q2⟩, hr⟩ : ∃ r, r = Q.read (n : Int) := ⟨_, rfl⟩
      rw [← hr] at hrd hc30 hrf hrc
      have HC30 := Aside0.mk hc30
      have HCASE := Aside0.mk (show (e1 = 0 ∧ C (n : Int) = some s) ∨ (e1 = 2 ∧ Q2.s.d = true) from hrd.2.2.2)
      have HR2 := Aside0.mk (show Rd P Q2 C m n from ⟨hrd.1, (HRr.out.near.trans hrd.2.1).mono (by omega) (by omega), hrd.2.2.1.trans HRr.out.turned, Po.fine.more hrf (by omega), fun h => ⟨(hrc (HRr.out.calm h).2).1.trans (HRr.out.calm h).1, (hrc (HRr.out.calm h).2).2⟩⟩)
      clear hrd hc30 hrf hrc hr hn
      cases hM : M (n : Int) with
      | none =>
        rw [hM] at hlk
        simp only [Option.isSome_none] at hlk
        clear htt hM
        go_wp2_with (go_at_call 30; (with_reducible refine HC30.out.mono ?_); rintro e w2 ⟨rfl, hq2, hb2, hk2⟩; have HQ2 := Aside0.mk hq2; have HB2 := Aside0.mk hb2; have HK2 := Aside0.mk hk2; clear hq2 hb2 hk2)
        go_roundw
        case rel => exact ⟨n + 1, Q2, ⟨by omega, by have := HLT.out; omega⟩, by go_num, ⟨(fpQ _ _ _ _ _).mono HQ2.out (fun k hk => hk.elim id (fun h => .inr (Nat.le_trans HKr.out.1 h)))⟩, ⟨HKr.out.then_ HK2.out (fun k hk => hk)⟩, HB2, HR2⟩
        case measure => first | exact meas_r HLT.out e8 | exact meas_r2 HLT.out
      | some u =>
        rw [hM] at hlk
        simp only [Option.isSome_some] at hlk
        obtain rfl := htt u hM
        have HMN := Aside0.mk hM
        clear htt hM
        rcases HCASE.out with ⟨rfl, h2⟩ | ⟨rfl, h2⟩
        · have HCS := Aside0.mk h2
          clear h2
          by_cases hst : t = s
          · subst hst
            have q_ : (t.toList == t.toList) = true := beq_self_eq_true _
            go_wp2_with (go_at_call 30; (with_reducible refine HC30.out.mono ?_); rintro e w2 ⟨rfl, hq2, hb2, hk2⟩; have HQ2 := Aside0.mk hq2; have HB2 := Aside0.mk hb2; have HK2 := Aside0.mk hk2; clear hq2 hb2 hk2)
            go_roundw
            case rel => exact ⟨n + 1, Q2, ⟨by omega, by have := HLT.out; omega⟩, by go_num, ⟨(fpQ _ _ _ _ _).mono HQ2.out (fun k hk => hk.elim id (fun h => .inr (Nat.le_trans HKr.out.1 h)))⟩, ⟨HKr.out.then_ HK2.out (fun k hk => hk)⟩, HB2, HR2⟩
            case measure => first | exact meas_r HLT.out e8 | exact meas_r2 HLT.out
          · have q_ : (s.toList == t.toList) = false := beq_eq_false_iff_ne.2 (fun e => hst (toList_bytes e).symm)
            have HST := Aside0.mk hst
            clear hst
            go_wp2_with (go_at_call 30; (with_reducible refine HC30.out.mono ?_); rintro e w2 ⟨rfl, hq2, hb2, hk2⟩; have HQ2 := Aside0.mk hq2; have HB2 := Aside0.mk hb2; have HK2 := Aside0.mk hk2; clear hq2 hb2 hk2)
            go_ret
            refine ⟨false, Q2, n, rfl, (fpQ _ _ _ _ _).mono HQ2.out (fun k hk => ?_), HB2.out, ((Kept.of_below HB1.out O).then_ (HKr.out.then_ HK2.out (fun k hk => hk)) (fun k hk => .inl (HOO.out.1 k hk))), HR2.out, by have := HLT.out; omega, fun hs => absurd (Option.some.inj ((hs _ _ HMN.out).symm.trans HCS.out)) HST.out⟩
            rcases hk with (hk | hk) | hk
            · exact .inl (HOO.out.1 k hk)
            · exact .inr (Nat.le_trans (below_size HB1.out) hk)
            · exact .inr (Nat.le_trans (below_size HB1.out) (Nat.le_trans HKr.out.1 hk))
        · have HDN := Aside0.mk h2
          clear h2
          go_wp2_with (go_at_call 30; (with_reducible refine HC30.out.mono ?_); rintro e w2 ⟨rfl, hq2, hb2, hk2⟩; have HQ2 := Aside0.mk hq2; have HB2 := Aside0.mk hb2; have HK2 := Aside0.mk hk2; clear hq2 hb2 hk2)
          go_ret
          refine ⟨false, Q2, n, rfl, (fpQ _ _ _ _ _).mono HQ2.out (fun k hk => ?_), HB2.out, ((Kept.of_below HB1.out O).then_ (HKr.out.then_ HK2.out (fun k hk => hk)) (fun k hk => .inl (HOO.out.1 k hk))), HR2.out, by have := HLT.out; omega, fun _ => .inr HDN.out⟩
          rcases hk with (hk | hk) | hk
          · exact .inl (HOO.out.1 k hk)
          · exact .inr (Nat.le_trans (below_size HB1.out) hk)
          · exact .inr (Nat.le_trans (below_size HB1.out) (Nat.le_trans HKr.out.1 hk))
    · have t_ : decide ((n : Int) < (p : Int)) = false := decide_eq_false (by omega)

      go_wp2_with (fail)
      go_ret
      refine ⟨true, Q, n - 1, rfl, (fpQ _ _ _ _ _).mono HQr.out (fun k hk => hk.imp (HOO.out.1 k) (Nat.le_trans (below_size HB1.out))), HBr.out, (Kept.of_below HB1.out O).then_ HKr.out (fun k hk => .inl (HOO.out.1 k hk)), HRr.out, by have := HN.out; omega, fun _ => .inl rfl⟩
theorem Bd.onP2 {w0 w : World} {P Q : Part} {bx : List (Nat × Obj)} {X : Type} {f : FuncId} {args : Array Value} {V : X → Value} {PP : X → Part} (h : Bd w0 w P Q bx) (hP' : ∀ x, Fr w0.heap.size (PP x)) (hQ : Fr w0.heap.size Q)
    (hc : ∀ O1, P w O1 → (∀ k, O1 k → w0.heap.size ≤ k) → (∀ x ∈ bx, ¬ O1 x.1) → Calls Try.prog f args w fun e w' => ∃ x, e = .returned (V x) ∧ PP x w' (fun k => O1 k ∨ w.heap.size ≤ k) ∧ Below w0.heap.size w0 w' ∧ Kept w w' O1) :
    Calls Try.prog f args w fun e w' => ∃ x, e = .returned (V x) ∧ Bd w0 w' (PP x) Q bx := by
  obtain ⟨O, hs, hb⟩ := h.hD
  obtain ⟨O1, O2, h1, h2, h3, h4, h5, h6, h7⟩ := hs
  refine (hc O1 h1 (fun k hk => (h6 k hk).1) (fun x hx h => (hb x hx).2 (h3 _ h))).mono ?_
  rintro e w' ⟨x, rfl, hp, hb', hk⟩
  have hlt : ∀ y ∈ bx, y.1 < w.heap.size := fun y hy => (Array.getElem?_eq_some_iff.mp (hb y hy).1).1
  refine ⟨x, rfl, hb', _, ⟨_, O2, (hP' x).narrow hp, hQ.apart h2 hk (fun k a b => h5 k b a), fun k a => a.1.imp (h3 k) id, fun k a => .inl (h4 k a), fun k a b => ?_, fun k a => a.2, fun k a => ⟨(h7 k a).1, Nat.lt_of_lt_of_le (h7 k a).2 hk.1⟩⟩, fun y hy => ⟨(hk.2 y.1 (hlt y hy) (fun ho => (hb y hy).2 (h3 _ ho))).trans (hb y hy).1, fun ho => ho.elim (hb y hy).2 (Nat.not_le.mpr (hlt y hy))⟩⟩
  rcases a.1 with a1 | a1
  · exact h5 k a1 b
  · exact Nat.not_le.mpr (h7 k b).2 a1
abbrev KQ (w0 w : World) (gd gl gp : Nat) (P : Po) (bx : List (Nat × Obj)) : Prop := Bd w0 w (PQ w0.heap.size gd gl gp P) pE bx
theorem PQ_D {w : World} {base gd gl gp : Nat} {P : Po} (O : Nat → Prop) (h : PQ base gd gl gp P w O) : pD base gd P.s w O := by
  obtain ⟨O1, O2, a, -, c, -⟩ := h
  exact (fpD _ _ _).mono (pP_D O1 a) c
section
variable {w0 w w' : World} {gd gl gp : Nat} {P Q : Po} {s s2 : St} {g : Lg} {bx : List (Nat × Obj)} {m : Nat} {C M KM : Cn}
theorem KQ.below (h : KQ w0 w gd gl gp P bx) (hb : Below w.heap.size w w') : KQ w0 w' gd gl gp P bx := Bd.below h (fpQ _ _ _ _ _) (fpE _) hb
theorem KQ.drew (h : KQ w0 w gd gl gp P bx) : KQ w0 w.drew gd gl gp P bx := KQ.below h (below_drew (Below.refl _ w))
theorem KQ.disk (h : KQ w0 w gd gl gp P bx) : KD w0 w gd P.s bx := Bd.imp h PQ_D (fun _ h => h)
theorem KQ.did {f : FuncId} {args : Array Value} {V : Value} (h : KQ w0 w gd gl gp P bx) (hc : ∀ O1, PQ w0.heap.size gd gl gp P w O1 → Calls Try.prog f args w (Did w0 w gd gl gp O1 V Q)) :
    Calls Try.prog f args w fun e w' => e = .returned V ∧ KQ w0 w' gd gl gp Q bx := by
  refine (Bd.onP (X := Unit) (V := fun _ => V) (PP := fun _ => PQ w0.heap.size gd gl gp Q) h (fun _ => fpQ _ _ _ _ _) (fpE _) (fun O1 h1 _ => (hc O1 h1).mono (fun e w' hw => ⟨(), hw⟩))).mono ?_
  rintro e w' ⟨-, rfl, hb⟩
  exact ⟨rfl, hb⟩
theorem KQ.write (h : KQ w0 w gd gl gp P bx) (hf : P.fine m) (hm : m ≤ 100000000) (n : Int) (t : ByteArray) (hn : -9223372036854775808 ≤ n ∧ n < 9223372036854775808) :
    Calls Try.prog 12 #[pv gp, .int .i64 n, .string t] w fun e w' => e = .returned (.int .i64 (P.write n t).1) ∧ KQ w0 w' gd gl gp (P.write n t).2 bx :=
  KQ.did h (fun O1 h1 => pwrite.calls gd gl gp O1 P m n t w0 w h.hB h1 hf (by omega) hn)
theorem KQ.free_ (h : KQ w0 w gd gl gp P bx) (hf : P.fine m) (hm : m ≤ 100000000) (n : Int) (hn : -9223372036854775808 ≤ n ∧ n < 9223372036854775808) :
    Calls Try.prog 14 #[pv gp, .int .i64 n] w fun e w' => e = .returned (.int .i64 (P.free_ n).1) ∧ KQ w0 w' gd gl gp (P.free_ n).2 bx :=
  KQ.did h (fun O1 h1 => pfree.calls gd gl gp O1 P m n w0 w h.hB h1 hf hm hn)
theorem KQ.alloc (h : KQ w0 w gd gl gp P bx) (hf : P.fine m) (hm : m ≤ 100000000) (hfr : -9223372036854775808 ≤ P.free ∧ P.free < 9223372036854775808) (hlt : ∀ f ∈ P.held, f.n ≠ P.pages) :
    Calls Try.prog 9 #[pv gp] w fun e w' => e = .returned (.tuple #[.int .i64 P.alloc.1, .int .i64 P.alloc.2.1]) ∧ KQ w0 w' gd gl gp P.alloc.2.2 bx :=
  KQ.did h (fun O1 h1 => palloc.calls gd gl gp O1 P m w0 w h.hB h1 hf hm hfr hlt)
theorem KQ.commit (h : KQ w0 w gd gl gp P bx) (hf : P.fine m) (hm : m ≤ 100000000) (hpg : 1 ≤ P.pages) :
    Calls Try.prog 15 #[pv gp] w fun e w' => e = .returned (.int .i64 P.commit.1) ∧ KQ w0 w' gd gl gp P.commit.2 bx :=
  KQ.did h (fun O1 h1 => pcommit.calls gd gl gp O1 P m w0 w h.hB h1 hf hm hpg)
theorem KQ.rollback (h : KQ w0 w gd gl gp P bx) (hf : P.fine m) (hm : m ≤ 100000000) (hgp : P.g.pages ≤ 100000) (hnp : ∀ f ∈ P.held, ¬ f.p > 0) :
    Calls Try.prog 16 #[pv gp] w fun e w' => e = .returned (.int .i64 P.rollback.1) ∧ KQ w0 w' gd gl gp P.rollback.2 bx :=
  KQ.did h (fun O1 h1 => prollback.calls gd gl gp O1 P m w0 w h.hB h1 hf hm hgp hnp)
theorem KQ.pages (h : KQ w0 w gd gl gp P bx) : Calls Try.prog 21 #[pv gp] w fun e w' => e = .returned (.int .i64 P.pages) ∧ w' = w := by
  obtain ⟨O, ⟨O1, O2, a, -⟩, -⟩ := h.hD
  exact ppages.calls gd gl gp O1 P w0 w a
theorem KD.popen (h : KD w0 w gd s bx) (hok : s.ok m) (hm : m ≤ 100000000) (ho : openP s = (0, s2, some g)) (hok2 : s2.ok m) (hg : g.ok) (hp : openPool s 8 = (0, Q.s, some Q)) :
    Calls Try.prog 5 #[pv gd, .int .i64 8] w fun e w' => ∃ gl gp, e = .returned (.tuple #[pv gp, .int .i64 0]) ∧ KQ w0 w' gd gl gp Q bx := by
  refine (Bd.onP (X := Nat × Nat) (V := fun x => .tuple #[pv x.2, .int .i64 0]) (PP := fun x => PQ w0.heap.size gd x.1 x.2 Q) h (fun _ => fpQ _ _ _ _ _) (fpE _) (fun O1 h1 _ => (popen.calls gd O1 s s2 g Q m w0 w h.hB h1 hok hm ho hok2 hg hp).mono (fun e w' hw => ?_))).mono ?_
  · obtain ⟨gl, gp, e1, e2, e3, e4⟩ := hw
    exact ⟨(gl, gp), e1, e2, e3, e4⟩
  · rintro e w' ⟨⟨gl, gp⟩, rfl, hb⟩
    exact ⟨gl, gp, rfl, hb⟩
theorem KQ.fail (h : KQ w0 w gd gl gp P bx) (n : Int) : Calls Try.prog 6 #[pv gd, .int .i64 n] w fun e w' => e = .returned (.tuple #[]) ∧ KQ w0 w' gd gl gp { P with s := P.s.failed n } bx := by
  refine (Bd.onP (X := Unit) (V := fun _ => .tuple #[]) (PP := fun _ => PQ w0.heap.size gd gl gp { P with s := P.s.failed n }) h (fun _ => fpQ _ _ _ _ _) (fpE _) (fun O1 h1 _ => ?_)).mono ?_
  · obtain ⟨O3, hl, o3, o4, back⟩ := Sep.left h1 (fpX _ _ _ _)
    have h1' : Log.Sep w0.heap.size (fun w O => DD w w0.heap.size gd O P.s) (LX w0.heap.size gl gd P.g) w O3 := hl
    obtain ⟨O4, a, -, -, back2⟩ := Sep.onL h1' (frD _ _ (P.s.failed n)) (frL _ _ _ _)
    refine (fail_D h.hB a n).mono ?_
    rintro e w' ⟨rfl, hd, hb, hk⟩
    obtain ⟨b1, b2⟩ := back (pP w0.heap.size gd gl (P.s.failed n) P.g) w' (fpP _ _ _ _ _) (back2 _ hd hk).1 (back2 _ hd hk).2
    obtain ⟨O7, O8, p1, ⟨g1, g2, g3, g4, g5, g6, g7, p2⟩, p3⟩ := b1
    exact ⟨(), rfl, ⟨O7, O8, p1, ⟨g1, g2, g3, g4, g5, g6, g7, PU.same p2 rfl rfl rfl⟩, p3⟩, hb, b2⟩
  · rintro e w' ⟨-, rfl, hb⟩
    exact ⟨rfl, hb⟩
theorem KQ.reads (h : KQ w0 w gd gl gp P bx) (hf : P.fine m) (hm : m ≤ 10000000) (hi : Inv P C) (hc : Pool.cnt P < 50000) {bm nm : Nat} {o : Obj} (hx : (bm, o) ∈ bx) (hmo : MapO bm o nm M) (hpg : P.pages ≤ 300) :
    Calls Try.prog 17 #[pv gp, .agg #[.int .i64 P.pages, .map (some bm)]] w fun e w' => ∃ (r : Bool) (Q : Po) (j : Nat), e = .returned (.bool r) ∧ KQ w0 w' gd gl gp Q bx ∧ Rd P Q C m j ∧ j ≤ 300 ∧ ((∀ n t, M n = some t → C n = some t) → r = true ∨ Q.s.d = true) := by
  refine (Bd.onP2 (X := { x : Bool × Po × Nat // Rd P x.2.1 C m x.2.2 ∧ x.2.2 ≤ 300 ∧ ((∀ n t, M n = some t → C n = some t) → x.1 = true ∨ x.2.1.s.d = true) }) (V := fun x => .bool x.1.1) (PP := fun x => PQ w0.heap.size gd gl gp x.1.2.1) h (fun _ => fpQ _ _ _ _ _) (fpE _) (fun O1 h1 _ hno => (preads.calls gd gl gp O1 P C M bm nm m w0 w h.hB h1 hf hm hi hc (hmo w (Bd.have h hx)) (hno _ hx) hpg).mono (fun e w' hw => ?_))).mono ?_
  · obtain ⟨r, Q, j, e1, e2, e3, e4, e5⟩ := hw
    exact ⟨⟨(r, Q, j), e5⟩, e1, e2, e3, e4⟩
  · rintro e w' ⟨⟨⟨r, Q, j⟩, hx⟩, rfl, hb⟩
    exact ⟨r, Q, j, rfl, hb, hx⟩
end
theorem Kp.fine {P : Po} {M KM : Cn} {i m : Nat} (h : Kp P M KM i) (hok : P.s.ok m) (ht : P.turned.length ≤ m) : P.fine m := by
  obtain ⟨C, F, hi, hs⟩ := h.now
  exact ⟨hok, hi.clean.good.ok, by have := hi.len; omega, ⟨by have := hi.pages; omega, by have := hi.pages; omega⟩, by rw [hi.most]; decide, ht⟩
theorem get_turned (P : Po) (n : Int) : (P.get n).2.turned = P.turned := by
  have hr : P.room.2.turned = P.turned := by
    unfold Po.room
    split
    · rfl
    · cases hu : unpin P.held with
      | none => rfl
      | some y =>
        obtain ⟨xs, f, ys⟩ := y
        simp only
        split
        · split <;> rfl
        · rfl
  unfold Po.get
  split
  · rfl
  · cases hp : pickF n P.held with
    | some y => rfl
    | none =>
      simp only
      split
      · exact hr
      · unfold Po.fetch
        split
        · exact hr
        · exact hr
theorem read_turned (P : Po) (n : Int) : (P.read n).2.2.turned = P.turned := by
  unfold Po.read
  split <;> exact get_turned P n
theorem rollback_turned {P : Po} (hnp : ∀ f ∈ P.held, ¬ f.p > 0) : P.rollback.2.turned = [] := by
  have h := read_turned P.rolled 0
  unfold Po.rollback
  rw [if_neg (by simp only [List.any_eq_true, not_exists, not_and, decide_eq_true_eq]; exact hnp)]
  simp only
  split <;> exact h
theorem flushed_turned (P : Po) (l : List Int) (h : (P.flushed l).1 = 0) : (P.flushed l).2.turned = [] := by
  unfold Po.flushed at h ⊢
  by_cases h1 : (P.flush l).1 ≠ 0
  · rw [if_pos h1] at h
    exact absurd h h1
  · rw [if_neg h1]
    split <;> rfl
theorem commit_turned {P : Po} (h : P.commit.1 = 0) : P.commit.2.turned = [] := by
  unfold Po.commit at h ⊢
  by_cases h1 : P.turned = []
  · rw [if_pos h1]; exact h1
  · rw [if_neg h1] at h ⊢
    by_cases h2 : dirtyN P.held = []
    · rw [if_pos h2] at h ⊢
      by_cases h3 : (P.get 0).1 ≠ 0
      · rw [if_pos h3] at h
        exact absurd h h3
      · rw [if_neg h3] at h ⊢
        exact flushed_turned _ _ h
    · rw [if_neg h2] at h ⊢
      exact flushed_turned _ _ h
theorem Inv.nopins {P : Po} {C : Cn} (h : Inv P C) : ∀ f ∈ P.held, ¬ f.p > 0 := fun f hf => by have := (h.held f hf).2.1; omega
theorem Inv.nofull {P : Po} {C : Cn} (h : Inv P C) : ∀ f ∈ P.held, f.n ≠ P.pages := fun f hf => by have := (h.held f hf).1; omega
theorem Bd.put {w0 w : World} {P Q : Part} {bx : List (Nat × Obj)} {b t : Nat} {cs cs' : Array Value} (h : Bd w0 w P Q ((b, .cells cs t (0, 0)) :: bx)) (hP : Fr w0.heap.size P) (hQ : Fr w0.heap.size Q) (hne : ∀ x ∈ bx, x.1 ≠ b) (hb : w0.heap.size ≤ b) (j : Nat) (v : Value) (e : cs.setIfInBounds j v = cs') :
    Bd w0 (w.setCell ⟨b, j, none⟩ v) P Q ((b, .cells cs' t (0, 0)) :: bx) := by
  obtain ⟨O, hs, hx⟩ := h.hD
  have h1 := hx _ List.mem_cons_self
  refine ⟨h.hB.setCell (p := ⟨b, j, none⟩) hb v, O, (frSep hP hQ).apart hs (S := fun k => k = b) set_kept (fun k hk e2 => h1.2 (by rw [← e2]; exact hk)), fun x hm => ?_⟩
  rcases List.mem_cons.1 hm with rfl | hm
  · exact ⟨blk_put h1.1 j v e, h1.2⟩
  · exact ⟨(Below.heap_setCell w ⟨b, j, none⟩ v x.1 (hne x hm)).trans (hx x (List.mem_cons_of_mem _ hm)).1, (hx x (List.mem_cons_of_mem _ hm)).2⟩
theorem forget_held (s : St) (g : Lg) (most : Int) : (forgetP s g most).2.held = [] ∧ (forgetP s g most).2.turned = [] := by
  unfold forgetP
  split <;> exact ⟨rfl, rfl⟩
theorem open_held {s s' : St} {Q : Po} {e : Int} (h : openPool s 8 = (e, s', some Q)) : Q.held = [] ∧ Q.turned = [] := by
  unfold openPool at h
  rw [if_neg (by decide)] at h
  cases ho : (openP s).2.2 with
  | none =>
    rw [ho] at h
    exact absurd (show (none : Option Po) = some Q from congrArg (fun x => x.2.2) h) (by simp)
  | some g =>
    rw [ho] at h
    simp only at h
    split at h
    · split at h
      · exact absurd (show (none : Option Po) = some Q from congrArg (fun x => x.2.2) h) (by simp)
      · have e1 : (forgetP _ _ 8).2 = Q := Option.some.inj (congrArg (fun x => x.2.2) h)
        rw [← e1]
        exact forget_held _ _ _
    · have e1 : (forgetP _ _ 8).2 = Q := Option.some.inj (congrArg (fun x => x.2.2) h)
      rw [← e1]
      exact forget_held _ _ _
theorem Rd.whole {P Q : Po} {C : Cn} {m j : Nat} {r : Bool} (h : Rd P Q C m j) (hh : P.held = []) (hd : P.s.d = false) (hr : r = true ∨ Q.s.d = true) : r = true := by
  rcases hr with e | e
  · exact e
  · rw [(h.calm (by rw [hh]; intro f hf; cases hf)).1, hd] at e
    cases e
end Go.Proofs.Ythaoaaboempajab.Pool
namespace Go.Proofs.Ythaoaaboempajab.QLogKept
open Go.RowKit Go.Proofs.YthaoaaboempajabW.PrintWords Go.Proofs.YthaoaaboempajabW.PrintLast Go.Proofs.YthaoaaboempajabW.PrintMore Go.Proofs.Ythaoaaboempajab.QDiskRuns Go.Proofs.Ythaoaaboempajab.Disk
attribute [local go_sem] max2_int min2_int max_two min_two max_three min_three max_four min_four   -- for this text's walks alone
set_option linter.unusedVariables false
set_option linter.unusedSimpArgs false
structure S90 where
  f0 : Int
  f1 : Int
  f2 : Int
  f3 : Int
  f4 : ByteArray
  f5 : ByteArray
def z90 : S90 := ⟨(0 : Int), (0 : Int), (0 : Int), (0 : Int), (⟨#[]⟩ : ByteArray), (⟨#[]⟩ : ByteArray)⟩
def k90 : Kd S90 := Kd.iso (Kd.pair (Kd.int .i64) (Kd.pair (Kd.int .i64) (Kd.pair (Kd.int .i64) (Kd.pair (Kd.int .i64) (Kd.pair Kd.string Kd.string))))) (fun x : S90 => (x.f0, x.f1, x.f2, x.f3, x.f4, x.f5))
theorem k90_open {w : World} {x : S90} {cs : List Value} (h : k90.K w x cs) : cs = [.int .i64 x.f0, .int .i64 x.f1, .int .i64 x.f2, .int .i64 x.f3, .string x.f4, .string x.f5] := by
  obtain ⟨_, _, rfl, rfl, ⟨_, _, rfl, rfl, ⟨_, _, rfl, rfl, ⟨_, _, rfl, rfl, ⟨_, _, rfl, rfl, rfl⟩⟩⟩⟩⟩ := h
  exact rfl
def rd_T90 (xs : List S90) (i : Int) : S90 := xs.getD i.toNat z90
theorem at_T90 {w : World} {A : Option Addr} {n : Nat} {xs : List S90} (h : Kd.C k90 w A n xs) (i : Int) (h0 : 0 ≤ i) (h1 : i < n) : ∃ ad , A = some ad ∧ w.cell? (ad.add (i.toNat * 6)) = some (.int .i64 (rd_T90 xs i).f0) ∧ w.cell? ⟨(ad.add (i.toNat * 6)).block, (ad.add (i.toNat * 6)).off + 1, none⟩ = some (.int .i64 (rd_T90 xs i).f1) ∧ w.cell? ⟨(ad.add (i.toNat * 6)).block, (ad.add (i.toNat * 6)).off + 2, none⟩ = some (.int .i64 (rd_T90 xs i).f2) ∧ w.cell? ⟨(ad.add (i.toNat * 6)).block, (ad.add (i.toNat * 6)).off + 3, none⟩ = some (.int .i64 (rd_T90 xs i).f3) ∧ w.cell? ⟨(ad.add (i.toNat * 6)).block, (ad.add (i.toNat * 6)).off + 4, none⟩ = some (.string (rd_T90 xs i).f4) ∧ w.cell? ⟨(ad.add (i.toNat * 6)).block, (ad.add (i.toNat * 6)).off + 5, none⟩ = some (.string (rd_T90 xs i).f5) := by
  obtain ⟨ad, c, e, _, hK, hc0⟩ := Kd.C_get h z90 i h0 h1
  have hc : ∀ j u, c[j]? = some u → w.cell? (ad.add (i.toNat * 6 + j)) = some u := hc0
  obtain rfl := k90_open hK
  exact ⟨ad, e, hc 0 _ rfl, by rw [← add_field _ _ 1 (by omega)]; exact hc 1 _ rfl, by rw [← add_field _ _ 2 (by omega)]; exact hc 2 _ rfl, by rw [← add_field _ _ 3 (by omega)]; exact hc 3 _ rfl, by rw [← add_field _ _ 4 (by omega)]; exact hc 4 _ rfl, by rw [← add_field _ _ 5 (by omega)]; exact hc 5 _ rfl⟩
def relstorekeep_pick.f (a0 : Int) (a1 : Int) : Option (Int) := if a0 < 0 then (if a1 = 0 then (none) else (some (Int.tmod (wrap64 (-(wrap64 (a0 + 1)))) a1))) else (if a1 = 0 then (none) else (some (Int.tmod a0 a1)))
set_option maxHeartbeats 8000000 in
set_option maxRecDepth 100000 in
theorem relstorekeep_pick.calls (a0 : Int) (a1 : Int) (r : Int) (w : World) (h : relstorekeep_pick.f a0 a1 = some r) :
    Calls Try.prog 7 #[.int .i64 a0, .int .i64 a1] w fun e w' => e = .returned (.int .i64 r) ∧ Drawn0 w w' := by
  have H : (if a0 < 0 then (if a1 = 0 then (none) else (some (Int.tmod (wrap64 (-(wrap64 (a0 + 1)))) a1))) else (if a1 = 0 then (none) else (some (Int.tmod a0 a1)))) = some r := h
  clear h
  by_cases c3 : a0 < 0
  · rw [if_pos c3] at H
    have c3b0 : decide (a0 < 0) = true := decide_eq_true c3
    clear c3
    by_cases c4 : a1 = 0
    · rw [if_pos c4] at H
      exact absurd H (by simp)
    · rw [if_neg c4] at H
      have c4b0 : (a1 == 0) = false := beq_eq_false_iff_ne.mpr c4
      have c4b1 : (a1 != 0) = true := bne_iff_ne.mpr c4
      obtain rfl := Option.some.inj H
      go_enter Try.func7, Try.ntmps7
      go_wp2
      go_ret
      exact ⟨by first | rfl | (simp; done) | (simp [*]; done) | exact bq1 _ _ | exact bq2 _ _ | exact congrArg Value.bool (bq2 _ _) | exact congrArg Value.bool (bq1 _ _) | exact congrArg Value.bool (bq1' _ _) | exact bq1' _ _ | exact congrArg Value.bool (bq2' _ _) | exact bq2' _ _, by repeat (first | exact Drawn0.refl _ | apply Drawn0.step)⟩
  · rw [if_neg c3] at H
    have c3b0 : decide (a0 < 0) = false := decide_eq_false c3
    clear c3
    by_cases c5 : a1 = 0
    · rw [if_pos c5] at H
      exact absurd H (by simp)
    · rw [if_neg c5] at H
      have c5b0 : (a1 == 0) = false := beq_eq_false_iff_ne.mpr c5
      have c5b1 : (a1 != 0) = true := bne_iff_ne.mpr c5
      obtain rfl := Option.some.inj H
      go_enter Try.func7, Try.ntmps7
      go_wp2
      go_ret
      exact ⟨by first | rfl | (simp; done) | (simp [*]; done) | exact bq1 _ _ | exact bq2 _ _ | exact congrArg Value.bool (bq2 _ _) | exact congrArg Value.bool (bq1 _ _) | exact congrArg Value.bool (bq1' _ _) | exact bq1' _ _ | exact congrArg Value.bool (bq2' _ _) | exact bq2' _ _, by repeat (first | exact Drawn0.refl _ | apply Drawn0.step)⟩
def relstorekeep_sheet.l0 : Nat → Int → List Int → Int → Int → Option (ByteArray)
  | 0, _, _, _, _ => none
  | k + 1, x0, x3, x7, x8 => if x8 < x7 then (if 0 ≤ x8 then (if x8 < (x3.length : Int) then (relstorekeep_sheet.l0 k x0 (x3.set (x8 : Int).toNat ((wrap64 (x0 * (wrap64 ((wrap64 (Int.tdiv x8 100)) + 1)))) % 256)) x7 (wrap64 (x8 + 1))) else (none)) else (none)) else (some (strOfNums x3))
def relstorekeep_sheet.f (k : Nat) (a0 : Int) : Option (ByteArray) := if 1024 ≤ 281474976710656 then ((some (List.replicate 1024 0 : List Int)).bind fun y114 => (relstorekeep_sheet.l0 k a0 y114 (y114.length : Int) 0)) else (none)
set_option maxHeartbeats 8000000 in
set_option maxRecDepth 100000 in
theorem relstorekeep_sheet.calls (k : Nat) (a0 : Int) (r : ByteArray) (w : World) (h : relstorekeep_sheet.f k a0 = some r) :
    Calls Try.prog 11 #[.int .i64 a0] w fun e w' => e = .returned (.string r) ∧ Below w.heap.size w w' := by
  have HB := Aside0.mk (Below.refl w.heap.size w)
  have H : (if 1024 ≤ 281474976710656 then ((some (List.replicate 1024 0 : List Int)).bind fun y114 => (relstorekeep_sheet.l0 k a0 y114 (y114.length : Int) 0)) else (none)) = some r := h
  clear h
  by_cases c2 : 1024 ≤ 281474976710656
  · rw [if_pos c2] at H
    have c2b0 := eq_true c2
    have c2b1 : decide (1024 ≤ 281474976710656) = true := decide_eq_true c2
    clear c2
    obtain ⟨y114, hy114⟩ : ∃ y_ : List Int, y_ = (List.replicate 1024 0) := ⟨_, rfl⟩
    replace H : (relstorekeep_sheet.l0 k a0 y114 (y114.length : Int) 0) = some r := by first | (rw [hy114]; with_reducible exact H) | (have H2_ := (Option.bind_some _ _).symm.trans H; rw [hy114]; with_reducible exact H2_) | (have H2_ := (Option.bind_some _ _).symm.trans H; with_reducible exact H2_) | with_reducible exact H | (rw [hy114]; exact H) | exact H
    have Ny114 := Aside0.mk hy114
    clear hy114
    have H' := Aside0.mk H
    clear H
    go_enter Try.func11, Try.ntmps11
    go_wp2_with (first | ((with_reducible refine gate_dst (N := 5) rfl ?_); refine Kd.R_make (Kd.int .u8) _ 5 rfl (N := 5) rfl 53 _ _ rfl 1024 rfl rfl Try.underlying53 (.int .u8 0) 1 info5 rfl (by decide) (by omega) 0 (ok := fun _ => True) (okp := fun _ => True) rfl (fun _ hk => hk) trivial (by omega) (by omega) (Below.refl _ _) (Nat.le_refl _) ?_; intro v115 w3 ho4 hb hg_ hnew_; clear hg_ hnew_; (first | rw [← Ny114.out] at ho4 | (simp only [Int.reduceToNat] at ho4; rw [← Ny114.out] at ho4)); have n0_ := Aside0.mk (Kd.R_lower ho4 (below_size (by repeat (first | (with_reducible first | exact HB.out | apply below_alloc | apply pw_below_drewN | apply below_drew1) | exact HB.out)))); have n1_ := Aside0.mk (below_step (by repeat (first | (with_reducible first | exact HB.out | apply below_alloc | apply pw_below_drewN | apply below_drew1) | exact HB.out)) hb); clear HB; have HO116 := n0_; have HB := n1_; clear n0_ n1_; clear hb ho4; obtain ⟨Ao5, co5, eo5⟩ := Kd.R_slice HO116.out; subst eo5))
    go_loopg [8] k (fun kq v8 w' => ∃ (x3_1 : List Int) (x8_1 : Int), v8 = .int .i64 x8_1 ∧ Aside0 (relstorekeep_sheet.l0 kq a0 x3_1 (y114.length : Int) x8_1 = some r) ∧ Aside0 (kq ≤ k) ∧ Aside0 (Kd.R (Kd.int .u8) 5 w' w.heap.size (fun _ => True) (.slice Ao5 y114.length co5) x3_1) ∧ Aside0 (Below w.heap.size w w'))
    case atStart => exact ⟨(y114), (0), (by first | rfl | (simp; done) | (simp [*]; done) | exact bq1 _ _ | exact bq2 _ _ | exact congrArg Value.bool (bq2 _ _) | exact congrArg Value.bool (bq1 _ _) | exact congrArg Value.bool (bq1' _ _) | exact bq1' _ _ | exact congrArg Value.bool (bq2' _ _) | exact bq2' _ _), H', ⟨Nat.le_refl _⟩, ⟨by (with_reducible repeat (first | apply Kd.R_alloc | apply Kd.R_drewN | apply Kd.R_drew)); exact HO116.out⟩, ⟨by repeat (first | (with_reducible first | exact HB.out | apply below_alloc | apply pw_below_drewN | apply below_drew1) | exact HB.out)⟩⟩
    case round =>
      clear H'
      try clear q1
      try clear c2
      try clear c2b0
      try clear c2b1
      try clear p2
      try clear q2
      obtain ⟨x3_1, x8_1, rfl, HA, HK1, HO_3, HB⟩ := hrel
      have hl3_1 := (Kd.R_reads' HO_3.out).1
      rw [hl3_1] at HO_3
      (try simp only [hl3_1])
      cases gk with
      | zero => exact absurd HA.out (by simp [relstorekeep_sheet.l0])
      | succ k1 =>
        have H := HA.out
        clear HA
        simp only [relstorekeep_sheet.l0] at H
        by_cases c6 : x8_1 < (y114.length : Int)
        · rw [if_pos c6] at H
          have c6b0 : decide (x8_1 < (y114.length : Int)) = true := decide_eq_true c6
          try (have c6b0_hl3_1 := c6b0; simp only [hl3_1] at c6b0_hl3_1)
          clear c6
          by_cases c7 : 0 ≤ x8_1
          · rw [if_pos c7] at H
            have c7b0 : decide (0 ≤ x8_1) = true := decide_eq_true c7
            clear c7
            by_cases c8 : x8_1 < (x3_1.length : Int)
            · rw [if_pos c8] at H
              have c8b0 : decide (x8_1 < (x3_1.length : Int)) = true := decide_eq_true c8
              try (have c8b0_hl3_1 := c8b0; simp only [hl3_1] at c8b0_hl3_1)
              clear c8
              obtain ⟨y117, hy117⟩ : ∃ y_ : List Int, y_ = (x3_1.set (x8_1 : Int).toNat ((wrap64 (a0 * (wrap64 ((wrap64 (Int.tdiv x8_1 100)) + 1)))) % 256)) := ⟨_, rfl⟩
              replace H : (relstorekeep_sheet.l0 k1 a0 y117 (y114.length : Int) (wrap64 (x8_1 + 1))) = some r := by first | (rw [hy117]; with_reducible exact H) | (have H2_ := (Option.bind_some _ _).symm.trans H; rw [hy117]; with_reducible exact H2_) | (have H2_ := (Option.bind_some _ _).symm.trans H; with_reducible exact H2_) | with_reducible exact H | (rw [hy117]; exact H) | exact H
              have Ny117 := Aside0.mk hy117
              clear hy117
              have H' := Aside0.mk H
              clear H
              have p9 : 0 ≤ (x8_1 : Int) := of_decide_eq_true (by first | (with_reducible assumption) | assumption)
              have q9 : (x8_1 : Int) < ((x3_1.length : Int) : Int) := of_decide_eq_true (by first | (with_reducible assumption) | assumption)
              obtain ⟨go9, co9, eo9, gb9, gl9, cl9, HG9⟩ := Kd.R_form HO_3.out (by omega)
              (first | cases eo9 | (injection eo9 with ea_ en_ ec_; (first | subst ea_ | (injection ea_ with ea_; subst ea_)); subst ec_; clear en_))
              have GB9 := Aside0.mk gb9
              have GG9 := Aside0.mk HG9
              clear gb9 gl9 HG9
              obtain ⟨hx9_0, hf9_0⟩ := Kd.R_celln 0 HO_3.out (x8_1 : Int) p9 q9
              replace p9 := eq_true p9
              replace q9 := eq_true q9
              have HP10 := Kd.R_putg HO_3.out (x8_1 : Int) ((wrap64 (a0 * (wrap64 ((wrap64 (Int.tdiv x8_1 100)) + 1)))) % 256)
              go_wp2_with (first | ((with_reducible refine gate_store (t := 5) (p := 19) rfl ?_); refine store_event (t := 5) (p := 19) (v := ?vo_w11) (w1 := (wr.setCell ⟨go9, (x8_1 : Int).toNat, none⟩ (.int .u8 ((wrap64 (a0 * (wrap64 ((wrap64 (Int.tdiv x8_1 100)) + 1)))) % 256)))) ?hg ?ho ?hn ?hr ?_; (case ho => rfl); (case hg => rfl); (case hn => rfl); (case hr => first | (go_simp; done) | (go_simp; rfl)); intro w11 hw; have hg : wr.grownBy w11 (some go9) := (by rw [hw]; exact HP10.2); have hp_ : Kd.R (Kd.int .u8) 5 w11 w.heap.size (fun _ => True) (.slice (some ⟨go9, 0, none⟩) x3_1.length co5) y117 := (by rw [hw, Ny117.out]; exact HP10.1); clear HP10; have n0_ := Aside0.mk (hp_); have n1_ := Aside0.mk ((by rw [hw]; exact below_set (HB.out) GB9.out : Below w.heap.size w w11)); clear HO_3; clear HB; have HO_3 := n0_; have HB := n1_; clear n0_ n1_; clear hg hw hp_))
              (try simp only [← hl3_1])
              go_roundg k1
              case measure => have := HK1.out; omega
              case rel => exact ⟨(y117), (wrap64 (x8_1 + 1)), (by first | rfl | (simp; done) | (simp [*]; done) | exact bq1 _ _ | exact bq2 _ _ | exact congrArg Value.bool (bq2 _ _) | exact congrArg Value.bool (bq1 _ _) | exact congrArg Value.bool (bq1' _ _) | exact bq1' _ _ | exact congrArg Value.bool (bq2' _ _) | exact bq2' _ _), H', ⟨by have := HK1.out; omega⟩, ⟨by (try simp only [hl3_1]); (with_reducible repeat (first | apply Kd.R_alloc | apply Kd.R_drewN | apply Kd.R_drew)); exact HO_3.out⟩, ⟨by repeat (first | (with_reducible first | exact HB.out | apply below_alloc | apply pw_below_drewN | apply below_drew1) | exact HB.out)⟩⟩
            · rw [if_neg c8] at H
              exact absurd H (by simp)
          · rw [if_neg c7] at H
            exact absurd H (by simp)
        · rw [if_neg c6] at H
          have c6b0 : decide (x8_1 < (y114.length : Int)) = false := decide_eq_false c6
          try (have c6b0_hl3_1 := c6b0; simp only [hl3_1] at c6b0_hl3_1)
          clear c6
          obtain rfl := Option.some.inj H
          have hcv12 := own_string (P := Try.prog) Try.underlying53 Try.underlying5 Try.underlying9 (Kd.own_of_R HO_3.out)
          go_wp2
          go_ret
          exact ⟨by first | rfl | (simp [errW_none, errW_some] <;> rfl) | (simp [*, errW_none, errW_some] <;> rfl), by repeat (first | (with_reducible first | exact HB.out | apply below_alloc | apply pw_below_drewN | apply below_drew1) | exact HB.out)⟩
  · rw [if_neg c2] at H
    exact absurd H (by simp)
theorem short.calls (A : Option Addr) (n c : Nat) (w : World) (hn : n ≤ 4611686018427387904) (hc : n ≤ c) :
    Calls Try.prog 8 #[.slice A n c] w fun e w' => e = .returned (.slice A (min n 250) c) ∧ w' = w := by
  obtain ⟨i90, hi90⟩ : ∃ i, Try.prog.info? 37 = some i := Option.isSome_iff_exists.1 (by kernel_rfl)
  by_cases h : 250 < n
  · have l_ : (250 : Int) < (n : Int) := by omega
    have sl_ := cut_to (P := Try.prog) 22 37 .i64 Try.underlying22 hi90 A n c 250 (by omega) (by omega) hc
    have HM := Aside0.mk (show min n 250 = 250 by omega)
    clear hi90
    go_enter Try.func8, Try.ntmps8
    go_wp2_with (fail)
    all_goals
      go_ret
      exact ⟨by rw [HM.out]; rfl, rfl⟩
  · have l_ : ¬ (250 : Int) < (n : Int) := by omega
    have sl_ := cut_to (P := Try.prog) 22 37 .i64 Try.underlying22 hi90 A n c (n : Int) (by omega) (by omega) hc
    rw [Int.toNat_natCast] at sl_
    have HM := Aside0.mk (show min n 250 = n by omega)
    clear hi90
    go_enter Try.func8, Try.ntmps8
    go_wp2_with (fail)
    all_goals
      go_ret
      exact ⟨by rw [HM.out]; rfl, rfl⟩
theorem pick_ex (a n : Int) (ha : -9223372036854775808 ≤ a ∧ a < 9223372036854775808) (hn : 0 < n) : ∃ r, relstorekeep_pick.f a n = some r ∧ 0 ≤ r ∧ r < n := by
  unfold relstorekeep_pick.f
  by_cases h : a < 0
  · rw [if_pos h, if_neg (by omega)]
    have e1 : wrap64 (a + 1) = a + 1 := by unfold wrap64; omega
    have e2 : wrap64 (-(a + 1)) = -(a + 1) := by unfold wrap64; omega
    rw [e1, e2]
    exact ⟨_, rfl, Int.tmod_nonneg _ (by omega), Int.tmod_lt_of_pos _ hn⟩
  · rw [if_neg h, if_neg (by omega)]
    exact ⟨_, rfl, Int.tmod_nonneg _ (by omega), Int.tmod_lt_of_pos _ hn⟩
theorem picked (a n : Int) (w : World) (ha : -9223372036854775808 ≤ a ∧ a < 9223372036854775808) (hn : 0 < n) :
    Calls Try.prog 7 #[.int .i64 a, .int .i64 n] w fun e w' => ∃ r : Int, e = .returned (.int .i64 r) ∧ (0 ≤ r ∧ r < n) ∧ Drawn0 w w' := by
  obtain ⟨r, h, hr⟩ := pick_ex a n ha hn
  refine (relstorekeep_pick.calls a n r w h).mono ?_
  rintro e w' ⟨rfl, hd⟩
  exact ⟨r, rfl, hr, hd⟩
theorem sheet_l0 (a : Int) : ∀ (d j : Nat) (xs : List Int), j + d = 1024 → xs.length = 1024 → ∀ k, d < k → ∃ r, relstorekeep_sheet.l0 k a xs 1024 (j : Int) = some r ∧ r.size = 1024
  | 0, j, xs, h, hx, k, hk => by
    obtain ⟨k, rfl⟩ : ∃ n, k = n + 1 := ⟨k - 1, by omega⟩
    unfold relstorekeep_sheet.l0
    rw [if_neg (by omega)]
    exact ⟨_, rfl, by simp [strOfNums, ByteArray.size, hx]⟩
  | d + 1, j, xs, h, hx, k, hk => by
    obtain ⟨k, rfl⟩ : ∃ n, k = n + 1 := ⟨k - 1, by omega⟩
    unfold relstorekeep_sheet.l0
    rw [if_pos (by omega), if_pos (by omega), if_pos (by omega), show wrap64 ((j : Int) + 1) = ((j + 1 : Nat) : Int) by unfold wrap64; omega]
    exact sheet_l0 a d (j + 1) _ (by omega) (by rw [List.length_set, hx]) k (by omega)
theorem sheet_ex (a : Int) : ∃ r, relstorekeep_sheet.f 1025 a = some r ∧ r.size = 1024 := by
  unfold relstorekeep_sheet.f
  rw [if_pos (by decide), Option.bind_some, List.length_replicate]
  exact sheet_l0 a 1024 0 _ rfl (by rw [List.length_replicate]) 1025 (by decide)
end Go.Proofs.Ythaoaaboempajab.QLogKept
namespace Go.Proofs.Ythaoaaboempajab.Pool
open Go.RowKit Go.Maps Go.Proofs.Ythaoaaboempajab.QLogRuns Go.Proofs.Ythaoaaboempajab.QDiskRuns Go.Proofs.Ythaoaaboempajab.Disk Go.Proofs.Ythaoaaboempajab.Log Go.Proofs.YthaoaaboempajabW.PrintWords Go.Proofs.YthaoaaboempajabW.PrintLast Go.Proofs.YthaoaaboempajabW.PrintMore
set_option linter.unusedVariables false
set_option linter.unusedSimpArgs false
structure Op2 (s : St) (p : Int) (KM : Cn) (g : Lg) (Q : Po) : Prop where
  log : openP s = (0, s, some g)
  ok : g.ok
  pool : openPool s 8 = (0, Q.s, some Q)
  s : Q.s = s
  inv : ∃ C F, Inv Q C ∧ Sh C Q.pages Q.free F KM
  cnt : Pool.cnt Q < 5000
  pages : Q.pages = p
  held : Q.held = [] ∧ Q.turned = []
theorem FinK.op2 {s : St} {p : Int} {KM : Cn} {m : Nat} (h : FinK s p KM) (hok : s.ok m) : ∃ g Q, Op2 s p KM g Q := by
  obtain ⟨fr, free, F, hf, -⟩ := h.ex
  obtain ⟨sl, nu, ho, -⟩ := hf.opens
  have hg := hf.good hok ho
  obtain ⟨Q, C, F2, h1, h2, h3, h4, h5, h6⟩ := h.opens hok
  have hh := open_held h1
  exact ⟨_, Q, ho, hg.ok, by rw [h2]; exact h1, h2, ⟨C, F2, h3, h6⟩, h4, h5, hh⟩
theorem tailK {s : St} {p : Int} {KM : Cn} {m : Nat} (h : FinK s p KM) (hok : s.ok m) (r : Int) (hr : r < 9223372036854775808) (keep : List Int) :
    ∃ g1 Q1 g2 Q2, Op2 (s.failed r) p KM g1 Q1 ∧ Op2 (nx4 ((s.failed r).crashed keep).s0 ((s.failed r).crashed keep).s1) p KM g2 Q2 ∧ (nx4 ((s.failed r).crashed keep).s0 ((s.failed r).crashed keep).s1).d = false := by
  have h2 := h.failed r
  have hok2 := hok.failed (n := r) hr
  obtain ⟨g1, Q1, o1⟩ := h2.op2 hok2
  have h3 := h2.crashed keep
  have hok3 := hok2.crashed (keep := keep)
  have h4 : FinK (nx4 ((s.failed r).crashed keep).s0 ((s.failed r).crashed keep).s1) p KM := h3.moved rfl rfl rfl
  obtain ⟨g2, Q2, o2⟩ := h4.op2 (nx4_ok hok3.s0 hok3.s1)
  exact ⟨g1, Q1, g2, Q2, o1, o2, h4.d⟩
end Go.Proofs.Ythaoaaboempajab.Pool
