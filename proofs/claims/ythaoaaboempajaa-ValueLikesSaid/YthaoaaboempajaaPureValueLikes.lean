/- The law ValueLikes (patterns, one behind the other): for every four texts it answers true; no conditions. -/
import Derived.Test.YthaoaaboempajaaQValueLikesx2
import Derived.Test.YthaoaaboempajaaGlob
import Derived.Lib.Bytes
import Derived.Lib.IndexBytes
namespace Go.Proofs.Ythaoaaboempajaa.Pure
open Go.RowKit Go.Proofs.Ythaoaaboempajaa.QValueLikes Go.Proofs.YthaoaaboempajaaW.PrintWords Go.Proofs.YthaoaaboempajaaW.PrintLast
open Go.Proofs.YthaoaaboempajaaGlob
set_option linter.unusedVariables false

theorem bt_in {s : ByteArray} {X Y : List UInt8} {x : UInt8} (h : s.data.toList = X ++ x :: Y) : bt s (X.length : Int) = (x.toNat : Int) := by
  have hs : s.size = X.length + (Y.length + 1) := by
    have := congrArg List.length h
    simpa using this
  unfold bt
  have hlt : ((X.length : Int)).toNat < s.size := by simp; omega
  rw [dif_pos hlt]
  have : s[((X.length : Int)).toNat]'hlt = x := by
    show s.data[((X.length : Int)).toNat]'hlt = x
    have e : s.data[((X.length : Int)).toNat]'hlt = s.data.toList[X.length]'(by rw [h]; simp) := by simp
    rw [e]
    simp [h]
  rw [this]
theorem size_in {s : ByteArray} {X : List UInt8} (h : s.data.toList = X) : s.size = X.length := by
  have := congrArg List.length h
  simpa using this
theorem w64 {i : Int} (h0 : 0 ≤ i) (h : i ≤ 4611686018427387904) : wrap64 (i + 1) = i + 1 := by unfold wrap64; omega
theorem u8_37 (x : UInt8) : ((x.toNat : Int) = 37) ↔ x = 37 := by
  constructor
  · intro h; apply UInt8.toNat_inj.1; show x.toNat = 37; omega
  · rintro rfl; rfl
theorem u8_95 (x : UInt8) : ((x.toNat : Int) = 95) ↔ x = 95 := by
  constructor
  · intro h; apply UInt8.toNat_inj.1; show x.toNat = 95; omega
  · rintro rfl; rfl
theorem u8_eq (x y : UInt8) : ((x.toNat : Int) = (y.toNat : Int)) ↔ x = y := by
  constructor
  · intro h; exact UInt8.toNat_inj.1 (by omega)
  · rintro rfl; rfl
theorem beq_dec {a b : Int} {p : Prop} [Decidable p] (h : a = b ↔ p) : (a == b) = decide p := by
  by_cases hp : p
  · rw [decide_eq_true hp]; exact beq_iff_eq.2 (h.2 hp)
  · rw [decide_eq_false hp]; exact beq_eq_false_iff_ne.2 (fun e => hp (h.1 e))

theorem like_l1 (p : ByteArray) (hp : p.size ≤ 4611686018427387904) : ∀ (R Q : List UInt8), p.data.toList = Q ++ R → ∃ n r, value_like.l1 n p (Q.length : Int) = some r ∧ (r = true ↔ G R [])
  | [], Q, h => by
    have hs := size_in h
    simp at hs
    refine ⟨1, true, ?_, by simp [G]⟩
    simp only [value_like.l1]
    rw [if_neg (by omega), hs]
    simp
  | c :: R, Q, h => by
    have hs := size_in h
    simp at hs
    by_cases hc : c = 37
    · subst hc
      obtain ⟨n, r, hr, hg⟩ := like_l1 p hp R (Q ++ [37]) (by simp [h])
      refine ⟨n + 1, r, ?_, ?_⟩
      · simp only [value_like.l1]
        rw [if_pos (by omega), if_pos (by omega), bt_in h, if_pos (by decide), w64 (by omega) (by omega)]
        simpa using hr
      · rw [hg, G_nil_right, G_nil_right]; simp
    · refine ⟨1, false, ?_, ?_⟩
      · simp only [value_like.l1]
        rw [if_pos (by omega), if_pos (by omega), bt_in h, if_neg (by rw [u8_37]; exact hc)]
        have : ((Q.length : Int) == (p.size : Int)) = false := beq_eq_false_iff_ne.2 (by omega)
        rw [this]
      · rw [G_nil_right]; simp [hc]

/-- One round: what the next byte and the pattern say. -/
theorem like_eat (s p : ByteArray) (hs : s.size ≤ 4611686018427387904) (hp : p.size ≤ 4611686018427387904) {X Y Q R : List UInt8} {x c : UInt8} (h1 : s.data.toList = X ++ x :: Y) (h2 : p.data.toList = Q ++ c :: R)
    (hc : c ≠ 37) (hx : c = 95 ∨ c = x) (st fr : Int) (n : Nat) : value_like.l0 (n + 3) s p (X.length : Int) (Q.length : Int) st fr = value_like.l0 n s p ((X ++ [x]).length : Int) ((Q ++ [c]).length : Int) st fr := by
  have z1 := size_in h1
  have z2 := size_in h2
  simp at z1 z2
  rw [show value_like.l0 (n + 3) = value_like.l0 (n + 2 + 1) from rfl]
  simp only [value_like.l0]
  rw [if_pos (by omega), if_pos (by omega), if_pos (by omega), bt_in h2, beq_dec (u8_37 c), decide_eq_false hc]
  rw [show n + 2 = n + 1 + 1 from rfl]
  simp only [value_like.j1]
  rw [if_neg (by decide), if_pos (by omega), if_pos (by omega), bt_in h2, bt_in h1]
  have key : ∀ b, b = true → value_like.j2 (n + 1) s p (X.length : Int) (Q.length : Int) st fr b = value_like.l0 n s p ((X ++ [x]).length : Int) ((Q ++ [c]).length : Int) st fr := by
    rintro b rfl
    simp only [value_like.j2]
    rw [if_pos trivial, w64 (by omega) (by omega), w64 (by omega) (by omega)]
    simp
  by_cases h95 : c = 95
  · rw [if_pos (by rw [u8_95]; exact h95)]
    exact key _ rfl
  · rw [if_neg (by rw [u8_95]; exact h95), if_pos (by omega), if_pos (by omega)]
    refine key _ ?_
    rw [beq_dec (u8_eq c x)]
    rcases hx with hx | hx
    · exact absurd hx h95
    · exact decide_eq_true hx
theorem like_star (s p : ByteArray) (hs : s.size ≤ 4611686018427387904) (hp : p.size ≤ 4611686018427387904) {X Y Q R : List UInt8} {x : UInt8} (h1 : s.data.toList = X ++ x :: Y) (h2 : p.data.toList = Q ++ 37 :: R)
    (st fr : Int) (n : Nat) : value_like.l0 (n + 2) s p (X.length : Int) (Q.length : Int) st fr = value_like.l0 n s p (X.length : Int) ((Q ++ [37]).length : Int) (Q.length : Int) (X.length : Int) := by
  have z1 := size_in h1
  have z2 := size_in h2
  simp at z1 z2
  rw [show n + 2 = n + 1 + 1 from rfl]
  simp only [value_like.l0]
  rw [if_pos (by omega), if_pos (by omega), if_pos (by omega), bt_in h2]
  have : (((37 : UInt8).toNat : Int) == 37) = true := rfl
  rw [this]
  simp only [value_like.j1]
  rw [if_pos trivial, w64 (by omega) (by omega)]
  simp
theorem like_miss (s p : ByteArray) (hs : s.size ≤ 4611686018427387904) (hp : p.size ≤ 4611686018427387904) {X Y Q R : List UInt8} {x : UInt8} (h1 : s.data.toList = X ++ x :: Y) (h2 : p.data.toList = Q ++ R)
    (hR : R = [] ∨ ∃ c q, R = c :: q ∧ c ≠ 37 ∧ c ≠ 95 ∧ c ≠ x) (st fr : Int) (n : Nat) :
    value_like.l0 (n + 3) s p (X.length : Int) (Q.length : Int) st fr = if st ≥ 0 then value_like.l0 n s p (wrap64 (fr + 1)) (wrap64 (st + 1)) st (wrap64 (fr + 1)) else some false := by
  have z1 := size_in h1
  have z2 := size_in h2
  simp at z1 z2
  rw [show value_like.l0 (n + 3) = value_like.l0 (n + 2 + 1) from rfl]
  simp only [value_like.l0]
  rw [if_pos (by omega)]
  have key : ∀ b, b = false → value_like.j2 (n + 1) s p (X.length : Int) (Q.length : Int) st fr b = if st ≥ 0 then value_like.l0 n s p (wrap64 (fr + 1)) (wrap64 (st + 1)) st (wrap64 (fr + 1)) else some false := by
    rintro b rfl
    simp only [value_like.j2]
    rw [if_neg (by decide)]
  rcases hR with rfl | ⟨c, q, rfl, hc, h95, hx⟩
  · simp at z2
    rw [if_neg (by omega)]
    rw [show n + 2 = n + 1 + 1 from rfl]
    simp only [value_like.j1]
    rw [if_neg (by decide), if_neg (by omega)]
    exact key _ rfl
  · simp at z2
    rw [if_pos (by omega), if_pos (by omega), bt_in h2, beq_dec (u8_37 c), decide_eq_false hc]
    rw [show n + 2 = n + 1 + 1 from rfl]
    simp only [value_like.j1]
    rw [if_neg (by decide), if_pos (by omega), if_pos (by omega), bt_in h2, bt_in h1, if_neg (by rw [u8_95]; exact h95), if_pos (by omega), if_pos (by omega)]
    refine key _ ?_
    rw [beq_dec (u8_eq c x)]
    exact decide_eq_false hx
theorem like_out (s p : ByteArray) {X Q : List UInt8} (h1 : s.data.toList = X) (st fr : Int) (n : Nat) : value_like.l0 (n + 1) s p (X.length : Int) (Q.length : Int) st fr = value_like.l1 n p (Q.length : Int) := by
  have z1 := size_in h1
  simp only [value_like.l0]
  rw [if_neg (by omega)]
/-- Behind the first 37. -/
theorem like_B (s p : ByteArray) (hs : s.size ≤ 4611686018427387904) (hp : p.size ≤ 4611686018427387904) : ∀ (m m2 : Nat) (P0 S0 U R A T : List UInt8), (A ++ T).length = m → T.length + R.length = m2 →
    p.data.toList = P0 ++ 37 :: (U ++ R) → s.data.toList = S0 ++ (A ++ T) → Seg U A →
    ∃ n r, value_like.l0 n s p ((S0 ++ A).length : Int) ((P0 ++ 37 :: U).length : Int) (P0.length : Int) (S0.length : Int) = some r ∧ (r = true ↔ G (37 :: (U ++ R)) (A ++ T)) := by
  intro m
  induction m using Nat.strongRecOn with
  | _ m ihm =>
  intro m2
  induction m2 using Nat.strongRecOn with
  | _ m2 ih2 =>
  intro P0 S0 U R A T hm hm2 h2 h1 hseg
  cases T with
  | nil =>
    obtain ⟨n, r, hr, hg⟩ := like_l1 p hp R (P0 ++ 37 :: U) (by rw [h2]; simp)
    refine ⟨n + 1, r, ?_, ?_⟩
    · rw [like_out s p (X := S0 ++ A) (by rw [h1]; simp)]
      exact hr
    · rw [hg, List.append_nil, G_end R hseg]
  | cons x T =>
    have e1 : s.data.toList = (S0 ++ A) ++ x :: T := by rw [h1]; simp
    have e2 : p.data.toList = (P0 ++ 37 :: U) ++ R := by rw [h2]; simp
    have miss : (R = [] ∨ ∃ c q, R = c :: q ∧ c ≠ 37 ∧ c ≠ 95 ∧ c ≠ x) → ∃ n r, value_like.l0 n s p ((S0 ++ A).length : Int) ((P0 ++ 37 :: U).length : Int) (P0.length : Int) (S0.length : Int) = some r ∧ (r = true ↔ G (37 :: (U ++ R)) (A ++ x :: T)) := by
      intro hR
      obtain ⟨y, Z, hy⟩ : ∃ y Z, A ++ x :: T = y :: Z := by cases A <;> simp
      have hno := G_not R x T hseg hR
      have hZ : Z.length < m := by rw [← hm, hy]; simp
      obtain ⟨n, r, hr, hg⟩ := ihm Z.length hZ (Z.length + (U ++ R).length) P0 (S0 ++ [y]) [] (U ++ R) [] Z rfl rfl (by rw [h2]; rfl) (by rw [h1, hy]; simp) trivial
      have z1 := size_in h1
      have z2 := size_in h2
      simp at z1 z2
      refine ⟨n + 3, r, ?_, ?_⟩
      · rw [like_miss s p hs hp e1 e2 hR, if_pos (by omega), w64 (by omega) (by omega), w64 (by omega) (by omega)]
        simpa using hr
      · rw [hg, hy]
        rw [hy] at hno
        exact (G_skip hno).symm
    cases R with
    | nil => exact miss (.inl rfl)
    | cons c R =>
      by_cases hc : c = 37
      · subst hc
        have hlen : (x :: T).length ≤ m := by rw [← hm]; simp
        rcases Nat.lt_or_ge (x :: T).length m with hlt | hge
        · obtain ⟨n, r, hr, hg⟩ := ihm (x :: T).length hlt ((x :: T).length + R.length) (P0 ++ 37 :: U) (S0 ++ A) [] R [] (x :: T) rfl rfl (by rw [h2]; simp) (by rw [h1]; simp) trivial
          refine ⟨n + 2, r, ?_, ?_⟩
          · rw [like_star s p hs hp e1 e2]
            simpa using hr
          · rw [hg, G_next R (x :: T) hseg]; rfl
        · have hA : A = [] := by
            have : A.length = 0 := by rw [← hm, List.length_append] at hge; omega
            exact List.eq_nil_of_length_eq_zero this
          obtain ⟨n, r, hr, hg⟩ := ih2 ((x :: T).length + R.length) (by rw [← hm2]; simp) (P0 ++ 37 :: U) (S0 ++ A) [] R [] (x :: T) (by rw [← hm, hA]) rfl (by rw [h2]; simp) (by rw [h1]; simp) trivial
          refine ⟨n + 2, r, ?_, ?_⟩
          · rw [like_star s p hs hp e1 e2]
            simpa using hr
          · rw [hg, G_next R (x :: T) hseg]; rfl
      · by_cases hx : c = 95 ∨ c = x
        · obtain ⟨n, r, hr, hg⟩ := ih2 (T.length + R.length) (by rw [← hm2]; simp; omega) P0 S0 (U ++ [c]) R (A ++ [x]) T (by rw [← hm]; simp) rfl (by rw [h2]; simp) (by rw [h1]; simp) (Seg_snoc hseg hc hx)
          refine ⟨n + 3, r, ?_, ?_⟩
          · rw [like_eat s p hs hp e1 e2 hc hx]
            simpa using hr
          · rw [hg]; simp
        · exact miss (.inr ⟨c, R, rfl, hc, fun e => hx (.inl e), fun e => hx (.inr e)⟩)
/-- Ahead of the first 37. -/
theorem like_A (s p : ByteArray) (hs : s.size ≤ 4611686018427387904) (hp : p.size ≤ 4611686018427387904) : ∀ (T R S0 P0 : List UInt8), p.data.toList = P0 ++ R → s.data.toList = S0 ++ T →
    ∃ n r, value_like.l0 n s p (S0.length : Int) (P0.length : Int) (-1) 0 = some r ∧ (r = true ↔ G R T)
  | [], R, S0, P0, h2, h1 => by
    obtain ⟨n, r, hr, hg⟩ := like_l1 p hp R P0 h2
    exact ⟨n + 1, r, by rw [like_out s p (X := S0) (by rw [h1]; simp)]; exact hr, hg⟩
  | x :: T, [], S0, P0, h2, h1 => ⟨3, false, by rw [like_miss s p hs hp h1 h2 (.inl rfl) (-1) 0 0]; rfl, by simp [G]⟩
  | x :: T, c :: R, S0, P0, h2, h1 => by
    by_cases hc : c = 37
    · subst hc
      obtain ⟨n, r, hr, hg⟩ := like_B s p hs hp _ _ P0 S0 [] R [] (x :: T) rfl rfl h2 h1 trivial
      refine ⟨n + 2, r, ?_, hg⟩
      rw [like_star s p hs hp h1 h2]
      simpa using hr
    · by_cases hx : c = 95 ∨ c = x
      · obtain ⟨n, r, hr, hg⟩ := like_A s p hs hp T R (S0 ++ [x]) (P0 ++ [c]) (by rw [h2]; simp) (by rw [h1]; simp)
        refine ⟨n + 3, r, ?_, ?_⟩
        · rw [like_eat s p hs hp h1 h2 hc hx]
          exact hr
        · rw [hg, G_one hc]
          constructor
          · exact fun k => ⟨x, T, rfl, hx, k⟩
          · rintro ⟨y, z, e, _, k⟩
            simp at e
            exact e.2 ▸ k
      · have hR : c :: R = [] ∨ ∃ d q, c :: R = d :: q ∧ d ≠ 37 ∧ d ≠ 95 ∧ d ≠ x := .inr ⟨c, R, rfl, hc, fun e => hx (.inl e), fun e => hx (.inr e)⟩
        refine ⟨3, false, by rw [like_miss s p hs hp h1 h2 hR (-1) 0 0]; rfl, ?_⟩
        have := G_not (u := []) (a := []) (c :: R) x T trivial hR
        simpa using this
theorem like_is (s p : ByteArray) (hs : s.size ≤ 4611686018427387904) (hp : p.size ≤ 4611686018427387904) : ∃ r, Ev (fun k => value_like.f k s p) r ∧ (r = true ↔ G p.data.toList s.data.toList) := by
  obtain ⟨n, r, hr, hg⟩ := like_A s p hs hp s.data.toList p.data.toList [] [] rfl rfl
  exact ⟨r, Ev.of (g := fun k => value_like.f k s p) (fun k => value_like.mono s p k) (k := n) hr, hg⟩

theorem Like_is (s p : ByteArray) (hs : s.size ≤ 4611686018427387904) (hp : p.size ≤ 4611686018427387904) : ∃ r, Ev (fun k => value_Like.f k 3 0 s 3 0 p) (1, if r = true then 1 else 0, ⟨#[]⟩) ∧ (r = true ↔ G p.data.toList s.data.toList) := by
  obtain ⟨r, hr, hg⟩ := like_is s p hs hp
  refine ⟨r, ?_, hg⟩
  refine Ev.step (f := fun k => (value_like.f k s p).bind fun t109 => ((value_Flag.f t109).bind fun bt110 => (some (bt110.1, bt110.2.1, bt110.2.2)))) (fun k => ?_) ?_
  · simp [value_Like.f, value_Like.j0]
  · refine Ev.bind hr ?_
    refine Ev.congr (f := fun _ => some (1, if r = true then 1 else 0, ⟨#[]⟩)) (fun k => ?_) (Ev.now _)
    cases r <;> rfl
theorem fits_is (s p : ByteArray) (hs : s.size ≤ 4611686018427387904) (hp : p.size ≤ 4611686018427387904) : ∃ r, Ev (fun k => relstorekeep_fits.f k s p) r ∧ (r = true ↔ G p.data.toList s.data.toList) := by
  obtain ⟨r, hr, hg⟩ := Like_is s p hs hp
  refine ⟨r, ?_, hg⟩
  refine Ev.bind hr ?_
  refine Ev.congr (f := fun _ => some r) (fun k => ?_) (Ev.now _)
  cases r <;> rfl
theorem marked_l0 (p : ByteArray) (hp : p.size ≤ 4611686018427387904) : ∀ (R Q : List UInt8), p.data.toList = Q ++ R → ∃ n r, relstorekeep_marked.l0 n p (Q.length : Int) = some r ∧ (r = false ↔ ∀ c ∈ R, c ≠ 37 ∧ c ≠ 95)
  | [], Q, h => by
    have hs := size_in h
    simp at hs
    refine ⟨1, false, ?_, by simp⟩
    simp only [relstorekeep_marked.l0]
    rw [if_neg (by omega)]
  | c :: R, Q, h => by
    have hs := size_in h
    simp at hs
    by_cases hc : c = 37
    · refine ⟨1, true, ?_, by simp [hc]⟩
      simp only [relstorekeep_marked.l0]
      rw [if_pos (by omega), if_pos (by omega), bt_in h, if_pos (by rw [u8_37]; exact hc)]
    · by_cases h95 : c = 95
      · refine ⟨1, true, ?_, by simp [h95]⟩
        simp only [relstorekeep_marked.l0]
        rw [if_pos (by omega), if_pos (by omega), bt_in h, if_neg (by rw [u8_37]; exact hc), if_pos (by rw [u8_95]; exact h95)]
      · obtain ⟨n, r, hr, hg⟩ := marked_l0 p hp R (Q ++ [c]) (by simp [h])
        refine ⟨n + 1, r, ?_, ?_⟩
        · simp only [relstorekeep_marked.l0]
          rw [if_pos (by omega), if_pos (by omega), bt_in h, if_neg (by rw [u8_37]; exact hc), if_neg (by rw [u8_95]; exact h95), w64 (by omega) (by omega)]
          simpa using hr
        · rw [hg]; simp [hc, h95]
theorem marked_is (p : ByteArray) (hp : p.size ≤ 4611686018427387904) : ∃ r, Ev (fun k => relstorekeep_marked.f k p) r ∧ (r = false ↔ ∀ c ∈ p.data.toList, c ≠ 37 ∧ c ≠ 95) := by
  obtain ⟨n, r, hr, hg⟩ := marked_l0 p hp p.data.toList [] rfl
  exact ⟨r, Ev.of (g := fun k => relstorekeep_marked.f k p) (fun k => relstorekeep_marked.mono p k) (k := n) hr, hg⟩
open Classical in
theorem starts_is (a p : ByteArray) : relstorekeep_starts.f a p = some (decide (∃ t, a.data.toList = p.data.toList ++ t)) := by
  unfold relstorekeep_starts.f
  have za : a.size = a.data.toList.length := by simp
  have zp : p.size = p.data.toList.length := by simp
  by_cases h : (a.size : Int) ≥ (p.size : Int)
  · rw [if_pos h, if_pos (by omega), if_pos (by omega)]
    congr 1
    rw [Lib.toList_data, Lib.toList_data, Int.toNat_natCast]
    have e : (a.extract 0 p.size).data.toList = a.data.toList.take p.size := by simp
    rw [e]
    by_cases hp : ∃ t, a.data.toList = p.data.toList ++ t
    · rw [decide_eq_true hp]
      obtain ⟨t, ht⟩ := hp
      rw [ht, zp]
      simp
    · rw [decide_eq_false hp]
      refine beq_eq_false_iff_ne.2 (fun e => hp ⟨a.data.toList.drop p.size, ?_⟩)
      rw [← e, List.take_append_drop]
  · rw [if_neg h]
    refine congrArg some (decide_eq_false ?_).symm
    rintro ⟨t, ht⟩
    have := congrArg List.length ht
    simp at this
    omega
theorem Ev.ite_true {α : Type} {g h : Nat → Option α} {c : Prop} [Decidable c] {r : α} (hc : c) (k : Ev g r) : Ev (fun n => if c then g n else h n) r := by
  obtain ⟨K, k⟩ := k
  exact ⟨K, fun n hn => (if_pos hc).trans (k n hn)⟩
theorem Ev.ite_false {α : Type} {g h : Nat → Option α} {c : Prop} [Decidable c] {r : α} (hc : ¬ c) (k : Ev h r) : Ev (fun n => if c then g n else h n) r := by
  obtain ⟨K, k⟩ := k
  exact ⟨K, fun n hn => (if_neg hc).trans (k n hn)⟩
/-- The last question: the two patterns as one. -/
theorem likes_j2 (a b p q : ByteArray) (ha : a.size ≤ 140737488351232) (hb : b.size ≤ 140737488351232) (hp : p.size ≤ 140737488351232) (hq : q.size ≤ 140737488351232) (t : Bool)
    (ht : t = true → G p.data.toList a.data.toList ∧ G q.data.toList b.data.toList) : Ev (fun k => relstorekeep_ValueLikes.j2 k a b p q t) true := by
  refine Ev.step (f := fun k => if t = true then (if a.size + b.size ≤ 9223372036854775807 then (if p.size + q.size ≤ 9223372036854775807 then ((relstorekeep_fits.f k (a ++ b) (p ++ q)).bind fun t127 => (if t127 = true then (if p.size + 1 ≤ 9223372036854775807 then (if (p ++ (⟨#[37]⟩ : ByteArray)).size + q.size ≤ 9223372036854775807 then ((relstorekeep_fits.f k (a ++ b) ((p ++ (⟨#[37]⟩ : ByteArray)) ++ q)).bind fun t128 => (some t128)) else (none)) else (none)) else (some false))) else (none)) else (none)) else (some true)) (fun k => rfl) ?_
  cases t with
  | false => exact Ev.ite_false (by decide) (Ev.now true)
  | true =>
    obtain ⟨h1, h2⟩ := ht rfl
    have s1 : (a ++ b).size = a.size + b.size := by simp
    have s2 : (p ++ q).size = p.size + q.size := by simp
    have s3 : (p ++ (⟨#[37]⟩ : ByteArray)).size = p.size + 1 := by simp; rfl
    have s4 : ((p ++ (⟨#[37]⟩ : ByteArray)) ++ q).size = p.size + 1 + q.size := by rw [ByteArray.size_append, s3]
    obtain ⟨r1, e1, g1⟩ := fits_is (a ++ b) (p ++ q) (by omega) (by omega)
    obtain ⟨r2, e2, g2⟩ := fits_is (a ++ b) ((p ++ (⟨#[37]⟩ : ByteArray)) ++ q) (by omega) (by omega)
    have k1 : r1 = true := g1.2 (by
      simp only [ByteArray.data_append, Array.toList_append]
      exact (G_append _ _ _).2 ⟨_, _, rfl, h1, h2⟩)
    have k2 : r2 = true := g2.2 (by
      simp only [ByteArray.data_append, Array.toList_append, List.append_assoc]
      exact (G_append _ _ _).2 ⟨_, _, rfl, h1, (G_star _ _).2 ⟨[], _, rfl, h2⟩⟩)
    subst k1
    subst k2
    refine Ev.ite_true rfl (Ev.ite_true (by omega) (Ev.ite_true (by omega) (Ev.bind e1 (Ev.ite_true rfl (Ev.ite_true (by omega) (Ev.ite_true (by omega) (Ev.bind e2 (Ev.now true))))))))
theorem likes_j1 (a b p q : ByteArray) (ha : a.size ≤ 140737488351232) (hb : b.size ≤ 140737488351232) (hp : p.size ≤ 140737488351232) (hq : q.size ≤ 140737488351232) : Ev (fun k => relstorekeep_ValueLikes.j1 k a b p q false) true := by
  refine Ev.step (f := fun k => ((relstorekeep_fits.f k a p).bind fun t125 => (if t125 = true then ((relstorekeep_fits.f k b q).bind fun t126 => (relstorekeep_ValueLikes.j2 k a b p q t126)) else (relstorekeep_ValueLikes.j2 k a b p q false)))) (fun k => rfl) ?_
  obtain ⟨r1, e1, g1⟩ := fits_is a p (by omega) (by omega)
  obtain ⟨r2, e2, g2⟩ := fits_is b q (by omega) (by omega)
  refine Ev.bind e1 ?_
  cases r1 with
  | false => exact Ev.ite_false (by decide) (likes_j2 a b p q ha hb hp hq false (by simp))
  | true => exact Ev.ite_true rfl (Ev.bind e2 (likes_j2 a b p q ha hb hp hq r2 (fun h => ⟨g1.1 rfl, g2.1 h⟩)))
open Classical in
theorem likes_j0 (a b p q : ByteArray) (ha : a.size ≤ 140737488351232) (hb : b.size ≤ 140737488351232) (hp : p.size ≤ 140737488351232) (hq : q.size ≤ 140737488351232) : Ev (fun k => relstorekeep_ValueLikes.j0 k a b p q false) true := by
  refine Ev.step (f := fun k => ((relstorekeep_marked.f k p).bind fun t120 => (if t120 = true then (relstorekeep_ValueLikes.j1 k a b p q false) else ((relstorekeep_fits.f k p p).bind fun t121 => (if t121 = true then ((relstorekeep_fits.f k a p).bind fun t122 => (if (t122 != (a.toList == p.toList)) = true then (relstorekeep_ValueLikes.j1 k a b p q true) else (if p.size + 1 ≤ 9223372036854775807 then ((relstorekeep_fits.f k a (p ++ (⟨#[37]⟩ : ByteArray))).bind fun t123 => ((relstorekeep_starts.f a p).bind fun t124 => (relstorekeep_ValueLikes.j1 k a b p q (t123 != t124)))) else (none)))) else (relstorekeep_ValueLikes.j1 k a b p q true)))))) (fun k => rfl) ?_
  obtain ⟨m, em, gm⟩ := marked_is p (by omega)
  refine Ev.bind em ?_
  have last := likes_j1 a b p q ha hb hp hq
  cases m with
  | true => exact Ev.ite_true rfl last
  | false =>
    have hpl := gm.1 rfl
    have s3 : (p ++ (⟨#[37]⟩ : ByteArray)).size = p.size + 1 := by simp; rfl
    obtain ⟨r1, e1, g1⟩ := fits_is p p (by omega) (by omega)
    obtain ⟨r2, e2, g2⟩ := fits_is a p (by omega) (by omega)
    obtain ⟨r3, e3, g3⟩ := fits_is a (p ++ (⟨#[37]⟩ : ByteArray)) (by omega) (by omega)
    have k1 : r1 = true := g1.2 ((G_plain hpl _).2 rfl)
    have k2 : r2 = (a.toList == p.toList) := by
      rw [Bool.eq_iff_iff, g2, G_plain hpl, Lib.toList_data, Lib.toList_data, beq_iff_eq]
    have k3 : r3 = decide (∃ t, a.data.toList = p.data.toList ++ t) := by
      rw [Bool.eq_iff_iff, g3, decide_eq_true_iff]
      simp only [ByteArray.data_append, Array.toList_append]
      rw [G_append]
      constructor
      · rintro ⟨x, y, e, h1, _⟩
        rw [G_plain hpl] at h1
        exact ⟨y, by rw [e, h1]⟩
      · rintro ⟨t, e⟩
        exact ⟨_, t, e, (G_plain hpl _).2 rfl, (G_star _ _).2 ⟨t, [], by simp, rfl⟩⟩
    subst k1
    subst k2
    subst k3
    refine Ev.ite_false (by decide) (Ev.bind e1 (Ev.ite_true rfl (Ev.bind e2 (Ev.ite_false (by simp) (Ev.ite_true (by omega) (Ev.bind e3 ?_))))))
    rw [starts_is]
    simp only [Option.bind_some, bne_self_eq_false]
    exact last
theorem ValueLikes : relstorekeep_ValueLikes.Pure := by
  intro a b p q ha hb hp hq
  refine Ev.rounds (r := true) ?_
  obtain ⟨r1, e1, g1⟩ := fits_is a (⟨#[37]⟩ : ByteArray) (by omega) (by decide)
  obtain ⟨r2, e2, g2⟩ := fits_is (⟨#[]⟩ : ByteArray) (⟨#[95]⟩ : ByteArray) (by decide) (by decide)
  obtain ⟨r3, e3, g3⟩ := fits_is a (⟨#[95, 37]⟩ : ByteArray) (by omega) (by decide)
  have k1 : r1 = true := g1.2 ((G_star [] _).2 ⟨a.data.toList, [], by simp, rfl⟩)
  have k2 : r2 = false := by
    cases r2 with
    | false => rfl
    | true =>
      have := g2.1 rfl
      rw [G_nil_right] at this
      exact absurd (this 95 (by simp)) (by decide)
  have k3 : r3 = (a.toList != ([] : List UInt8)) := by
    rw [Bool.eq_iff_iff, g3, Lib.toList_data, bne_iff_ne]
    show G [95, 37] _ ↔ _
    rw [G_one (by decide)]
    constructor
    · rintro ⟨x, t, e, _⟩
      rw [e]; simp
    · intro h
      obtain ⟨x, t, e⟩ := List.exists_cons_of_ne_nil h
      exact ⟨x, t, e, .inl rfl, (G_star [] _).2 ⟨t, [], by simp, rfl⟩⟩
  subst k1
  subst k2
  subst k3
  refine Ev.bind e1 (Ev.ite_true rfl (Ev.bind e2 (Ev.ite_false (by decide) (Ev.bind e3 ?_))))
  simp only [bne_self_eq_false]
  exact likes_j0 a b p q ha hb hp hq
end Go.Proofs.Ythaoaaboempajaa.Pure
