/- The disk's meaning: changes that wait, bytes that are seen; no program in sight. No conditions. -/
import Derived.Test.YthaoaaboempajaaDisk5
namespace Go.Proofs.Ythaoaaboempajaa.Disk
open Go.RowKit Go.Proofs.YthaoaaboempajaaW.PrintWords Go.Proofs.YthaoaaboempajaaW.PrintLast Go.Proofs.YthaoaaboempajaaW.PrintMore Go.Proofs.YthaoaaboempajaaX
set_option linter.unusedVariables false
set_option linter.unusedSimpArgs false
/-- A change that waits. -/
structure Chg where
  file : Int
  at_ : Nat
  text : ByteArray
  cut : Bool
def noChg : Chg := ⟨0, 0, ByteArray.empty, false⟩
def zerosB (n : Nat) : ByteArray := ⟨(List.replicate n (0 : UInt8)).toArray⟩
def fillB (s : ByteArray) (n : Nat) : ByteArray := if n ≤ s.size then s else s ++ zerosB (n - s.size)
def putB (s : ByteArray) (a : Nat) (t : ByteArray) : ByteArray := (fillB s (a + t.size)).extract 0 a ++ t ++ (fillB s (a + t.size)).extract (a + t.size) (fillB s (a + t.size)).size
def onB (c : Chg) (s : ByteArray) : ByteArray := if c.cut = true then (fillB s c.at_).extract 0 c.at_ else putB s c.at_ c.text
/-- A file with all that waits of it. -/
def seenB (f : Int) (ws : List Chg) (s : ByteArray) : ByteArray := ws.foldl (fun s c => if c.file = f then onB c s else s) s
theorem seenB_snoc (f : Int) (ws : List Chg) (c : Chg) (s : ByteArray) : seenB f (ws ++ [c]) s = if c.file = f then onB c (seenB f ws s) else seenB f ws s := by simp [seenB]
theorem extract_list (s : ByteArray) (a b : Nat) : (s.extract a b).data.toList = (s.data.toList.drop a).take (b - a) := by
  rw [ByteArray.data_extract, Array.toList_extract, List.extract_eq_take_drop]
theorem bytesOf_append (a b : ByteArray) : bytesOf (a ++ b) = bytesOf a ++ bytesOf b := by
  unfold bytesOf
  rw [ByteArray.data_append, Array.toList_append, List.map_append]
theorem bytesOf_extract (s : ByteArray) (a b : Nat) : bytesOf (s.extract a b) = ((bytesOf s).drop a).take (b - a) := by
  unfold bytesOf
  rw [extract_list, List.map_take, List.map_drop]
theorem bytesOf_zeros (n : Nat) : bytesOf (zerosB n) = List.replicate n 0 := by simp [bytesOf, zerosB]
theorem size_zeros (n : Nat) : (zerosB n).size = n := by rw [← bytesOf_length, bytesOf_zeros, List.length_replicate]
theorem bytesOf_inj {a b : ByteArray} (h : bytesOf a = bytesOf b) : a = b := by
  have h2 : a.data.toList = b.data.toList := by
    refine List.map_inj_right (f := fun x : UInt8 => (x.toNat : Int)) ?_ |>.1 h
    intro x y e
    have e2 : x.toNat = y.toNat := Int.ofNat_inj.1 e
    exact UInt8.toNat_inj.1 e2
  have h3 : a.data = b.data := Array.toList_inj.1 h2
  cases a
  cases b
  simp_all
theorem bytesOf_fillB (s : ByteArray) (n : Nat) : bytesOf (fillB s n) = fill (bytesOf s) n := by
  unfold fillB fill
  rw [bytesOf_length]
  split
  · rw [Nat.sub_eq_zero_of_le (by omega)]; simp
  · rw [bytesOf_append, bytesOf_zeros]
theorem size_fillB (s : ByteArray) (n : Nat) : (fillB s n).size = max s.size n := by
  rw [← bytesOf_length, bytesOf_fillB]
  simp [fill, bytesOf_length]
  omega
theorem fill_length (l : List Int) (n : Nat) : (fill l n).length = max l.length n := by simp [fill]; omega
theorem bytesOf_putB (s : ByteArray) (a : Nat) (t : ByteArray) : bytesOf (putB s a t) = putL (bytesOf s) a t := by
  unfold putB putL
  rw [bytesOf_append, bytesOf_append, bytesOf_extract, bytesOf_extract, bytesOf_fillB, List.append_assoc]
  congr 2
  rw [List.take_of_length_le]
  rw [List.length_drop, fill_length, size_fillB, bytesOf_length]
  omega
theorem bytesOf_onB (c : Chg) (s : ByteArray) : bytesOf (onB c s) = doneL (bytesOf s) c.at_ c.text c.cut := by
  unfold onB doneL
  split
  · rw [bytesOf_extract, bytesOf_fillB]; simp
  · exact bytesOf_putB _ _ _
theorem putL_length (l : List Int) (a : Nat) (t : ByteArray) : (putL l a t).length = max l.length (a + t.size) := by
  unfold putL
  simp [fill_length, bytesOf_length]
  omega
theorem size_onB (c : Chg) (s : ByteArray) {n : Nat} (hs : s.size ≤ n) (hc : c.at_ + c.text.size ≤ n) : (onB c s).size ≤ n := by
  rw [← bytesOf_length, bytesOf_onB]
  unfold doneL
  split
  · rw [List.length_take, fill_length]; omega
  · rw [putL_length, bytesOf_length]; omega
theorem size_seenB (f : Int) {n : Nat} : ∀ (ws : List Chg) (s : ByteArray), s.size ≤ n → (∀ c ∈ ws, c.at_ + c.text.size ≤ n) → (seenB f ws s).size ≤ n
  | [], _, hs, _ => hs
  | c :: ws, s, hs, hc => by
    have h := hc c (by simp)
    have := size_seenB f ws (if c.file = f then onB c s else s) (by split; exact size_onB c s hs h; exact hs) (fun c' hc' => hc c' (by simp [hc']))
    simpa [seenB] using this
/-- What lasts of two files, what waits; the failure's number, down, count. -/
structure St where
  l0 : ByteArray
  l1 : ByteArray
  ws : List Chg
  f : Int
  d : Bool
  c : Int
def St.s0 (s : St) : ByteArray := seenB 0 s.ws s.l0
def St.s1 (s : St) : ByteArray := seenB 1 s.ws s.l1
def maxFile : Nat := 67108864
structure St.ok (s : St) (m : Nat) : Prop where
  l0 : s.l0.size ≤ maxFile
  l1 : s.l1.size ≤ maxFile
  ws : ∀ c ∈ s.ws, (c.file = 0 ∨ c.file = 1) ∧ c.at_ + c.text.size ≤ maxFile
  f : -1 ≤ s.f ∧ s.f < 9223372036854775808
  c : 0 ≤ s.c ∧ s.c ≤ m
  n : (s.ws.length : Int) ≤ s.c
theorem St.ok.s0 {s : St} {m : Nat} (h : s.ok m) : s.s0.size ≤ maxFile := size_seenB 0 s.ws s.l0 h.l0 (fun c hc => (h.ws c hc).2)
theorem St.ok.s1 {s : St} {m : Nat} (h : s.ok m) : s.s1.size ≤ maxFile := size_seenB 1 s.ws s.l1 h.l1 (fun c hc => (h.ws c hc).2)
/-- A turn of the state, without the change. -/
def St.turned (s : St) : St := { s with f := (turn s.f s.d s.c).2.1, d := (turn s.f s.d s.c).2.2.1, c := (turn s.f s.d s.c).2.2.2 }
def St.changed (s : St) (c : Chg) : St := if (turn s.f s.d s.c).1 = 0 then { s.turned with ws := s.ws ++ [c] } else s.turned
def others (f : Int) (ws : List Chg) : List Chg := ws.filter (fun c => c.file != f)
def St.synced (s : St) (f : Int) : St :=
  if (turn s.f s.d s.c).1 = 0 then { s.turned with l0 := if f = 0 then s.s0 else s.l0, l1 := if f = 1 then s.s1 else s.l1, ws := others f s.ws } else s.turned
def St.failed (s : St) (n : Int) : St := { s with f := failOf n }
theorem turn_cases (f : Int) (d : Bool) (c : Int) : (turn f d c).1 = 0 ∧ (turn f d c).2.2.2 = c + 1 ∨ (turn f d c).1 = 2 ∧ (turn f d c).2.2.2 = c := by
  unfold turn
  split <;> simp
theorem turn_f (f : Int) (d : Bool) (c : Int) (h : -1 ≤ f ∧ f < 9223372036854775808) : -1 ≤ (turn f d c).2.1 ∧ (turn f d c).2.1 < 9223372036854775808 := by
  unfold turn
  split
  · exact h
  · dsimp only; split <;> omega
theorem St.ok.turned {s : St} {m : Nat} (h : s.ok m) : s.turned.ok (m + 1) := by
  have hc := h.c
  have hn := h.n
  refine ⟨h.l0, h.l1, h.ws, turn_f _ _ _ h.f, ?_, ?_⟩
  · unfold St.turned
    rcases turn_cases s.f s.d s.c with ⟨_, e⟩ | ⟨_, e⟩ <;> simp only [e] <;> omega
  · unfold St.turned
    rcases turn_cases s.f s.d s.c with ⟨_, e⟩ | ⟨_, e⟩ <;> simp only [e] <;> omega
theorem St.ok.changed {s : St} {m : Nat} {c : Chg} (h : s.ok m) (hf : c.file = 0 ∨ c.file = 1) (hs : c.at_ + c.text.size ≤ maxFile) : (s.changed c).ok (m + 1) := by
  unfold St.changed
  rcases turn_cases s.f s.d s.c with ⟨e0, e⟩ | ⟨e0, e⟩
  · rw [if_pos e0]
    have ht := h.turned
    refine ⟨h.l0, h.l1, ?_, ht.f, ht.c, ?_⟩
    · intro c' hc'
      rcases List.mem_append.1 hc' with hc' | hc'
      · exact h.ws c' hc'
      · rw [List.mem_singleton.1 hc']; exact ⟨hf, hs⟩
    · have := h.n
      show ((s.ws ++ [c]).length : Int) ≤ (turn s.f s.d s.c).2.2.2
      rw [e, List.length_append]
      simp
      omega
  · rw [if_neg (by omega)]
    exact h.turned
theorem St.ok.synced {s : St} {m : Nat} {f : Int} (h : s.ok m) : (s.synced f).ok (m + 1) := by
  unfold St.synced
  rcases turn_cases s.f s.d s.c with ⟨e0, e⟩ | ⟨e0, e⟩
  · rw [if_pos e0]
    have ht := h.turned
    refine ⟨?_, ?_, ?_, ht.f, ht.c, ?_⟩
    · dsimp only; split; exact h.s0; exact h.l0
    · dsimp only; split; exact h.s1; exact h.l1
    · intro c' hc'
      exact h.ws c' (List.mem_filter.1 hc').1
    · have := h.n
      have hl := List.length_filter_le (fun c : Chg => c.file != f) s.ws
      show ((others f s.ws).length : Int) ≤ (turn s.f s.d s.c).2.2.2
      unfold others
      rw [e]
      omega
  · rw [if_neg (by omega)]
    exact h.turned
theorem St.ok.failed {s : St} {m : Nat} {n : Int} (h : s.ok m) (hn : n < 9223372036854775808) : (s.failed n).ok m := by
  refine ⟨h.l0, h.l1, h.ws, ?_, h.c, h.n⟩
  show -1 ≤ failOf n ∧ failOf n < _
  unfold failOf
  split <;> omega
/-- How a change is kept at a crash. -/
def halved (c : Chg) : Chg := if c.cut = true then c else { c with text := c.text.extract 0 (c.text.size / 2) }
def kept1 (h : Int) (c : Chg) (f : Int) (s : ByteArray) : ByteArray := if c.file = f ∧ (h = 1 ∨ h = 2) then onB (if h = 2 then halved c else c) s else s
/-- What the keep says of the i-th change. -/
def howOf (keep : List Int) (i : Nat) : Int := if keep.length = 0 then 0 else keep.getD (i % keep.length) 0
def crashB (f : Int) (keep : List Int) : Nat → List Chg → ByteArray → ByteArray
  | _, [], s => s
  | i, c :: ws, s => crashB f keep (i + 1) ws (kept1 (howOf keep i) c f s)
def St.crashed (s : St) (keep : List Int) : St := { l0 := crashB 0 keep 0 s.ws s.l0, l1 := crashB 1 keep 0 s.ws s.l1, ws := [], f := -1, d := false, c := s.c }
theorem halved_le (c : Chg) : (halved c).at_ = c.at_ ∧ (halved c).text.size ≤ c.text.size ∧ (halved c).file = c.file := by
  unfold halved
  split
  · exact ⟨rfl, Nat.le_refl _, rfl⟩
  · refine ⟨rfl, ?_, rfl⟩
    rw [← bytesOf_length, bytesOf_extract]
    simp [bytesOf_length]
    omega
theorem size_kept1 (h : Int) (c : Chg) (f : Int) (s : ByteArray) {n : Nat} (hs : s.size ≤ n) (hc : c.at_ + c.text.size ≤ n) : (kept1 h c f s).size ≤ n := by
  have := halved_le c
  unfold kept1
  split
  · split
    · exact size_onB _ _ hs (by omega)
    · exact size_onB _ _ hs hc
  · exact hs
theorem size_crashB (f : Int) (keep : List Int) {n : Nat} : ∀ (ws : List Chg) (i : Nat) (s : ByteArray), s.size ≤ n → (∀ c ∈ ws, c.at_ + c.text.size ≤ n) → (crashB f keep i ws s).size ≤ n
  | [], _, _, hs, _ => hs
  | c :: ws, i, s, hs, hc => size_crashB f keep ws (i + 1) _ (size_kept1 _ c f s hs (hc c (by simp))) (fun c' hc' => hc c' (by simp [hc']))
theorem St.ok.crashed {s : St} {m : Nat} {keep : List Int} (h : s.ok m) : (s.crashed keep).ok m := by
  refine ⟨size_crashB 0 keep s.ws 0 s.l0 h.l0 (fun c hc => (h.ws c hc).2), size_crashB 1 keep s.ws 0 s.l1 h.l1 (fun c hc => (h.ws c hc).2), ?_, ?_, h.c, ?_⟩
  · intro c hc; cases hc
  · exact ⟨Int.le_refl _, show (-1 : Int) < 9223372036854775808 by decide⟩
  · exact h.c.1
theorem crashB_snoc (f : Int) (keep : List Int) : ∀ (ws : List Chg) (i : Nat) (c : Chg) (s : ByteArray), crashB f keep i (ws ++ [c]) s = kept1 (howOf keep (i + ws.length)) c f (crashB f keep i ws s)
  | [], i, c, s => rfl
  | d :: ws, i, c, s => by
    have := crashB_snoc f keep ws (i + 1) c (kept1 (howOf keep i) d f s)
    rw [show i + (d :: ws).length = i + 1 + ws.length by simp; omega]
    exact this
/-- Of a file that was synced nothing waits; of the other one all does. -/
theorem seenB_others_self (f : Int) : ∀ (ws : List Chg) (s : ByteArray), seenB f (others f ws) s = s
  | [], _ => rfl
  | c :: ws, s => by
    have ih := seenB_others_self f ws s
    unfold others at ih ⊢
    rw [List.filter_cons]
    by_cases h : c.file = f
    · rw [if_neg (by simp [h])]; exact ih
    · rw [if_pos (by simp [h])]
      unfold seenB at ih ⊢
      rw [List.foldl_cons, if_neg h]
      exact ih
theorem seenB_others_ne {f g : Int} (hne : g ≠ f) : ∀ (ws : List Chg) (s : ByteArray), seenB g (others f ws) s = seenB g ws s
  | [], _ => rfl
  | c :: ws, s => by
    unfold others
    rw [List.filter_cons]
    by_cases h : c.file = f
    · rw [if_neg (by simp [h])]
      have ih := seenB_others_ne hne ws s
      unfold others seenB at ih
      unfold seenB
      rw [ih, List.foldl_cons, if_neg (by omega)]
    · rw [if_pos (by simp [h])]
      have ih := seenB_others_ne hne ws (if c.file = g then onB c s else s)
      unfold others seenB at ih
      unfold seenB
      rw [List.foldl_cons, List.foldl_cons]
      exact ih
end Go.Proofs.Ythaoaaboempajaa.Disk
