import Derived.Test.YtkcpeanimmjajaaDoorHoms
namespace Go.Proofs.YtkcpeanimmjajaaDoor.Ring
/-- The home of a partition. -/
def hd (H : List Int) (p : Nat) : Int := H.getD p 0
/-- The i-th partition round the ring. -/
def pos (H : List Int) (part i : Nat) : Nat := (part + i) % H.length
def fresh (H : List Int) (part : Nat) (l : List Nat) (i : Nat) : Prop := ∀ t ∈ l, hd H t ≠ hd H (pos H part i)
open Classical in
/-- What is taken in the first rounds, as the program takes it. -/
noncomputable def rnd (H : List Int) (part R : Nat) : Nat → List Nat
  | 0 => []
  | i + 1 => if (rnd H part R i).length < R ∧ fresh H part (rnd H part R i) i then rnd H part R i ++ [pos H part i] else rnd H part R i
theorem rnd_yes {H : List Int} {part R i : Nat} (h1 : (rnd H part R i).length < R) (h2 : fresh H part (rnd H part R i) i) : rnd H part R (i + 1) = rnd H part R i ++ [pos H part i] := by
  rw [rnd, if_pos ⟨h1, h2⟩]
theorem rnd_no {H : List Int} {part R i : Nat} (h2 : ¬ fresh H part (rnd H part R i) i) : rnd H part R (i + 1) = rnd H part R i := by
  rw [rnd, if_neg (fun h => h2 h.2)]
theorem rnd_full {H : List Int} {part R i : Nat} (h1 : R ≤ (rnd H part R i).length) : ∀ k, rnd H part R (i + k) = rnd H part R i
  | 0 => rfl
  | k + 1 => by
    have ih := rnd_full h1 k
    show rnd H part R (i + k + 1) = _
    rw [rnd, ih, if_neg (fun h => by omega)]
theorem rnd_len (H : List Int) (part R : Nat) : ∀ i, (rnd H part R i).length ≤ i
  | 0 => Nat.le_refl _
  | i + 1 => by
    have := rnd_len H part R i
    rw [rnd]
    split
    · rw [List.length_append, List.length_singleton]; omega
    · omega
theorem rnd_R (H : List Int) (part R : Nat) : ∀ i, (rnd H part R i).length ≤ R
  | 0 => Nat.zero_le _
  | i + 1 => by
    have := rnd_R H part R i
    rw [rnd]
    split
    · rename_i h
      rw [List.length_append, List.length_singleton]; omega
    · exact this
theorem pos_lt {H : List Int} (h : 0 < H.length) (part i : Nat) : pos H part i < H.length := Nat.mod_lt _ h
theorem rnd_lt {H : List Int} (h : 0 < H.length) (part R : Nat) : ∀ i, ∀ t ∈ rnd H part R i, t < H.length
  | 0, t, ht => by simp [rnd] at ht
  | i + 1, t, ht => by
    rw [rnd] at ht
    split at ht
    · rcases List.mem_append.1 ht with ht | ht
      · exact rnd_lt h part R i t ht
      · rw [List.mem_singleton.1 ht]; exact pos_lt h part i
    · exact rnd_lt h part R i t ht
theorem rnd_of (H : List Int) (part R : Nat) : ∀ i, ∀ t ∈ rnd H part R i, ∃ j, j < i ∧ t = pos H part j
  | 0, t, ht => by simp [rnd] at ht
  | i + 1, t, ht => by
    rw [rnd] at ht
    split at ht
    · rcases List.mem_append.1 ht with ht | ht
      · obtain ⟨j, h1, h2⟩ := rnd_of H part R i t ht
        exact ⟨j, by omega, h2⟩
      · exact ⟨i, by omega, List.mem_singleton.1 ht⟩
    · obtain ⟨j, h1, h2⟩ := rnd_of H part R i t ht
      exact ⟨j, by omega, h2⟩
theorem rnd_mono (H : List Int) (part R : Nat) (i : Nat) : (rnd H part R i).length ≤ (rnd H part R (i + 1)).length := by
  rw [rnd]
  split
  · rw [List.length_append]; omega
  · exact Nat.le_refl _
theorem rnd_all (H : List Int) (part R : Nat) : ∀ i, (rnd H part R i).length < R → ∀ j, j < i → ∃ t ∈ rnd H part R i, hd H t = hd H (pos H part j)
  | 0, _, j, hj => by omega
  | i + 1, hR, j, hj => by
    have h0 : (rnd H part R i).length < R := Nat.lt_of_le_of_lt (rnd_mono H part R i) hR
    have ih := rnd_all H part R i h0
    by_cases hf : fresh H part (rnd H part R i) i
    · rw [rnd_yes h0 hf]
      rcases Nat.lt_succ_iff_lt_or_eq.1 hj with h | h
      · obtain ⟨t, h1, h2⟩ := ih j h
        exact ⟨t, List.mem_append_left _ h1, h2⟩
      · subst h
        exact ⟨_, List.mem_append_right _ (List.mem_singleton.2 rfl), rfl⟩
    · rw [rnd_no hf]
      rcases Nat.lt_succ_iff_lt_or_eq.1 hj with h | h
      · exact ih j h
      · subst h
        apply Classical.byContradiction
        intro hn
        exact hf fun t ht he => hn ⟨t, ht, he⟩
/-- The document's test is the program's. -/
theorem fresh_iff {H : List Int} {part R i : Nat} (h : (rnd H part R i).length < R) : fresh H part (rnd H part R i) i ↔ ∀ j, j < i → hd H (pos H part j) ≠ hd H (pos H part i) := by
  constructor
  · intro hf j hj he
    obtain ⟨t, ht, h1⟩ := rnd_all H part R i h j hj
    exact hf t ht (h1.trans he)
  · intro hf t ht
    obtain ⟨j, hj, rfl⟩ := rnd_of H part R i t ht
    exact hf j hj
/-- A walk round the ring: the partitions taken. -/
noncomputable def walkL (H : List Int) (part R : Nat) : List Int := (rnd H part R H.length).map Int.ofNat
noncomputable def ownL (H : List Int) (part R : Nat) : List Int := (rnd H part R H.length).map (hd H)
/-- What a partition's home is. -/
theorem homes_hd {l : List ND} {H : List Int} (h : HomesOf l H) {p : Nat} (hp : p < partsN l) : ∃ i : Nat, hd H p = (i : Int) ∧ i < l.length ∧ HomeAt l p i := by
  obtain ⟨i, h1, h2, h3⟩ := h.2 p hp
  exact ⟨i, by unfold hd; rw [List.getD_eq_getElem?_getD, h1]; rfl, h2, h3⟩
theorem hd_at {H : List Int} {p : Nat} (h : p < H.length) : H[p]? = some (hd H p) := by
  unfold hd
  rw [List.getD_eq_getElem?_getD, List.getElem?_eq_getElem h]
  rfl
end Go.Proofs.YtkcpeanimmjajaaDoor.Ring
