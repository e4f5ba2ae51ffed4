import Derived.Test.YtkcpeanimmjajaaDoorDealt
namespace Go.Proofs.YtkcpeanimmjajaaDoor.Ring
open Go.Proofs.YtkcpeanimmjajaaDoor.PRingWalks
/-! Plain: the partitions of all nodes in one list. -/
/-- All partitions of the nodes. -/
def flat (l : List ND) : List Int := l.flatMap (·.f1)
theorem cnt_append (p : Int) (a b : List Int) : cnt p (a ++ b) = cnt p a + cnt p b := by unfold cnt; rw [List.filter_append, List.length_append]
theorem cnt_nil (p : Int) : cnt p [] = 0 := rfl
theorem cnt_cons (p x : Int) (l : List Int) : cnt p (x :: l) = (if x = p then 1 else 0) + cnt p l := by
  unfold cnt
  by_cases h : x = p
  · simp [h, Nat.add_comm]
  · simp [h]
theorem cnt_pos {p : Int} {l : List Int} : 0 < cnt p l ↔ p ∈ l := by
  unfold cnt
  rw [List.length_pos_iff_exists_mem]
  constructor
  · rintro ⟨x, hx⟩
    obtain ⟨h1, h2⟩ := List.mem_filter.1 hx
    rw [← (beq_iff_eq.1 h2)]
    exact h1
  · intro h
    exact ⟨p, List.mem_filter.2 ⟨h, by simp⟩⟩
theorem timesN_flat (p : Int) (l : List ND) : timesN p l = cnt p (flat l) := by
  unfold timesN flat
  induction l with
  | nil => rfl
  | cons x r ih => rw [List.map_cons, List.sum_cons, ih, List.flatMap_cons, cnt_append]
theorem partsN_flat (l : List ND) : partsN l = (flat l).length := by
  unfold partsN flat
  induction l with
  | nil => rfl
  | cons x r ih => rw [List.map_cons, List.sum_cons, ih, List.flatMap_cons, List.length_append]

/-- How many of a list's numbers are 0 to P - 1. -/
def ins (P : Nat) (l : List Int) : Nat := (l.filter fun x => decide (0 ≤ x ∧ x < (P : Int))).length
def sumTo (f : Nat → Nat) : Nat → Nat
  | 0 => 0
  | n + 1 => sumTo f n + f n
theorem sumTo_add (f g : Nat → Nat) (n : Nat) : sumTo (fun i => f i + g i) n = sumTo f n + sumTo g n := by
  induction n with
  | zero => rfl
  | succ n ih => simp only [sumTo]; omega
theorem sumTo_zero (n : Nat) : sumTo (fun _ => 0) n = 0 := by
  induction n with
  | zero => rfl
  | succ n ih => simp only [sumTo]; omega
theorem sumTo_one (x : Int) (n : Nat) : sumTo (fun i => if x = (i : Int) then 1 else 0) n = if 0 ≤ x ∧ x < n then 1 else 0 := by
  induction n with
  | zero => rw [if_neg (by omega)]; rfl
  | succ n ih =>
    simp only [sumTo]
    rw [ih]
    by_cases h1 : x = (n : Int)
    · rw [if_pos h1, if_neg (by omega), if_pos (by omega)]
    · rw [if_neg h1]
      by_cases h2 : 0 ≤ x ∧ x < (n : Int)
      · rw [if_pos h2, if_pos (by omega)]
      · rw [if_neg h2, if_neg (by omega)]
theorem sumTo_cnt (P : Nat) (l : List Int) : sumTo (fun i => cnt (i : Int) l) P = ins P l := by
  induction l with
  | nil => exact sumTo_zero P
  | cons x r ih =>
    have e : (fun i : Nat => cnt (i : Int) (x :: r)) = fun i : Nat => (if x = (i : Int) then 1 else 0) + cnt (i : Int) r := funext fun i => cnt_cons _ _ _
    rw [e, sumTo_add, ih, sumTo_one]
    unfold ins
    by_cases h : 0 ≤ x ∧ x < (P : Int)
    · simp [h, Nat.add_comm]
    · simp [h]
theorem sumTo_congr {f g : Nat → Nat} {n : Nat} (h : ∀ i, i < n → f i = g i) : sumTo f n = sumTo g n := by
  induction n with
  | zero => rfl
  | succ n ih => simp only [sumTo]; rw [ih (fun i hi => h i (by omega)), h n (by omega)]
theorem sumTo_const (n : Nat) : sumTo (fun _ => 1) n = n := by
  induction n with
  | zero => rfl
  | succ n ih => simp only [sumTo]; omega
theorem sumTo_le {f : Nat → Nat} {n : Nat} (h : ∀ i, i < n → f i ≤ 1) : sumTo f n ≤ n := by
  induction n with
  | zero => exact Nat.le_refl _
  | succ n ih =>
    have := ih (fun i hi => h i (by omega))
    have := h n (by omega)
    simp only [sumTo]
    omega
theorem sumTo_full {f : Nat → Nat} {n : Nat} (h : ∀ i, i < n → f i ≤ 1) (hs : sumTo f n = n) : ∀ i, i < n → f i = 1 := by
  induction n with
  | zero => intro i hi; omega
  | succ n ih =>
    have h1 := sumTo_le (f := f) (n := n) (fun i hi => h i (by omega))
    have h2 := h n (by omega)
    simp only [sumTo] at hs
    intro i hi
    rcases Nat.lt_succ_iff_lt_or_eq.1 hi with h3 | h3
    · exact ih (fun i hi => h i (by omega)) (by omega) i h3
    · subst h3; omega
theorem ins_all {P : Nat} {l : List Int} (h : ∀ x ∈ l, 0 ≤ x ∧ x < (P : Int)) : ins P l = l.length := by
  unfold ins
  rw [List.filter_eq_self.2 (fun x hx => by simpa using h x hx)]
theorem all_ins {P : Nat} {l : List Int} (h : ins P l = l.length) : ∀ x ∈ l, 0 ≤ x ∧ x < (P : Int) := by
  intro x hx
  have := List.length_filter_eq_length_iff.1 h x hx
  simpa using this
/-- All P numbers once each, P in all: then nothing else is there. -/
theorem once_range {l : List Int} (h : ∀ i : Nat, i < l.length → cnt (i : Int) l = 1) : ∀ x ∈ l, 0 ≤ x ∧ x < (l.length : Int) := by
  refine all_ins ?_
  rw [← sumTo_cnt, sumTo_congr (g := fun _ => 1) (fun i hi => h i hi), sumTo_const]
/-- None twice, all within: then each is there. -/
theorem range_once {l : List Int} (hr : ∀ x ∈ l, 0 ≤ x ∧ x < (l.length : Int)) (h1 : ∀ i : Nat, i < l.length → cnt (i : Int) l ≤ 1) : ∀ i : Nat, i < l.length → cnt (i : Int) l = 1 :=
  sumTo_full h1 (by rw [sumTo_cnt, ins_all hr])
/-- The node that has the partition. -/
def HomeAt (l : List ND) (p : Nat) (i : Nat) : Prop := ∃ nd, l[i]? = some nd ∧ (p : Int) ∈ nd.f1
theorem cnt_flat_two {l : List ND} {p i j : Nat} (hij : i < j) (hi : HomeAt l p i) (hj : HomeAt l p j) : 2 ≤ cnt (p : Int) (flat l) := by
  induction l generalizing i j with
  | nil => obtain ⟨nd, h, _⟩ := hi; simp at h
  | cons x r ih =>
    unfold flat
    rw [List.flatMap_cons, cnt_append]
    obtain ⟨ni, hi1, hi2⟩ := hi
    obtain ⟨nj, hj1, hj2⟩ := hj
    obtain ⟨j', rfl⟩ : ∃ j', j = j' + 1 := ⟨j - 1, by omega⟩
    have hj3 : (p : Int) ∈ flat r := List.mem_flatMap.2 ⟨nj, List.mem_of_getElem? (by simpa using hj1), hj2⟩
    cases i with
    | zero =>
      have hx : x = ni := by simpa using hi1
      subst hx
      have h1 := cnt_pos.2 hi2
      have h2 := cnt_pos.2 hj3
      unfold flat at h2
      omega
    | succ i' =>
      have := ih (i := i') (j := j') (by omega) ⟨ni, by simpa using hi1, hi2⟩ ⟨nj, by simpa using hj1, hj2⟩
      unfold flat at this
      omega
theorem home_unique {l : List ND} (hd : Dealt l) {p i j : Nat} (hp : p < partsN l) (hi : HomeAt l p i) (hj : HomeAt l p j) : i = j := by
  have h1 := hd.2.2.1 p hp
  rw [timesN_flat] at h1
  rcases Nat.lt_trichotomy i j with h | h | h
  · have := cnt_flat_two h hi hj; omega
  · exact h
  · have := cnt_flat_two h hj hi; omega
/-- The homes of all partitions, in their order. -/
def HomesOf (l : List ND) (H : List Int) : Prop := H.length = partsN l ∧ ∀ p : Nat, p < partsN l → ∃ i : Nat, H[p]? = some (i : Int) ∧ i < l.length ∧ HomeAt l p i
end Go.Proofs.YtkcpeanimmjajaaDoor.Ring
