import Derived.Test.YtkcpeanimmjajaaDoorBase
import Derived.Test.YtkcpeanimmjajaaDoorPRingWalksx1
namespace Go.Proofs.YtkcpeanimmjajaaDoor.Ring
open Go.Proofs.YtkcpeanimmjajaaDoor.PRingWalks
/-! Plain: the partitions of all nodes in one list. -/
/-- All partitions of the nodes. -/
def flat (l : List ND) : List Int := l.flatMap (·.f1)
theorem cnt_append (p : Int) (a b : List Int) : cnt p (a ++ b) = cnt p a + cnt p b := by unfold cnt; rw [List.filter_append, List.length_append]
theorem cnt_nil (p : Int) : cnt p [] = 0 := rfl
theorem cnt_cons (p x : Int) (l : List Int) : cnt p (x :: l) = (if x = p then 1 else 0) + cnt p l := by
  unfold cnt
  by_cases h : x = p
  · simp [h, Nat.add_comm]
  · simp [h]
theorem cnt_pos {p : Int} {l : List Int} : 0 < cnt p l ↔ p ∈ l := by
  unfold cnt
  rw [List.length_pos_iff_exists_mem]
  constructor
  · rintro ⟨x, hx⟩
    obtain ⟨h1, h2⟩ := List.mem_filter.1 hx
    rw [← (beq_iff_eq.1 h2)]
    exact h1
  · intro h
    exact ⟨p, List.mem_filter.2 ⟨h, by simp⟩⟩
theorem timesN_flat (p : Int) (l : List ND) : timesN p l = cnt p (flat l) := by
  unfold timesN flat
  induction l with
  | nil => rfl
  | cons x r ih => rw [List.map_cons, List.sum_cons, ih, List.flatMap_cons, cnt_append]
theorem partsN_flat (l : List ND) : partsN l = (flat l).length := by
  unfold partsN flat
  induction l with
  | nil => rfl
  | cons x r ih => rw [List.map_cons, List.sum_cons, ih, List.flatMap_cons, List.length_append]

/-- How many of a list's numbers are 0 to P - 1. -/
def ins (P : Nat) (l : List Int) : Nat := (l.filter fun x => decide (0 ≤ x ∧ x < (P : Int))).length
def sumTo (f : Nat → Nat) : Nat → Nat
  | 0 => 0
  | n + 1 => sumTo f n + f n
theorem sumTo_add (f g : Nat → Nat) (n : Nat) : sumTo (fun i => f i + g i) n = sumTo f n + sumTo g n := by
  induction n with
  | zero => rfl
  | succ n ih => simp only [sumTo]; omega
theorem sumTo_zero (n : Nat) : sumTo (fun _ => 0) n = 0 := by
  induction n with
  | zero => rfl
  | succ n ih => simp only [sumTo]; omega
theorem sumTo_one (x : Int) (n : Nat) : sumTo (fun i => if x = (i : Int) then 1 else 0) n = if 0 ≤ x ∧ x < n then 1 else 0 := by
  induction n with
  | zero => rw [if_neg (by omega)]; rfl
  | succ n ih =>
    simp only [sumTo]
    rw [ih]
    by_cases h1 : x = (n : Int)
    · rw [if_pos h1, if_neg (by omega), if_pos (by omega)]
    · rw [if_neg h1]
      by_cases h2 : 0 ≤ x ∧ x < (n : Int)
      · rw [if_pos h2, if_pos (by omega)]
      · rw [if_neg h2, if_neg (by omega)]
theorem sumTo_cnt (P : Nat) (l : List Int) : sumTo (fun i => cnt (i : Int) l) P = ins P l := by
  induction l with
  | nil => exact sumTo_zero P
  | cons x r ih =>
    have e : (fun i : Nat => cnt (i : Int) (x :: r)) = fun i : Nat => (if x = (i : Int) then 1 else 0) + cnt (i : Int) r := funext fun i => cnt_cons _ _ _
    rw [e, sumTo_add, ih, sumTo_one]
    unfold ins
    by_cases h : 0 ≤ x ∧ x < (P : Int)
    · simp [h, Nat.add_comm]
    · simp [h]
theorem sumTo_congr {f g : Nat → Nat} {n : Nat} (h : ∀ i, i < n → f i = g i) : sumTo f n = sumTo g n := by
  induction n with
  | zero => rfl
  | succ n ih => simp only [sumTo]; rw [ih (fun i hi => h i (by omega)), h n (by omega)]
theorem sumTo_const (n : Nat) : sumTo (fun _ => 1) n = n := by
  induction n with
  | zero => rfl
  | succ n ih => simp only [sumTo]; omega
theorem sumTo_le {f : Nat → Nat} {n : Nat} (h : ∀ i, i < n → f i ≤ 1) : sumTo f n ≤ n := by
  induction n with
  | zero => exact Nat.le_refl _
  | succ n ih =>
    have := ih (fun i hi => h i (by omega))
    have := h n (by omega)
    simp only [sumTo]
    omega
theorem sumTo_full {f : Nat → Nat} {n : Nat} (h : ∀ i, i < n → f i ≤ 1) (hs : sumTo f n = n) : ∀ i, i < n → f i = 1 := by
  induction n with
  | zero => intro i hi; omega
  | succ n ih =>
    have h1 := sumTo_le (f := f) (n := n) (fun i hi => h i (by omega))
    have h2 := h n (by omega)
    simp only [sumTo] at hs
    intro i hi
    rcases Nat.lt_succ_iff_lt_or_eq.1 hi with h3 | h3
    · exact ih (fun i hi => h i (by omega)) (by omega) i h3
    · subst h3; omega
theorem ins_all {P : Nat} {l : List Int} (h : ∀ x ∈ l, 0 ≤ x ∧ x < (P : Int)) : ins P l = l.length := by
  unfold ins
  rw [List.filter_eq_self.2 (fun x hx => by simpa using h x hx)]
theorem all_ins {P : Nat} {l : List Int} (h : ins P l = l.length) : ∀ x ∈ l, 0 ≤ x ∧ x < (P : Int) := by
  intro x hx
  have := List.length_filter_eq_length_iff.1 h x hx
  simpa using this
/-- All P numbers once each, P in all: then nothing else is there. -/
theorem once_range {l : List Int} (h : ∀ i : Nat, i < l.length → cnt (i : Int) l = 1) : ∀ x ∈ l, 0 ≤ x ∧ x < (l.length : Int) := by
  refine all_ins ?_
  rw [← sumTo_cnt, sumTo_congr (g := fun _ => 1) (fun i hi => h i hi), sumTo_const]
/-- None twice, all within: then each is there. -/
theorem range_once {l : List Int} (hr : ∀ x ∈ l, 0 ≤ x ∧ x < (l.length : Int)) (h1 : ∀ i : Nat, i < l.length → cnt (i : Int) l ≤ 1) : ∀ i : Nat, i < l.length → cnt (i : Int) l = 1 :=
  sumTo_full h1 (by rw [sumTo_cnt, ins_all hr])
/-- The node that has the partition. -/
def HomeAt (l : List ND) (p : Nat) (i : Nat) : Prop := ∃ nd, l[i]? = some nd ∧ (p : Int) ∈ nd.f1
theorem cnt_flat_two {l : List ND} {p i j : Nat} (hij : i < j) (hi : HomeAt l p i) (hj : HomeAt l p j) : 2 ≤ cnt (p : Int) (flat l) := by
  induction l generalizing i j with
  | nil => obtain ⟨nd, h, _⟩ := hi; simp at h
  | cons x r ih =>
    unfold flat
    rw [List.flatMap_cons, cnt_append]
    obtain ⟨ni, hi1, hi2⟩ := hi
    obtain ⟨nj, hj1, hj2⟩ := hj
    obtain ⟨j', rfl⟩ : ∃ j', j = j' + 1 := ⟨j - 1, by omega⟩
    have hj3 : (p : Int) ∈ flat r := List.mem_flatMap.2 ⟨nj, List.mem_of_getElem? (by simpa using hj1), hj2⟩
    cases i with
    | zero =>
      have hx : x = ni := by simpa using hi1
      subst hx
      have h1 := cnt_pos.2 hi2
      have h2 := cnt_pos.2 hj3
      unfold flat at h2
      omega
    | succ i' =>
      have := ih (i := i') (j := j') (by omega) ⟨ni, by simpa using hi1, hi2⟩ ⟨nj, by simpa using hj1, hj2⟩
      unfold flat at this
      omega
theorem home_unique {l : List ND} (hd : Dealt l) {p i j : Nat} (hp : p < partsN l) (hi : HomeAt l p i) (hj : HomeAt l p j) : i = j := by
  have h1 := hd.2.2.1 p hp
  rw [timesN_flat] at h1
  rcases Nat.lt_trichotomy i j with h | h | h
  · have := cnt_flat_two h hi hj; omega
  · exact h
  · have := cnt_flat_two h hj hi; omega
/-- The homes of all partitions, in their order. -/
def HomesOf (l : List ND) (H : List Int) : Prop := H.length = partsN l ∧ ∀ p : Nat, p < partsN l → ∃ i : Nat, H[p]? = some (i : Int) ∧ i < l.length ∧ HomeAt l p i
end Go.Proofs.YtkcpeanimmjajaaDoor.Ring
namespace Go.Proofs.YtkcpeanimmjajaaDoor.Ring
open Go.RowKit Go.Proofs.YtkcpeanimmjajaaDoorW.PrintWords Go.Proofs.YtkcpeanimmjajaaDoorW.PrintLast Go.Proofs.YtkcpeanimmjajaaDoorW.PrintMore Go.Proofs.YtkcpeanimmjajaaDoor.PRingWalks
set_option linter.unusedVariables false

def SortedL (l : List Int) : Prop := ∀ j a b, l[j]? = some a → l[j + 1]? = some b → a ≤ b
theorem rd_nat (l : List Int) (j : Nat) (h : j < l.length) : l[j]? = some (rd l (j : Int)) := by
  unfold rd
  rw [Int.toNat_natCast, List.getD_eq_getElem?_getD, List.getElem?_eq_getElem h]
  rfl
theorem less_f (a b : Int) : cmp_Less_int.f a b = some (decide (a < b)) := by
  unfold cmp_Less_int.f cmp_isNaN_int.f
  simp
theorem sorted_l0 (l : List Int) (hl : l.length ≤ 9223372036854775807) (d : Nat) : ∀ k, d < k → d < l.length → ∃ b, slices_IsSorted_int_int.l0 k l (d : Int) = some b ∧ (b = true ↔ ∀ j a c, j < d → l[j]? = some a → l[j + 1]? = some c → a ≤ c) := by
  induction d with
  | zero =>
    intro k hk hd
    obtain ⟨k, rfl⟩ : ∃ m, k = m + 1 := ⟨k - 1, by omega⟩
    refine ⟨true, ?_, by simp⟩
    simp only [slices_IsSorted_int_int.l0]
    rw [if_neg (by omega)]
  | succ d ih =>
    intro k hk hd
    obtain ⟨k, rfl⟩ : ∃ m, k = m + 1 := ⟨k - 1, by omega⟩
    have hw : wrap64 (((d + 1 : Nat) : Int) - 1) = (d : Int) := by unfold wrap64; omega
    simp only [slices_IsSorted_int_int.l0]
    rw [hw, if_pos (by omega), if_pos (by omega), if_pos (by omega), if_pos (by omega), if_pos (by omega), less_f]
    simp only [Option.bind_some]
    have h1 := rd_nat l d (by omega)
    have h2 := rd_nat l (d + 1) hd
    by_cases h : rd l ((d + 1 : Nat) : Int) < rd l (d : Int)
    · refine ⟨false, by rw [if_pos (by simpa using h)], ?_⟩
      constructor
      · intro e; cases e
      · intro hall
        have := hall d _ _ (by omega) h1 h2
        omega
    · rw [if_neg (by simpa using h)]
      obtain ⟨b, hb, hb2⟩ := ih k (by omega) (by omega)
      refine ⟨b, hb, hb2.trans ⟨fun hall j a c hj ha hc => ?_, fun hall j a c hj ha hc => hall j a c (by omega) ha hc⟩⟩
      rcases Nat.lt_succ_iff_lt_or_eq.1 hj with h3 | h3
      · exact hall j a c h3 ha hc
      · subst h3
        rw [h1] at ha
        rw [h2] at hc
        cases ha
        cases hc
        omega
theorem sorted_f (l : List Int) (hl : l.length ≤ 9223372036854775807) : ∃ k b, sort_IntsAreSorted.f k l = some b ∧ (b = true ↔ SortedL l) := by
  rcases Nat.eq_zero_or_pos l.length with h0 | h0
  · have hn : l = [] := List.eq_nil_of_length_eq_zero h0
    subst hn
    refine ⟨1, true, ?_, by simp [SortedL]⟩
    unfold sort_IntsAreSorted.f slices_IsSorted_int_int.f
    simp only [slices_IsSorted_int_int.l0]
    rw [if_neg (by unfold wrap64; simp)]
    rfl
  · obtain ⟨b, hb, hb2⟩ := sorted_l0 l hl (l.length - 1) l.length (by omega) (by omega)
    refine ⟨l.length, b, ?_, hb2.trans ⟨fun hall j a c ha hc => hall j a c ?_ ha hc, fun hall j a c _ ha hc => hall j a c ha hc⟩⟩
    · unfold sort_IntsAreSorted.f slices_IsSorted_int_int.f
      have hw : wrap64 ((l.length : Int) - 1) = ((l.length - 1 : Nat) : Int) := by unfold wrap64; omega
      rw [hw, hb]
      rfl
    · have := (List.getElem?_eq_some_iff.1 hc).1
      omega
theorem sorted_calls (A : Option Addr) (cap : Nat) (l : List Int) (w : World) (hr : (Kd.int .i64).C w A l.length l) (hc : l.length ≤ cap) :
    ∃ b, (b = true ↔ SortedL l) ∧ Calls Tryd.prog 105 #[.slice A l.length cap] w fun e w' => e = .returned (.bool b) ∧ Drawn0 w w' := by
  obtain ⟨k, b, hf, hb⟩ := sorted_f l hr.2.1
  exact ⟨b, hb, sort_IntsAreSorted.calls k A cap l b w hr hc hf⟩
theorem Rises.sorted {l : List Int} (h : Rises l) : SortedL l := fun j a b ha hb => by have := h j a b ha hb; omega
end Go.Proofs.YtkcpeanimmjajaaDoor.Ring
namespace Go.Proofs.YtkcpeanimmjajaaDoor.Ring
open Go.Proofs.YtkcpeanimmjajaaDoor.PRingWalks
/-! Plain: what the homes' list says while it is filled. F: the partitions that have been met. -/
def HInv (l : List ND) (P k : Nat) (F H : List Int) : Prop :=
  H.length = P ∧ (∀ x ∈ F, 0 ≤ x ∧ x < (P : Int)) ∧ ∀ q : Nat, q < P → (cnt (q : Int) F = 0 ∧ H[q]? = some (-1)) ∨ (cnt (q : Int) F = 1 ∧ ∃ i : Nat, i ≤ k ∧ H[q]? = some (i : Int) ∧ HomeAt l q i)
theorem hinv_start (l : List ND) {P : Nat} {H : List Int} (h : H.length = P) (hm : ∀ j : Nat, j < P → H[j]? = some (-1)) : HInv l P 0 [] H :=
  ⟨h, fun x hx => by simp at hx, fun q hq => .inl ⟨rfl, hm q hq⟩⟩
theorem hinv_more {l : List ND} {P k : Nat} {F H : List Int} (h : HInv l P k F H) : HInv l P (k + 1) F H :=
  ⟨h.1, h.2.1, fun q hq => (h.2.2 q hq).imp id (fun ⟨h1, i, h2, h3⟩ => ⟨h1, i, by omega, h3⟩)⟩
theorem cnt_snoc' (p : Int) (F : List Int) (x : Int) : cnt p (F ++ [x]) = cnt p F + if x = p then 1 else 0 := by
  rw [cnt_append, cnt_cons, cnt_nil]
  omega
theorem hinv_next {l : List ND} {P k : Nat} {F H : List Int} {nd : ND} {x : Nat} (h : HInv l P k F H) (hk : l[k]? = some nd) (hx : (x : Int) ∈ nd.f1) (hxP : x < P) {y : Int} (hy : H[x]? = some y) (hneg : y < 0) : HInv l P k (F ++ [(x : Int)]) (H.set x (k : Int)) := by
  obtain ⟨h1, h2, h3⟩ := h
  refine ⟨by rw [List.length_set]; exact h1, ?_, fun q hq => ?_⟩
  · intro z hz
    rcases List.mem_append.1 hz with hz | hz
    · exact h2 z hz
    · rw [List.mem_singleton.1 hz]; omega
  · rw [cnt_snoc']
    by_cases e : (x : Int) = (q : Int)
    · have e' : x = q := by omega
      subst e'
      right
      rcases h3 x hq with ⟨h4, _⟩ | ⟨_, i, _, h5, _⟩
      · refine ⟨by rw [h4, if_pos rfl], k, Nat.le_refl _, ?_, nd, hk, hx⟩
        rw [List.getElem?_set_self (by omega)]
      · rw [h5] at hy
        cases hy
        omega
    · have e' : x ≠ q := fun e2 => e (by rw [e2])
      rw [if_neg e, Nat.add_zero, List.getElem?_set_ne e']
      exact h3 q hq
theorem flat_split (l : List ND) (k : Nat) (nd : ND) (h : l[k]? = some nd) (j : Nat) (x : Int) (hx : nd.f1[j]? = some x) : ∃ R, flat l = (flat (l.take k) ++ nd.f1.take j) ++ [x] ++ R := by
  obtain ⟨h1, h2⟩ := List.getElem?_eq_some_iff.1 h
  obtain ⟨h3, h4⟩ := List.getElem?_eq_some_iff.1 hx
  refine ⟨nd.f1.drop (j + 1) ++ flat (l.drop (k + 1)), ?_⟩
  have e1 : l = l.take k ++ nd :: l.drop (k + 1) := by
    rw [← h2, List.getElem_cons_drop]
    exact (List.take_append_drop k l).symm
  have e2 : nd.f1 = nd.f1.take j ++ x :: nd.f1.drop (j + 1) := by
    rw [← h4, List.getElem_cons_drop]
    exact (List.take_append_drop j nd.f1).symm
  have e3 : flat l = flat (l.take k) ++ (nd.f1 ++ flat (l.drop (k + 1))) := by
    conv => lhs; rw [e1]
    unfold flat
    rw [List.flatMap_append, List.flatMap_cons]
  rw [e3]
  conv => lhs; rw [e2]
  simp [List.append_assoc]
theorem not_dealt_out {l : List ND} {x : Int} (hx : x ∈ flat l) (h : x < 0 ∨ (partsN l : Int) ≤ x) : ¬ Dealt l := by
  intro hd
  have h1 : ∀ i : Nat, i < (flat l).length → cnt (i : Int) (flat l) = 1 := fun i hi => by
    rw [← timesN_flat]
    exact hd.2.2.1 i (by rw [partsN_flat]; exact hi)
  have := once_range h1 x hx
  rw [partsN_flat] at h
  omega
theorem not_dealt_twice {l : List ND} {P k : Nat} {F H R : List Int} {x : Nat} {y : Int} (h : HInv l P k F H) (hP : P = partsN l) (hxP : x < P) (hf : flat l = F ++ [(x : Int)] ++ R) (hy : H[x]? = some y) (hpos : 0 ≤ y) : ¬ Dealt l := by
  intro hd
  have h1 := hd.2.2.1 x (by omega)
  rw [timesN_flat, hf, cnt_append, cnt_snoc', if_pos rfl] at h1
  rcases h.2.2 x hxP with ⟨_, h3⟩ | ⟨h2, _⟩
  · rw [h3] at hy
    cases hy
    omega
  · omega
theorem hinv_end {l : List ND} {P k : Nat} {H : List Int} (h : HInv l P k (flat l) H) (hP : P = partsN l) (h1 : 1 ≤ P) (h64 : P ≤ 64) (hs : ∀ nd ∈ l, SortedL nd.f1) : Dealt l ∧ HomesOf l H := by
  subst hP
  obtain ⟨h2, h3, h4⟩ := h
  have hle : ∀ i : Nat, i < (flat l).length → cnt (i : Int) (flat l) ≤ 1 := fun i hi => by
    rcases h4 i (by rw [partsN_flat]; exact hi) with ⟨h, _⟩ | ⟨h, _⟩ <;> omega
  have hone := range_once (l := flat l) (fun x hx => by have := h3 x hx; rw [partsN_flat] at this; exact this) hle
  refine ⟨⟨h1, h64, fun i hi => ?_, fun nd hnd j a b ha hb => ?_⟩, h2, fun p hp => ?_⟩
  · rw [timesN_flat]
    exact hone i (by rw [← partsN_flat]; exact hi)
  · have hab := hs nd hnd j a b ha hb
    rcases Int.lt_or_eq_of_le hab with h5 | h5
    · exact h5
    · exfalso
      subst h5
      obtain ⟨k', hk1, hk2⟩ := List.getElem_of_mem hnd
      have hk : l[k']? = some nd := by rw [List.getElem?_eq_getElem hk1, hk2]
      obtain ⟨R, hR⟩ := flat_split l k' nd hk (j + 1) a hb
      have hin : a ∈ nd.f1.take (j + 1) := by
        obtain ⟨q1, q2⟩ := List.getElem?_eq_some_iff.1 ha
        rw [List.take_succ_eq_append_getElem q1, q2]
        simp
      have h6 : a ∈ flat l := by
        rw [hR]
        simp
      have h7 := h3 a h6
      obtain ⟨n, rfl⟩ := Int.eq_ofNat_of_zero_le h7.1
      have h8 := hone n (by rw [← partsN_flat]; omega)
      rw [hR, cnt_append, cnt_snoc', cnt_append, if_pos rfl] at h8
      have := cnt_pos.2 hin
      omega
  · rcases h4 p hp with ⟨h, _⟩ | ⟨_, i, _, h5, h6⟩
    · have := hone p (by rw [← partsN_flat]; exact hp)
      omega
    · refine ⟨i, h5, ?_, h6⟩
      obtain ⟨nd, h7, _⟩ := h6
      exact (List.getElem?_eq_some_iff.1 h7).1
/-- The cells of a row of numbers. -/
def intCells (H : List Int) : Array Value := (H.map (Value.int .i64)).toArray
theorem intCells_size (H : List Int) : (intCells H).size = H.length := by simp [intCells]
theorem intCells_one (H : List Int) : (intCells H).all (·.oneCell') = true := by
  unfold intCells
  rw [Array.all_eq_true_iff_forall_mem]
  intro v hv
  simp at hv
  obtain ⟨x, _, rfl⟩ := hv
  rfl
theorem intCells_get {H : List Int} {i : Nat} {x : Int} (h : H[i]? = some x) : (intCells H)[i]? = some (.int .i64 x) := by
  simp [intCells, h]
theorem intCells_set (H : List Int) (i : Nat) (x : Int) : (intCells H).setIfInBounds i (.int .i64 x) = intCells (H.set i x) := by
  unfold intCells
  rw [List.map_set]
  simp
theorem intCells_replicate (n : Nat) (x : Int) : Array.replicate n (Value.int .i64 x) = intCells (List.replicate n x) := by
  simp [intCells]
end Go.Proofs.YtkcpeanimmjajaaDoor.Ring
namespace Go.Proofs.YtkcpeanimmjajaaDoor.Ring
open Go.RowKit Go.Proofs.YtkcpeanimmjajaaDoorW.PrintWords Go.Proofs.YtkcpeanimmjajaaDoorW.PrintLast Go.Proofs.YtkcpeanimmjajaaDoorW.PrintMore Go.Proofs.YtkcpeanimmjajaaDoor.PRingWalks
set_option linter.unusedVariables false

set_option maxHeartbeats 400000 in
theorem within_calls (a b c : Int) (w : World) :
    Calls Tryd.prog 40 #[.int .i64 a, .int .i64 b, .int .i64 c] w fun e w' => e = .returned (.bool (decide (b ≤ a ∧ a ≤ c))) ∧ w' = w := by
  by_cases h : b ≤ a
  · have t : decide (b ≤ a) = true := by simpa using h
    go_enter Tryd.func40, Tryd.ntmps40
    go_wp2
    go_ret
    exact ⟨ret_bool (by first | (simp; done) | (simp; omega) | (simp [h]; done)), rfl⟩
  · have t : decide (b ≤ a) = false := by simpa using h
    go_enter Tryd.func40, Tryd.ntmps40
    go_wp2
    go_ret
    exact ⟨ret_bool (by first | (simp; done) | (simp; omega) | (simp [h]; done)), rfl⟩

/-- What homes hands back. -/
def HomesPost (c : Clu) (w : World) (e : Ending) (w' : World) : Prop :=
  (¬ Dealt c.nodes ∧ e = .returned (.tuple #[.slice none 0 0, .int .i64 66]) ∧ Below w.heap.size w w') ∨
  (Dealt c.nodes ∧ ∃ g H, e = .returned (.tuple #[.slice (some ⟨g, 0, none⟩) (partsN c.nodes) (partsN c.nodes), .int .i64 0]) ∧ HomesOf c.nodes H ∧ w.heap.size ≤ g ∧ w'.heap[g]? = some (.cells (intCells H) 3 (0, 0)) ∧ Below w.heap.size w w')

set_option maxHeartbeats 8000000 in
set_option maxRecDepth 100000 in
theorem homes_calls (c : Clu) (A : Option Addr) (cap : Nat) (w : World) (HR : Kd.C kN w A c.nodes.length c.nodes) (hok : c.ok) (hn : c.nodes.length ≤ 1024) :
    Calls Tryd.prog 67 #[.agg (c.cells A cap)] w (HomesPost c w) := by
  have HR' := Aside0.mk HR
  clear HR
  have hPb := partsN_take c hok hn c.nodes.length
  rw [List.take_of_length_le (Nat.le_refl _)] at hPb
  go_enter Tryd.func67, Tryd.ntmps67
  go_wp2_with (first | ((with_reducible refine gate_dst (N := 1) rfl ?_); refine new_event ?hg (N := 1) ?hd (c.cells A cap) 24 ?hr ?_; (case hd => rfl); (case hg => rfl); (case hr => first | (go_simp; done) | (go_simp; rfl)); intro gb w1 GE HX HB; have hc22 : w1.cell? ⟨gb, 22, none⟩ = some (.slice A c.nodes.length cap) := (blk_cell HX.out 22).trans rfl))
  clear hc22
  go_loopw [4, 16] (fun v i wr => ∃ k : Nat, k ≤ c.nodes.length ∧ i = .int .i64 k ∧ v = .int .i64 (partsN (c.nodes.take k)) ∧ Aside0 (wr.heap[gb]? = some (.cells (c.cells A cap) 24 (0, 0))) ∧ Aside0 (Below w.heap.size w wr)) (fun _ i _ => c.nodes.length - (intOf i).toNat)
  case atStart => exact ⟨0, Nat.zero_le _, rfl, rfl, HX, HB⟩
  case round =>
    clear HX HB
    obtain ⟨k, hk, rfl, rfl, HX, HB⟩ := hrel
    have hb := partsN_take c hok hn k
    by_cases hlt : k < c.nodes.length
    · obtain ⟨ad, A1, c1, nd, rfl, hnd, hz0, hz1, hl1, hC1⟩ := node_at (Kd.C_below HR'.out HB.out) k hlt
      have hb1 := partsN_take c hok hn (k + 1)
      have HS := Aside0.mk (partsN_snoc c.nodes k nd hnd)
      rw [HS.out] at hb1
      clear hnd hC1
      go_wp2_with (first | ((with_reducible refine gate_dst (N := 6) rfl ?_); refine new_event ?hg (N := 6) ?hd (#[.int .i64 0, .slice none 0 0]) 56 ?hr ?_; (case hd => rfl); (case hg => rfl); (case hr => first | (go_simp; done) | (go_simp; rfl)); intro gn w2 GN HXn HB2; clear hz0 hz1) | ((with_reducible refine gate_store (t := 56) (p := 6) (v := .tmp 19) rfl ?_); refine store_row_event rfl 56 (.tmp 6) (.tmp 19) rfl gn (#[.int .i64 nd.f0, .slice A1 nd.f1.length c1]) rfl rfl 56 _ HXn.out ?si rfl ?so ?_; (case si => kernel_rfl); (case so => (first | exact Clu.cells_all _ _ _ | exact intCells_one _ | rfl | simp [Value.oneCell'])); intro w3 HXn3 HG3; have hs1 : w3.cell? ⟨gn, 1, none⟩ = some (.slice A1 nd.f1.length c1) := (blk_cell HXn3.out 1).trans rfl))
      have HBx := Aside0.mk (below_row (below_step HB.out HB2.out) (Nat.le_trans HB.out.size GN.out) HG3.out)
      have HXx := Aside0.mk (blk_grown (blk_below HX.out HB2.out) HG3.out (fun e => by cases e; have := blk_lt HX.out; have := GN.out; omega))
      clear hs1
      go_roundw
      case rel => exact ⟨k + 1, by omega, by go_num, by rw [HS.out]; go_num, HXx, HBx⟩
      case measure => simp [intOf]; omega
    · have hPk : partsN (c.nodes.take k) = partsN c.nodes := by rw [List.take_of_length_le (by omega)]
      rw [hPk]
      have HPk := Aside0.mk hPk
      clear hPk
      go_wp2_with fail
      refine (within_calls _ _ _ _).mono ?_
      rintro e w' ⟨rfl, rfl⟩
      by_cases hr : 1 ≤ partsN c.nodes ∧ partsN c.nodes ≤ 64
      · obtain ⟨hr1, hr2⟩ := hr
        have t1 : decide ((1 : Int) ≤ (partsN c.nodes : Int) ∧ (partsN c.nodes : Int) ≤ 64) = true := by simp; omega
        rw [t1]
        go_wp2_with (first | ((with_reducible refine gate_dst (N := 30) rfl ?_); refine make_event rfl 36 3 (.tmp 29) (.tmp 29) rfl (partsN c.nodes) rfl rfl Tryd.underlying36 (.int .i64 0) 8 info3 rfl (by omega) (by omega) ?_; intro gh w5 GEh HXh HBh))
        have HX5 := Aside0.mk (blk_below HX.out HBh.out)
        have HB5 := Aside0.mk (below_step HB.out HBh.out)
        have GEh' := Aside0.mk (Nat.le_trans HB.out.size GEh.out)
        have hne := Aside0.mk (Nat.ne_of_lt (Nat.lt_of_lt_of_le (blk_lt HX.out) GEh.out))
        rw [intCells_replicate] at HXh
        clear HX HB HBh
        go_loopw [33] (fun v wr => ∃ (k : Nat) (H : List Int), k ≤ partsN c.nodes ∧ v = .int .i64 k ∧ Aside0 (H.length = partsN c.nodes ∧ ∀ j : Nat, j < k → H[j]? = some (-1)) ∧ Aside0 (wr.heap[gh]? = some (.cells (intCells H) 3 (0, 0))) ∧ Aside0 (wr.heap[gb]? = some (.cells (c.cells A cap) 24 (0, 0))) ∧ Aside0 (Below w.heap.size w wr)) (fun v _ => partsN c.nodes - (intOf v).toNat)
        case atStart => exact ⟨0, _, Nat.zero_le _, rfl, ⟨by simp, fun j hj => by omega⟩, HXh, HX5, HB5⟩
        case round =>
          clear HXh HX5 HB5
          obtain ⟨k, H, hk, rfl, HH, HXh, HX, HB⟩ := hrel
          by_cases hlt : k < partsN c.nodes
          · have hz := (blk_cell HXh.out k).trans (intCells_get (List.getElem?_eq_getElem (l := H) (by have := HH.out.1; omega)))
            have hf := blk_frozen HXh.out k
            go_wp2_with (first | ((with_reducible refine gate_store (t := 3) (p := 38) (v := .const (.int .i64 (-1))) rfl ?_); refine store_cell_event rfl 3 38 (.const (.int .i64 (-1))) rfl rfl gh k (.int .i64 (-1)) 3 (intCells H) HXh.out ?hr ?_; (case hr => first | (go_simp; done) | (go_simp; rfl)); intro w6 HX6 HG6; clear hz hf))
            rw [intCells_set] at HX6
            have HXx := Aside0.mk (blk_grown HX.out HG6.out (fun e => by cases e; exact hne.out rfl))
            have HBx := Aside0.mk (below_row HB.out GEh'.out HG6.out)
            go_roundw
            case rel =>
              refine ⟨k + 1, H.set k (-1), by omega, by go_num, ⟨by rw [List.length_set]; exact HH.out.1, fun j hj => ?_⟩, HX6, HXx, HBx⟩
              rcases Nat.lt_succ_iff_lt_or_eq.1 hj with h1 | h1
              · rw [List.getElem?_set_ne (by omega)]; exact HH.out.2 j h1
              · subst h1; rw [List.getElem?_set_self (by have := HH.out.1; omega)]
            case measure => simp [intOf]; omega
          · have HI := Aside0.mk (hinv_start c.nodes HH.out.1 (fun j hj => HH.out.2 j (by omega)))
            have hc22 : wr.cell? ⟨gb, 22, none⟩ = some (.slice A c.nodes.length cap) := (blk_cell HX.out 22).trans rfl
            go_wp2_with fail
            clear hc22 HH
            go_loopw [43] (fun v wr => ∃ (k : Nat) (H : List Int), k ≤ c.nodes.length ∧ v = .int .i64 k ∧ Aside0 (HInv c.nodes (partsN c.nodes) k (flat (c.nodes.take k)) H) ∧ Aside0 (∀ nd ∈ c.nodes.take k, SortedL nd.f1) ∧ Aside0 (wr.heap[gh]? = some (.cells (intCells H) 3 (0, 0))) ∧ Aside0 (wr.heap[gb]? = some (.cells (c.cells A cap) 24 (0, 0))) ∧ Aside0 (Below w.heap.size w wr)) (fun v _ => c.nodes.length - (intOf v).toNat)
            case atStart => exact ⟨0, H, Nat.zero_le _, rfl, ⟨by simpa [flat] using HI.out⟩, ⟨fun nd h => by simp at h⟩, HXh, HX, HB⟩
            case round =>
              clear HI HXh HX HB hlt hk
              obtain ⟨k, H, hk, rfl, HI, HS, HXh, HX, HB⟩ := hrel
              by_cases hlt : k < c.nodes.length
              · obtain ⟨ad, A1, c1, nd, rfl, hnd, hz0w, hz1w, hl1, hC1⟩ := node_at HR'.out k hlt
                have hz0 := pw_cell_below HB.out hz0w
                have hz1 := pw_cell_below HB.out hz1w
                have hnl := hok.2.2 nd (List.mem_of_getElem? hnd)
                have HM := Aside0.mk (List.mem_of_getElem? hnd)
                have HN := Aside0.mk hnd
                have HTk : Aside0 (c.nodes.take (k + 1) = c.nodes.take k ++ [nd]) := ⟨by
                  obtain ⟨h1, h2⟩ := List.getElem?_eq_some_iff.1 hnd
                  rw [List.take_succ_eq_append_getElem h1, h2]⟩
                have HC1 := Aside0.mk hC1
                clear hnd hC1 hz0w hz1w
                go_wp2_with (first | ((with_reducible refine gate_dst (N := 10) rfl ?_); refine new_event ?hg (N := 10) ?hd (#[.int .i64 0, .slice none 0 0]) 56 ?hr ?_; (case hd => rfl); (case hg => rfl); (case hr => first | (go_simp; done) | (go_simp; rfl)); intro gn w7 GN HXn HB7; clear hz0 hz1) | ((with_reducible refine gate_store (t := 56) (p := 10) (v := .tmp 47) rfl ?_); refine store_row_event rfl 56 (.tmp 10) (.tmp 47) rfl gn (#[.int .i64 nd.f0, .slice A1 nd.f1.length c1]) rfl rfl 56 _ HXn.out ?si rfl ?so ?_; (case si => kernel_rfl); (case so => (first | exact Clu.cells_all _ _ _ | exact intCells_one _ | rfl | simp [Value.oneCell'])); intro w8 HXn8 HG8; have hs1 : w8.cell? ⟨gn, 1, none⟩ = some (.slice A1 nd.f1.length c1) := (blk_cell HXn8.out 1).trans rfl))
                have HB8 := Aside0.mk (below_row (below_step HB.out HB7.out) (Nat.le_trans HB.out.size GN.out) HG8.out)
                have HX8 := Aside0.mk (blk_grown (blk_below HX.out HB7.out) HG8.out (fun e => by cases e; have := blk_lt HX.out; have := GN.out; omega))
                have HXh8 := Aside0.mk (blk_grown (blk_below HXh.out HB7.out) HG8.out (fun e => by cases e; have := blk_lt HXh.out; have := GN.out; omega))
                clear hs1 HX HXh HB
                obtain ⟨b, hb, hcalls⟩ := sorted_calls A1 c1 nd.f1 w8 (Kd.C_below HC1.out HB8.out) hl1
                refine hcalls.mono ?_
                rintro e w' ⟨rfl, ⟨nq, rfl⟩⟩
                clear hcalls
                have HB9 := Aside0.mk (pw_below_drewN HB8.out nq)
                have HX9 := Aside0.mk (blk_drewN HX8.out nq)
                have HXh9 := Aside0.mk (blk_drewN HXh8.out nq)
                have HXn9 := Aside0.mk (blk_drewN HXn8.out nq)
                clear HB8 HX8 HXh8 HXn8 HXn HB7 HG8
                generalize w8.drewN nq = w9 at *
                have hs1 : w9.cell? ⟨gn, 1, none⟩ = some (.slice A1 nd.f1.length c1) := (blk_cell HXn9.out 1).trans rfl
                cases b with
                | false =>
                  have hf : Aside0 (¬ Dealt c.nodes) := ⟨fun h => absurd (hb.2 (h.2.2.2 nd HM.out).sorted) (by simp)⟩
                  clear hb
                  go_wp2_with fail
                  go_ret2
                  exact .inl ⟨hf.out, rfl, HB9.out⟩
                | true =>
                  have HSo := Aside0.mk (hb.1 rfl)
                  clear hb
                  go_wp2_with fail
                  clear hs1 HXn9
                  go_loopw [55] (fun v wr => ∃ (j : Nat) (H : List Int), j ≤ nd.f1.length ∧ v = .int .i64 j ∧ Aside0 (HInv c.nodes (partsN c.nodes) k (flat (c.nodes.take k) ++ nd.f1.take j) H) ∧ Aside0 (wr.heap[gh]? = some (.cells (intCells H) 3 (0, 0))) ∧ Aside0 (wr.heap[gb]? = some (.cells (c.cells (some ad) cap) 24 (0, 0))) ∧ Aside0 (Below w.heap.size w wr)) (fun v _ => nd.f1.length - (intOf v).toNat)
                  case atStart => exact ⟨0, H, Nat.zero_le _, rfl, ⟨by simpa using HI.out⟩, HXh9, HX9, HB9⟩
                  case round =>
                    clear HI HXh9 HX9 HB9
                    obtain ⟨j, H, hj, rfl, HI, HXh, HX, HB⟩ := hrel
                    by_cases hjt : j < nd.f1.length
                    · obtain ⟨ad2, x, rfl, hx, hzx⟩ := int_at (Kd.C_below HC1.out HB.out) j hjt
                      obtain ⟨R, hR⟩ := flat_split c.nodes k nd HN.out j x hx
                      have HR2 := Aside0.mk hR
                      have Hx := Aside0.mk hx
                      have Hmem : Aside0 (x ∈ flat c.nodes) := ⟨by rw [hR]; simp⟩
                      have Hmem2 := Aside0.mk (List.mem_of_getElem? hx)
                      have HTj : Aside0 (nd.f1.take (j + 1) = nd.f1.take j ++ [x]) := ⟨by
                        obtain ⟨h1, h2⟩ := List.getElem?_eq_some_iff.1 hx
                        rw [List.take_succ_eq_append_getElem h1, h2]⟩
                      clear hR hx
                      by_cases hx0 : x < 0
                      · have hf : Aside0 (¬ Dealt c.nodes) := ⟨not_dealt_out Hmem.out (.inl hx0)⟩
                        have t2 : decide (x < 0) = true := by simpa using hx0
                        go_wp2_with fail
                        go_ret2
                        exact .inl ⟨hf.out, rfl, HB.out⟩
                      · have t2 : decide (x < 0) = false := by simpa using hx0
                        by_cases hxP : (partsN c.nodes : Int) ≤ x
                        · have hf : Aside0 (¬ Dealt c.nodes) := ⟨not_dealt_out Hmem.out (.inr hxP)⟩
                          have t3 : decide ((partsN c.nodes : Int) ≤ x) = true := by simpa using hxP
                          go_wp2_with fail
                          go_ret2
                          exact .inl ⟨hf.out, rfl, HB.out⟩
                        · obtain ⟨m, rfl⟩ := Int.eq_ofNat_of_zero_le (Int.not_lt.1 hx0)
                          have hm : m < partsN c.nodes := by omega
                          have t3 : decide ((partsN c.nodes : Int) ≤ (m : Int)) = false := by simp; omega
                          have hlen := HI.out.1
                          obtain ⟨y, hy⟩ : ∃ y, H[m]? = some y := ⟨_, List.getElem?_eq_getElem (by omega)⟩
                          clear hlen
                          have hz := (blk_cell HXh.out m).trans (intCells_get hy)
                          have Hy := Aside0.mk hy
                          clear hy hx0 hxP
                          by_cases hy0 : 0 ≤ y
                          · have hf : Aside0 (¬ Dealt c.nodes) := ⟨not_dealt_twice HI.out rfl hm HR2.out Hy.out hy0⟩
                            have t4 : decide (0 ≤ y) = true := by simpa using hy0
                            go_wp2_with fail
                            go_ret2
                            exact .inl ⟨hf.out, rfl, HB.out⟩
                          · have t4 : decide (0 ≤ y) = false := by simpa using hy0
                            have hfz := blk_frozen HXh.out m
                            go_wp2_with (first | ((with_reducible refine gate_store (t := 3) (p := 76) (v := .tmp 75) rfl ?_); refine store_cell_event rfl 3 76 (.tmp 75) rfl rfl gh m (.int .i64 k) 3 (intCells H) HXh.out ?hr ?_; (case hr => first | (go_simp; done) | (go_simp; rfl)); intro w10 HX10 HG10; clear hz hfz hzx))
                            rw [intCells_set] at HX10
                            have HXx := Aside0.mk (blk_grown HX.out HG10.out (fun e => by cases e; exact hne.out rfl))
                            have HBx := Aside0.mk (below_row HB.out GEh'.out HG10.out)
                            go_roundw
                            case rel =>
                              refine ⟨j + 1, _, by omega, by go_num, ⟨?_⟩, HX10, HXx, HBx⟩
                              rw [HTj.out, ← List.append_assoc]
                              exact hinv_next HI.out HN.out Hmem2.out hm Hy.out (by omega)
                            case measure => simp [intOf]; omega
                    · have HTj : Aside0 (nd.f1.take j = nd.f1) := ⟨List.take_of_length_le (by omega)⟩
                      go_wp2_with fail
                      go_roundw
                      case rel =>
                        refine ⟨k + 1, H, by omega, by go_num, ⟨?_⟩, ⟨fun q hq => ?_⟩, HXh, HX, HB⟩
                        · have h1 := hinv_more HI.out
                          rw [HTj.out] at h1
                          rw [HTk.out]
                          simpa [flat] using h1
                        · rw [HTk.out, List.mem_append] at hq
                          rcases hq with hq | hq
                          · exact HS.out q hq
                          · rw [List.mem_singleton.1 hq]
                            exact HSo.out
                      case measure => simp [intOf]; omega
              · have hfl : c.nodes.take k = c.nodes := List.take_of_length_le (by omega)
                have HI' := HI.out
                have HS' := HS.out
                rw [hfl] at HI' HS'
                have HE := Aside0.mk (hinv_end HI' rfl hr1 hr2 HS')
                have HH := Aside0.mk HI'.1
                clear HI' HS' hfl
                go_wp2_with fail
                go_ret2
                exact .inr ⟨HE.out.1, gh, H, rfl, HE.out.2, GEh'.out, HXh.out, HB.out⟩
      · have t1 : decide ((1 : Int) ≤ (partsN c.nodes : Int) ∧ (partsN c.nodes : Int) ≤ 64) = false := by simp; omega
        rw [t1]
        go_wp2_with fail
        go_ret2
        exact .inl ⟨fun h => hr ⟨h.1, h.2.1⟩, rfl, HB.out⟩
end Go.Proofs.YtkcpeanimmjajaaDoor.Ring
