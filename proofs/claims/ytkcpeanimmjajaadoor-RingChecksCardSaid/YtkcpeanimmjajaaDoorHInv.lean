import Derived.Test.YtkcpeanimmjajaaDoorSorted
namespace Go.Proofs.YtkcpeanimmjajaaDoor.Ring
open Go.Proofs.YtkcpeanimmjajaaDoor.PRingWalks
/-! Plain: what the homes' list says while it is filled. F: the partitions that have been met. -/
def HInv (l : List ND) (P k : Nat) (F H : List Int) : Prop :=
  H.length = P ∧ (∀ x ∈ F, 0 ≤ x ∧ x < (P : Int)) ∧ ∀ q : Nat, q < P → (cnt (q : Int) F = 0 ∧ H[q]? = some (-1)) ∨ (cnt (q : Int) F = 1 ∧ ∃ i : Nat, i ≤ k ∧ H[q]? = some (i : Int) ∧ HomeAt l q i)
theorem hinv_start (l : List ND) {P : Nat} {H : List Int} (h : H.length = P) (hm : ∀ j : Nat, j < P → H[j]? = some (-1)) : HInv l P 0 [] H :=
  ⟨h, fun x hx => by simp at hx, fun q hq => .inl ⟨rfl, hm q hq⟩⟩
theorem hinv_more {l : List ND} {P k : Nat} {F H : List Int} (h : HInv l P k F H) : HInv l P (k + 1) F H :=
  ⟨h.1, h.2.1, fun q hq => (h.2.2 q hq).imp id (fun ⟨h1, i, h2, h3⟩ => ⟨h1, i, by omega, h3⟩)⟩
theorem cnt_snoc' (p : Int) (F : List Int) (x : Int) : cnt p (F ++ [x]) = cnt p F + if x = p then 1 else 0 := by
  rw [cnt_append, cnt_cons, cnt_nil]
  omega
theorem hinv_next {l : List ND} {P k : Nat} {F H : List Int} {nd : ND} {x : Nat} (h : HInv l P k F H) (hk : l[k]? = some nd) (hx : (x : Int) ∈ nd.f1) (hxP : x < P) {y : Int} (hy : H[x]? = some y) (hneg : y < 0) : HInv l P k (F ++ [(x : Int)]) (H.set x (k : Int)) := by
  obtain ⟨h1, h2, h3⟩ := h
  refine ⟨by rw [List.length_set]; exact h1, ?_, fun q hq => ?_⟩
  · intro z hz
    rcases List.mem_append.1 hz with hz | hz
    · exact h2 z hz
    · rw [List.mem_singleton.1 hz]; omega
  · rw [cnt_snoc']
    by_cases e : (x : Int) = (q : Int)
    · have e' : x = q := by omega
      subst e'
      right
      rcases h3 x hq with ⟨h4, _⟩ | ⟨_, i, _, h5, _⟩
      · refine ⟨by rw [h4, if_pos rfl], k, Nat.le_refl _, ?_, nd, hk, hx⟩
        rw [List.getElem?_set_self (by omega)]
      · rw [h5] at hy
        cases hy
        omega
    · have e' : x ≠ q := fun e2 => e (by rw [e2])
      rw [if_neg e, Nat.add_zero, List.getElem?_set_ne e']
      exact h3 q hq
theorem flat_split (l : List ND) (k : Nat) (nd : ND) (h : l[k]? = some nd) (j : Nat) (x : Int) (hx : nd.f1[j]? = some x) : ∃ R, flat l = (flat (l.take k) ++ nd.f1.take j) ++ [x] ++ R := by
  obtain ⟨h1, h2⟩ := List.getElem?_eq_some_iff.1 h
  obtain ⟨h3, h4⟩ := List.getElem?_eq_some_iff.1 hx
  refine ⟨nd.f1.drop (j + 1) ++ flat (l.drop (k + 1)), ?_⟩
  have e1 : l = l.take k ++ nd :: l.drop (k + 1) := by
    rw [← h2, List.getElem_cons_drop]
    exact (List.take_append_drop k l).symm
  have e2 : nd.f1 = nd.f1.take j ++ x :: nd.f1.drop (j + 1) := by
    rw [← h4, List.getElem_cons_drop]
    exact (List.take_append_drop j nd.f1).symm
  have e3 : flat l = flat (l.take k) ++ (nd.f1 ++ flat (l.drop (k + 1))) := by
    conv => lhs; rw [e1]
    unfold flat
    rw [List.flatMap_append, List.flatMap_cons]
  rw [e3]
  conv => lhs; rw [e2]
  simp [List.append_assoc]
theorem not_dealt_out {l : List ND} {x : Int} (hx : x ∈ flat l) (h : x < 0 ∨ (partsN l : Int) ≤ x) : ¬ Dealt l := by
  intro hd
  have h1 : ∀ i : Nat, i < (flat l).length → cnt (i : Int) (flat l) = 1 := fun i hi => by
    rw [← timesN_flat]
    exact hd.2.2.1 i (by rw [partsN_flat]; exact hi)
  have := once_range h1 x hx
  rw [partsN_flat] at h
  omega
theorem not_dealt_twice {l : List ND} {P k : Nat} {F H R : List Int} {x : Nat} {y : Int} (h : HInv l P k F H) (hP : P = partsN l) (hxP : x < P) (hf : flat l = F ++ [(x : Int)] ++ R) (hy : H[x]? = some y) (hpos : 0 ≤ y) : ¬ Dealt l := by
  intro hd
  have h1 := hd.2.2.1 x (by omega)
  rw [timesN_flat, hf, cnt_append, cnt_snoc', if_pos rfl] at h1
  rcases h.2.2 x hxP with ⟨_, h3⟩ | ⟨h2, _⟩
  · rw [h3] at hy
    cases hy
    omega
  · omega
theorem hinv_end {l : List ND} {P k : Nat} {H : List Int} (h : HInv l P k (flat l) H) (hP : P = partsN l) (h1 : 1 ≤ P) (h64 : P ≤ 64) (hs : ∀ nd ∈ l, SortedL nd.f1) : Dealt l ∧ HomesOf l H := by
  subst hP
  obtain ⟨h2, h3, h4⟩ := h
  have hle : ∀ i : Nat, i < (flat l).length → cnt (i : Int) (flat l) ≤ 1 := fun i hi => by
    rcases h4 i (by rw [partsN_flat]; exact hi) with ⟨h, _⟩ | ⟨h, _⟩ <;> omega
  have hone := range_once (l := flat l) (fun x hx => by have := h3 x hx; rw [partsN_flat] at this; exact this) hle
  refine ⟨⟨h1, h64, fun i hi => ?_, fun nd hnd j a b ha hb => ?_⟩, h2, fun p hp => ?_⟩
  · rw [timesN_flat]
    exact hone i (by rw [← partsN_flat]; exact hi)
  · have hab := hs nd hnd j a b ha hb
    rcases Int.lt_or_eq_of_le hab with h5 | h5
    · exact h5
    · exfalso
      subst h5
      obtain ⟨k', hk1, hk2⟩ := List.getElem_of_mem hnd
      have hk : l[k']? = some nd := by rw [List.getElem?_eq_getElem hk1, hk2]
      obtain ⟨R, hR⟩ := flat_split l k' nd hk (j + 1) a hb
      have hin : a ∈ nd.f1.take (j + 1) := by
        obtain ⟨q1, q2⟩ := List.getElem?_eq_some_iff.1 ha
        rw [List.take_succ_eq_append_getElem q1, q2]
        simp
      have h6 : a ∈ flat l := by
        rw [hR]
        simp
      have h7 := h3 a h6
      obtain ⟨n, rfl⟩ := Int.eq_ofNat_of_zero_le h7.1
      have h8 := hone n (by rw [← partsN_flat]; omega)
      rw [hR, cnt_append, cnt_snoc', cnt_append, if_pos rfl] at h8
      have := cnt_pos.2 hin
      omega
  · rcases h4 p hp with ⟨h, _⟩ | ⟨_, i, _, h5, h6⟩
    · have := hone p (by rw [← partsN_flat]; exact hp)
      omega
    · refine ⟨i, h5, ?_, h6⟩
      obtain ⟨nd, h7, _⟩ := h6
      exact (List.getElem?_eq_some_iff.1 h7).1
/-- The cells of a row of numbers. -/
def intCells (H : List Int) : Array Value := (H.map (Value.int .i64)).toArray
theorem intCells_size (H : List Int) : (intCells H).size = H.length := by simp [intCells]
theorem intCells_one (H : List Int) : (intCells H).all (·.oneCell') = true := by
  unfold intCells
  rw [Array.all_eq_true_iff_forall_mem]
  intro v hv
  simp at hv
  obtain ⟨x, _, rfl⟩ := hv
  rfl
theorem intCells_get {H : List Int} {i : Nat} {x : Int} (h : H[i]? = some x) : (intCells H)[i]? = some (.int .i64 x) := by
  simp [intCells, h]
theorem intCells_set (H : List Int) (i : Nat) (x : Int) : (intCells H).setIfInBounds i (.int .i64 x) = intCells (H.set i x) := by
  unfold intCells
  rw [List.map_set]
  simp
theorem intCells_replicate (n : Nat) (x : Int) : Array.replicate n (Value.int .i64 x) = intCells (List.replicate n x) := by
  simp [intCells]
end Go.Proofs.YtkcpeanimmjajaaDoor.Ring
