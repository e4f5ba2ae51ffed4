import Derived.Test.YtkcpeanimmjajaaDoorRset
import Derived.Test.YtkcpeanimmjajaaDoorPRingWalksx3
namespace Go.Proofs.YtkcpeanimmjajaaDoor.Ring
open Go.RowKit Go.Proofs.YtkcpeanimmjajaaDoorW.PrintWords Go.Proofs.YtkcpeanimmjajaaDoorW.PrintLast Go.Proofs.YtkcpeanimmjajaaDoorW.PrintMore Go.Proofs.YtkcpeanimmjajaaDoor.PRingWalks
set_option linter.unusedVariables false
set_option linter.unusedSimpArgs false

def Nb (b : Int) : Prop := (97 ≤ b ∧ b ≤ 122) ∨ (48 ≤ b ∧ b ≤ 57) ∨ b = 45
instance (b : Int) : Decidable (Nb b) := by unfold Nb; infer_instance
theorem named_round (k : Nat) (s : ByteArray) (i : Nat) (h : i < s.size) (hs : s.size ≤ 140737488351232) :
    granaryref6_named.l0 (k + 1) s (i : Int) = if Nb (bt s i) then granaryref6_named.l0 k s ((i + 1 : Nat) : Int) else some false := by
  have hw : wrap64 ((i : Int) + 1) = ((i + 1 : Nat) : Int) := by unfold wrap64; omega
  simp only [granaryref6_named.l0]
  rw [if_pos (by omega), if_pos (by omega), hw]
  unfold Nb
  by_cases a1 : 97 ≤ bt s i <;> by_cases a2 : bt s i ≤ 122 <;> by_cases a3 : 48 ≤ bt s i <;> by_cases a4 : bt s i ≤ 57 <;> by_cases a5 : bt s i = 45 <;> simp [a1, a2, a3, a4, a5]
theorem named_l0 (s : ByteArray) (hs : s.size ≤ 140737488351232) (d : Nat) : ∀ k i : Nat, i + d = s.size → d < k → ∃ b, granaryref6_named.l0 k s (i : Int) = some b ∧ (b = true ↔ ∀ j, i ≤ j → j < s.size → Nb (bt s j)) := by
  induction d with
  | zero =>
    intro k i hi hk
    obtain ⟨k, rfl⟩ : ∃ m, k = m + 1 := ⟨k - 1, by omega⟩
    refine ⟨true, ?_, ?_⟩
    · simp only [granaryref6_named.l0]
      rw [if_neg (by omega)]
    · simp only [true_iff]
      intro j h1 h2
      omega
  | succ d ih =>
    intro k i hi hk
    obtain ⟨k, rfl⟩ : ∃ m, k = m + 1 := ⟨k - 1, by omega⟩
    rw [named_round k s i (by omega) hs]
    by_cases h : Nb (bt s i)
    · rw [if_pos h]
      obtain ⟨b, hb, hb2⟩ := ih k (i + 1) (by omega) (by omega)
      refine ⟨b, hb, hb2.trans ⟨fun hall j h1 h2 => ?_, fun hall j h1 h2 => hall j (by omega) h2⟩⟩
      rcases Nat.eq_or_lt_of_le h1 with h3 | h3
      · subst h3; exact h
      · exact hall j h3 h2
    · rw [if_neg h]
      refine ⟨false, rfl, ?_⟩
      constructor
      · intro e; cases e
      · intro hall; exact absurd (hall i (Nat.le_refl _) (by omega)) h
theorem toList_nil (s : ByteArray) : s.toList = ([] : List UInt8) ↔ s.size = 0 := by
  rw [← List.length_eq_zero_iff]
  have : s.toList.length = s.size := by
    rw [_root_.Go.ByteArray.toList_eq]
    rfl
  rw [this]
theorem named_f (s : ByteArray) (hs : s.size ≤ 140737488351232) : ∃ k, granaryref6_named.f k s = some (nameB s) := by
  refine ⟨s.size + 2, ?_⟩
  have hj : ∀ b, granaryref6_named.j0 (s.size + 2) s b = if b = true then some false else granaryref6_named.l0 (s.size + 1) s 0 := fun b => by simp only [granaryref6_named.j0]
  unfold granaryref6_named.f
  by_cases h0 : s.size = 0
  · rw [if_pos ((toList_nil s).2 h0), hj, if_pos rfl, nameB_size s (by omega)]
  rw [if_neg (fun h => h0 ((toList_nil s).1 h))]
  by_cases h40 : (40 : Int) < s.size
  · rw [if_pos h40, hj, if_pos rfl, nameB_size s (by omega)]
  rw [if_neg h40, if_pos (by omega)]
  obtain ⟨b, hb, hb2⟩ := named_l0 s hs s.size (s.size + 1) 0 (by omega) (by omega)
  have h00 : ((0 : Nat) : Int) = 0 := rfl
  rw [h00] at hb
  by_cases hl : bt s 0 < 97
  · rw [if_pos hl, hj, if_pos rfl, nameB_no s 0 (by omega) ((okb_no _ _).2 (by simp; omega))]
  rw [if_neg hl, hj]
  by_cases hh : 122 < bt s 0
  · rw [if_pos (by simpa using hh), nameB_no s 0 (by omega) ((okb_no _ _).2 (by simp; omega))]
  rw [if_neg (by simpa using hh), hb]
  cases b with
  | true =>
    have hall := hb2.1 rfl
    rw [nameB_yes s (by omega) (by omega) (fun j hj => (okb_yes _ _).2 ?_)]
    have h1 := hall j (by omega) hj
    unfold Nb at h1
    by_cases hj0 : j = 0
    · subst hj0
      left
      rw [h00]
      omega
    · omega
  | false =>
    have hno : ¬ ∀ j, 0 ≤ j → j < s.size → Nb (bt s j) := fun h => by have := hb2.2 h; cases this
    have : ∃ j, j < s.size ∧ ¬ Nb (bt s j) := by
      apply Classical.byContradiction
      intro hn
      exact hno (fun j _ hj => Classical.byContradiction (fun h => hn ⟨j, hj, h⟩))
    obtain ⟨j, hj2, hn⟩ := this
    rw [nameB_no s j hj2 ((okb_no _ _).2 ?_)]
    unfold Nb at hn
    omega
theorem named_calls (s : ByteArray) (w : World) (hs : s.size ≤ 140737488351232) :
    Calls Tryd.prog 36 #[.string s] w fun e w' => e = .returned (.bool (nameB s)) ∧ Below w.heap.size w w' := by
  obtain ⟨k, hk⟩ := named_f s hs
  exact (granaryref6_named.calls k s (nameB s) w hk).mono fun e w' ⟨h1, h2⟩ => ⟨h1, by obtain ⟨n, rfl⟩ := h2.out; exact pw_below_drewN (Below.refl _ _) n⟩
end Go.Proofs.YtkcpeanimmjajaaDoor.Ring
