import Derived.Test.YtkcpeanimmjajaaDoorFlat
import Derived.Test.YtkcpeanimmjajaaDoorPRingWalksx1
namespace Go.Proofs.YtkcpeanimmjajaaDoor.Ring
open Go.RowKit Go.Proofs.YtkcpeanimmjajaaDoorW.PrintWords Go.Proofs.YtkcpeanimmjajaaDoorW.PrintLast Go.Proofs.YtkcpeanimmjajaaDoorW.PrintMore Go.Proofs.YtkcpeanimmjajaaDoor.PRingWalks
set_option linter.unusedVariables false

def SortedL (l : List Int) : Prop := ∀ j a b, l[j]? = some a → l[j + 1]? = some b → a ≤ b
theorem rd_nat (l : List Int) (j : Nat) (h : j < l.length) : l[j]? = some (rd l (j : Int)) := by
  unfold rd
  rw [Int.toNat_natCast, List.getD_eq_getElem?_getD, List.getElem?_eq_getElem h]
  rfl
theorem less_f (a b : Int) : cmp_Less_int.f a b = some (decide (a < b)) := by
  unfold cmp_Less_int.f cmp_isNaN_int.f
  simp
theorem sorted_l0 (l : List Int) (hl : l.length ≤ 9223372036854775807) (d : Nat) : ∀ k, d < k → d < l.length → ∃ b, slices_IsSorted_int_int.l0 k l (d : Int) = some b ∧ (b = true ↔ ∀ j a c, j < d → l[j]? = some a → l[j + 1]? = some c → a ≤ c) := by
  induction d with
  | zero =>
    intro k hk hd
    obtain ⟨k, rfl⟩ : ∃ m, k = m + 1 := ⟨k - 1, by omega⟩
    refine ⟨true, ?_, by simp⟩
    simp only [slices_IsSorted_int_int.l0]
    rw [if_neg (by omega)]
  | succ d ih =>
    intro k hk hd
    obtain ⟨k, rfl⟩ : ∃ m, k = m + 1 := ⟨k - 1, by omega⟩
    have hw : wrap64 (((d + 1 : Nat) : Int) - 1) = (d : Int) := by unfold wrap64; omega
    simp only [slices_IsSorted_int_int.l0]
    rw [hw, if_pos (by omega), if_pos (by omega), if_pos (by omega), if_pos (by omega), if_pos (by omega), less_f]
    simp only [Option.bind_some]
    have h1 := rd_nat l d (by omega)
    have h2 := rd_nat l (d + 1) hd
    by_cases h : rd l ((d + 1 : Nat) : Int) < rd l (d : Int)
    · refine ⟨false, by rw [if_pos (by simpa using h)], ?_⟩
      constructor
      · intro e; cases e
      · intro hall
        have := hall d _ _ (by omega) h1 h2
        omega
    · rw [if_neg (by simpa using h)]
      obtain ⟨b, hb, hb2⟩ := ih k (by omega) (by omega)
      refine ⟨b, hb, hb2.trans ⟨fun hall j a c hj ha hc => ?_, fun hall j a c hj ha hc => hall j a c (by omega) ha hc⟩⟩
      rcases Nat.lt_succ_iff_lt_or_eq.1 hj with h3 | h3
      · exact hall j a c h3 ha hc
      · subst h3
        rw [h1] at ha
        rw [h2] at hc
        cases ha
        cases hc
        omega
theorem sorted_f (l : List Int) (hl : l.length ≤ 9223372036854775807) : ∃ k b, sort_IntsAreSorted.f k l = some b ∧ (b = true ↔ SortedL l) := by
  rcases Nat.eq_zero_or_pos l.length with h0 | h0
  · have hn : l = [] := List.eq_nil_of_length_eq_zero h0
    subst hn
    refine ⟨1, true, ?_, by simp [SortedL]⟩
    unfold sort_IntsAreSorted.f slices_IsSorted_int_int.f
    simp only [slices_IsSorted_int_int.l0]
    rw [if_neg (by unfold wrap64; simp)]
    rfl
  · obtain ⟨b, hb, hb2⟩ := sorted_l0 l hl (l.length - 1) l.length (by omega) (by omega)
    refine ⟨l.length, b, ?_, hb2.trans ⟨fun hall j a c ha hc => hall j a c ?_ ha hc, fun hall j a c _ ha hc => hall j a c ha hc⟩⟩
    · unfold sort_IntsAreSorted.f slices_IsSorted_int_int.f
      have hw : wrap64 ((l.length : Int) - 1) = ((l.length - 1 : Nat) : Int) := by unfold wrap64; omega
      rw [hw, hb]
      rfl
    · have := (List.getElem?_eq_some_iff.1 hc).1
      omega
theorem sorted_calls (A : Option Addr) (cap : Nat) (l : List Int) (w : World) (hr : (Kd.int .i64).C w A l.length l) (hc : l.length ≤ cap) :
    ∃ b, (b = true ↔ SortedL l) ∧ Calls Tryd.prog 105 #[.slice A l.length cap] w fun e w' => e = .returned (.bool b) ∧ Drawn0 w w' := by
  obtain ⟨k, b, hf, hb⟩ := sorted_f l hr.2.1
  exact ⟨b, hb, sort_IntsAreSorted.calls k A cap l b w hr hc hf⟩
theorem Rises.sorted {l : List Int} (h : Rises l) : SortedL l := fun j a b ha hb => by have := h j a b ha hb; omega
end Go.Proofs.YtkcpeanimmjajaaDoor.Ring
