import Derived.Test.YtkcpeanimmjajaaDoorBase
namespace Go.Proofs.YtkcpeanimmjajaaDoor.Ring
open Go.RowKit Go.Proofs.YtkcpeanimmjajaaDoorW.PrintWords Go.Proofs.YtkcpeanimmjajaaDoorW.PrintLast Go.Proofs.YtkcpeanimmjajaaDoorW.PrintMore Go.Proofs.YtkcpeanimmjajaaDoor.PRingWalks
set_option linter.unusedVariables false

/-- May byte b stand at place i of a name? -/
def okb (i : Nat) (b : Int) : Bool := decide (97 ≤ b ∧ b ≤ 122) || ((decide (48 ≤ b ∧ b ≤ 57) || decide (b = 45)) && decide (i ≠ 0))
def nameB (s : ByteArray) : Bool := decide (1 ≤ s.size) && decide (s.size ≤ 40) && (List.range s.size).all (fun i => okb i (bt s i))
theorem okb_yes (i : Nat) (b : Int) : okb i b = true ↔ (97 ≤ b ∧ b ≤ 122) ∨ ((48 ≤ b ∧ b ≤ 57 ∨ b = 45) ∧ i ≠ 0) := by simp [okb]
theorem okb_no (i : Nat) (b : Int) : okb i b = false ↔ ¬ ((97 ≤ b ∧ b ≤ 122) ∨ ((48 ≤ b ∧ b ≤ 57 ∨ b = 45) ∧ i ≠ 0)) := by rw [← okb_yes]; simp
theorem nameB_no (s : ByteArray) (k : Nat) (hk : k < s.size) (h : okb k (bt s k) = false) : nameB s = false := by
  unfold nameB
  rw [Bool.and_eq_false_iff]
  right
  rw [List.all_eq_false]
  exact ⟨k, List.mem_range.2 hk, by simp [h]⟩
theorem nameB_yes (s : ByteArray) (h1 : 1 ≤ s.size) (h2 : s.size ≤ 40) (h : ∀ j, j < s.size → okb j (bt s j) = true) : nameB s = true := by
  unfold nameB
  simp only [h1, h2, decide_true, Bool.true_and, List.all_eq_true, List.mem_range]
  exact h
theorem nameB_size (s : ByteArray) (h : ¬ (1 ≤ s.size ∧ s.size ≤ 40)) : nameB s = false := by
  unfold nameB
  by_cases h1 : 1 ≤ s.size
  · have : ¬ s.size ≤ 40 := fun h2 => h ⟨h1, h2⟩
    simp [this]
  · simp [h1]

set_option maxHeartbeats 2000000 in
set_option maxRecDepth 100000 in
theorem nameOK_calls (s : ByteArray) (w : World) (hm : s.size ≤ 140737488351232) :
    Calls Tryd.prog 66 #[.string s] w fun e w' => e = .returned (.bool (nameB s)) ∧ Below w.heap.size w w' := by
  by_cases h : 1 ≤ s.size ∧ s.size ≤ 40
  · obtain ⟨h1, h2⟩ := h
    have t1 : decide ((s.size : Int) < 1) = false := by simp; omega
    have t2 : decide ((40 : Int) < (s.size : Int)) = false := by simp; omega
    go_enter Tryd.func66, Tryd.ntmps66
    go_wp2_with (first | ((with_reducible refine gate_dst (N := 16) rfl ?_); refine bytes_event rfl 9 96 5 (.tmp 15) s rfl rfl Tryd.underlying9 Tryd.underlying96 Tryd.underlying5 ?_; intro g cap w1 GE HC HB))
    go_loop [18] (fun v => ∃ k : Nat, k ≤ s.size ∧ v = .int .i64 k ∧ ∀ j, j < k → okb j (bt s j) = true) (fun v => s.size - (intOf v).toNat)
    case atStart => exact ⟨0, Nat.zero_le _, rfl, fun j hj => by omega⟩
    case round =>
      obtain ⟨k, hk, rfl, hall⟩ := hrel
      have HA := Aside0.mk hall
      clear hall
      have hcx : k < s.size → w1.cell? ⟨g, k, none⟩ = some (.int .u8 (bt s k)) := fun hk => HC k hk
      have HC' := Aside0.mk HC
      clear HC
      go_wp2
      all_goals first
        | (have hlt : k < s.size := by assumption
           go_ret
           exact ⟨ret_bool (nameB_no s k hlt ((okb_no _ _).2 (by simp at *; omega))).symm, HB.out⟩)
        | (have hlt : ¬ k < s.size := by assumption
           go_ret
           exact ⟨ret_bool (nameB_yes s h1 h2 (fun j hj => HA.out j (by omega))).symm, HB.out⟩)
        | (have hlt : k < s.size := by assumption
           go_round
           case rel => exact ⟨k + 1, by omega, by go_num, all_snoc HA.out ((okb_yes _ _).2 (by simp at *; omega))⟩
           case measure => simp [intOf]; omega)
  · have hf := Aside0.mk (nameB_size s h)
    go_enter Tryd.func66, Tryd.ntmps66
    go_wp2
    all_goals
      go_ret
      exact ⟨ret_bool hf.out.symm, Below.refl _ _⟩
end Go.Proofs.YtkcpeanimmjajaaDoor.Ring
