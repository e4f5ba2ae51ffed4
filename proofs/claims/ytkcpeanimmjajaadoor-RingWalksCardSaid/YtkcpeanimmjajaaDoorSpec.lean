import Derived.Test.YtkcpeanimmjajaaDoorHoms
import Derived.Test.YtkcpeanimmjajaaDoorSet
import Derived.Test.YtkcpeanimmjajaaDoorName
namespace Go.Proofs.YtkcpeanimmjajaaDoor.Ring
open Go.RowKit Go.Proofs.YtkcpeanimmjajaaDoorW.PrintWords Go.Proofs.YtkcpeanimmjajaaDoorW.PrintLast Go.Proofs.YtkcpeanimmjajaaDoorW.PrintMore Go.Proofs.YtkcpeanimmjajaaDoor.PRingWalks
set_option linter.unusedVariables false

theorem cells_vals (c : Clu) (A : Option Addr) (cap : Nat) (i : Nat) (v : Int) (h : c.vals[i]? = some v) : (c.cells A cap)[i + 1]? = some (.int .i64 v) := by
  have hl : i < 21 := (List.getElem?_eq_some_iff.1 h).1
  have hi : i = 0 ∨ i = 1 ∨ i = 2 ∨ i = 3 ∨ i = 4 ∨ i = 5 ∨ i = 6 ∨ i = 7 ∨ i = 8 ∨ i = 9 ∨ i = 10 ∨ i = 11 ∨ i = 12 ∨ i = 13 ∨ i = 14 ∨ i = 15 ∨ i = 16 ∨ i = 17 ∨ i = 18 ∨ i = 19 ∨ i = 20 := by omega
  rcases hi with rfl | rfl | rfl | rfl | rfl | rfl | rfl | rfl | rfl | rfl | rfl | rfl | rfl | rfl | rfl | rfl | rfl | rfl | rfl | rfl | rfl <;> (obtain rfl := Option.some.inj h; rfl)

set_option maxHeartbeats 4000000 in
theorem at_calls (i : Nat) (h : i < 21) (g : Nat) (w : World) :
    Calls Tryd.prog (78 + i) #[.pointer (some ⟨g, 0, none⟩)] w fun e w' => e = .returned (.pointer (some ⟨g, i + 1, none⟩)) ∧ w' = w := by
  have hi : i = 0 ∨ i = 1 ∨ i = 2 ∨ i = 3 ∨ i = 4 ∨ i = 5 ∨ i = 6 ∨ i = 7 ∨ i = 8 ∨ i = 9 ∨ i = 10 ∨ i = 11 ∨ i = 12 ∨ i = 13 ∨ i = 14 ∨ i = 15 ∨ i = 16 ∨ i = 17 ∨ i = 18 ∨ i = 19 ∨ i = 20 := by omega
  rcases hi with rfl | rfl | rfl | rfl | rfl | rfl | rfl | rfl | rfl | rfl | rfl | rfl | rfl | rfl | rfl | rfl | rfl | rfl | rfl | rfl | rfl
  · go_enter Tryd.func78, Tryd.ntmps78
    go_wp2
    go_ret
    exact ⟨rfl, rfl⟩
  · go_enter Tryd.func79, Tryd.ntmps79
    go_wp2
    go_ret
    exact ⟨rfl, rfl⟩
  · go_enter Tryd.func80, Tryd.ntmps80
    go_wp2
    go_ret
    exact ⟨rfl, rfl⟩
  · go_enter Tryd.func81, Tryd.ntmps81
    go_wp2
    go_ret
    exact ⟨rfl, rfl⟩
  · go_enter Tryd.func82, Tryd.ntmps82
    go_wp2
    go_ret
    exact ⟨rfl, rfl⟩
  · go_enter Tryd.func83, Tryd.ntmps83
    go_wp2
    go_ret
    exact ⟨rfl, rfl⟩
  · go_enter Tryd.func84, Tryd.ntmps84
    go_wp2
    go_ret
    exact ⟨rfl, rfl⟩
  · go_enter Tryd.func85, Tryd.ntmps85
    go_wp2
    go_ret
    exact ⟨rfl, rfl⟩
  · go_enter Tryd.func86, Tryd.ntmps86
    go_wp2
    go_ret
    exact ⟨rfl, rfl⟩
  · go_enter Tryd.func87, Tryd.ntmps87
    go_wp2
    go_ret
    exact ⟨rfl, rfl⟩
  · go_enter Tryd.func88, Tryd.ntmps88
    go_wp2
    go_ret
    exact ⟨rfl, rfl⟩
  · go_enter Tryd.func89, Tryd.ntmps89
    go_wp2
    go_ret
    exact ⟨rfl, rfl⟩
  · go_enter Tryd.func90, Tryd.ntmps90
    go_wp2
    go_ret
    exact ⟨rfl, rfl⟩
  · go_enter Tryd.func91, Tryd.ntmps91
    go_wp2
    go_ret
    exact ⟨rfl, rfl⟩
  · go_enter Tryd.func92, Tryd.ntmps92
    go_wp2
    go_ret
    exact ⟨rfl, rfl⟩
  · go_enter Tryd.func93, Tryd.ntmps93
    go_wp2
    go_ret
    exact ⟨rfl, rfl⟩
  · go_enter Tryd.func94, Tryd.ntmps94
    go_wp2
    go_ret
    exact ⟨rfl, rfl⟩
  · go_enter Tryd.func95, Tryd.ntmps95
    go_wp2
    go_ret
    exact ⟨rfl, rfl⟩
  · go_enter Tryd.func96, Tryd.ntmps96
    go_wp2
    go_ret
    exact ⟨rfl, rfl⟩
  · go_enter Tryd.func97, Tryd.ntmps97
    go_wp2
    go_ret
    exact ⟨rfl, rfl⟩
  · go_enter Tryd.func98, Tryd.ntmps98
    go_wp2
    go_ret
    exact ⟨rfl, rfl⟩

theorem at_enters (i : Nat) (h : i < 21) : ∀ (args : Array Value) (w : World), (callFunc (78 + i) args).run Tryd.prog w = .ok (.enter (78 + i) args) w := by
  have hi : i = 0 ∨ i = 1 ∨ i = 2 ∨ i = 3 ∨ i = 4 ∨ i = 5 ∨ i = 6 ∨ i = 7 ∨ i = 8 ∨ i = 9 ∨ i = 10 ∨ i = 11 ∨ i = 12 ∨ i = 13 ∨ i = 14 ∨ i = 15 ∨ i = 16 ∨ i = 17 ∨ i = 18 ∨ i = 19 ∨ i = 20 := by omega
  rcases hi with rfl | rfl | rfl | rfl | rfl | rfl | rfl | rfl | rfl | rfl | rfl | rfl | rfl | rfl | rfl | rfl | rfl | rfl | rfl | rfl | rfl <;> (intro args w; kernel_rfl)

theorem mul_bd {a b A B : Int} (ha : 0 ≤ a) (hA : a ≤ A) (hb : 0 ≤ b) (hB : b ≤ B) : 0 ≤ a * b ∧ a * b ≤ A * B :=
  ⟨Int.mul_nonneg ha hb, Int.mul_le_mul hA hB hb (by omega)⟩
theorem fullN_snoc' {n : Nat} (h : 0 < n) : decide (0 < n) = true := by simpa using h

/-- Are the settings within their limits? -/
def SetOK (c : Clu) : Prop := ∀ i v, c.vals[i]? = some v → setLeast.getD i 0 ≤ v ∧ v ≤ setMost.getD i 0
def ZonesOK (l : List ND) : Prop := ∀ nd ∈ l, 0 ≤ nd.f0 ∧ nd.f0 ≤ 7
def fullN (l : List ND) : Nat := (l.filter fun nd => decide (0 < nd.f1.length)).length
theorem fullN_snoc (l : List ND) (k : Nat) (nd : ND) (h : l[k]? = some nd) : fullN (l.take (k + 1)) = fullN (l.take k) + if 0 < nd.f1.length then 1 else 0 := by
  obtain ⟨hk, rfl⟩ := List.getElem?_eq_some_iff.1 h
  unfold fullN
  rw [List.take_succ_eq_append_getElem hk, List.filter_append, List.length_append]
  by_cases e : 0 < l[k].f1.length <;> simp [e]
theorem fullN_le (l : List ND) : fullN l ≤ l.length := List.length_filter_le _ _
theorem SetOK.at_ {c : Clu} (h : SetOK c) (i : Nat) (v : Int) (hv : c.vals[i]? = some v) : setLeast.getD i 0 ≤ v ∧ v ≤ setMost.getD i 0 := h i v hv
theorem SetOK.f1 {c : Clu} (h : SetOK c) : 1 ≤ c.f1 ∧ c.f1 ≤ 16 := h 0 c.f1 rfl
theorem SetOK.f3 {c : Clu} (h : SetOK c) : 1 ≤ c.f3 ∧ c.f3 ≤ 16 := h 2 c.f3 rfl
open Classical in
/-- The error's number of a definition; 0: it is valid. -/
noncomputable def checkN (c : Clu) : Int :=
  if nameB c.store = false then 63 else if ¬ SetOK c then 64 else if c.f8 < c.f5 ∨ c.f11 < c.f10 then 64 else if ¬ (1 ≤ c.nodes.length ∧ c.nodes.length ≤ 16) then 65 else if ¬ ZonesOK c.nodes then 65 else
  if ¬ Dealt c.nodes then 66 else if (fullN c.nodes : Int) < c.f1 then 67 else if 512 < (partsN c.nodes : Int) * c.f1 * c.f3 then 3 else 0
section
variable {c : Clu}
theorem check_name (h : nameB c.store = false) : checkN c = 63 := by unfold checkN; rw [if_pos h]
theorem check_set (h0 : nameB c.store = true) (h : ¬ SetOK c) : checkN c = 64 := by unfold checkN; rw [if_neg (by simp [h0]), if_pos h]
theorem check_more (h0 : nameB c.store = true) (h1 : SetOK c) (h : c.f8 < c.f5 ∨ c.f11 < c.f10) : checkN c = 64 := by unfold checkN; rw [if_neg (by simp [h0]), if_neg (by simpa using h1), if_pos h]
theorem check_count (h0 : nameB c.store = true) (h1 : SetOK c) (h2 : ¬ (c.f8 < c.f5 ∨ c.f11 < c.f10)) (h : ¬ (1 ≤ c.nodes.length ∧ c.nodes.length ≤ 16)) : checkN c = 65 := by
  unfold checkN; rw [if_neg (by simp [h0]), if_neg (by simpa using h1), if_neg h2, if_pos h]
theorem check_zone (h0 : nameB c.store = true) (h1 : SetOK c) (h2 : ¬ (c.f8 < c.f5 ∨ c.f11 < c.f10)) (h3 : 1 ≤ c.nodes.length ∧ c.nodes.length ≤ 16) (h : ¬ ZonesOK c.nodes) : checkN c = 65 := by
  unfold checkN; rw [if_neg (by simp [h0]), if_neg (by simpa using h1), if_neg h2, if_neg (by simpa using h3), if_pos h]
theorem check_rest (h0 : nameB c.store = true) (h1 : SetOK c) (h2 : ¬ (c.f8 < c.f5 ∨ c.f11 < c.f10)) (h3 : 1 ≤ c.nodes.length ∧ c.nodes.length ≤ 16) (h4 : ZonesOK c.nodes) :
    (¬ Dealt c.nodes → checkN c = 66) ∧ (Dealt c.nodes → (fullN c.nodes : Int) < c.f1 → checkN c = 67) ∧ (Dealt c.nodes → ¬ (fullN c.nodes : Int) < c.f1 → 512 < (partsN c.nodes : Int) * c.f1 * c.f3 → checkN c = 3) ∧
    (Dealt c.nodes → ¬ (fullN c.nodes : Int) < c.f1 → ¬ 512 < (partsN c.nodes : Int) * c.f1 * c.f3 → checkN c = 0) := by
  unfold checkN
  rw [if_neg (by simp [h0]), if_neg (by simpa using h1), if_neg h2, if_neg (by simpa using h3), if_neg (by simpa using h4)]
  refine ⟨fun h => if_pos h, fun h h5 => ?_, fun h h5 h6 => ?_, fun h h5 h6 => ?_⟩
  · rw [if_neg (by simpa using h), if_pos h5]
  · rw [if_neg (by simpa using h), if_neg h5, if_pos h6]
  · rw [if_neg (by simpa using h), if_neg h5, if_neg h6]
end
end Go.Proofs.YtkcpeanimmjajaaDoor.Ring
