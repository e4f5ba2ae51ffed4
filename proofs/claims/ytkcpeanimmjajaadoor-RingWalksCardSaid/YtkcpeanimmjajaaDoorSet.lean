import Derived.Test.YtkcpeanimmjajaaDoorBase
namespace Go.Proofs.YtkcpeanimmjajaaDoor.Ring
open Go.RowKit Go.Proofs.YtkcpeanimmjajaaDoorW.PrintWords Go.Proofs.YtkcpeanimmjajaaDoorW.PrintLast Go.Proofs.YtkcpeanimmjajaaDoorW.PrintMore Go.Proofs.YtkcpeanimmjajaaDoor.PRingWalks
set_option linter.unusedVariables false

/-- The settings' words, their least and greatest values. -/
def setWords : List ByteArray := [⟨#[114, 101, 112, 108, 105, 99, 97, 115]⟩, ⟨#[119, 105, 100, 116, 104]⟩, ⟨#[99, 104, 117, 110, 107, 115]⟩, ⟨#[114, 101, 116, 97, 105, 110]⟩, ⟨#[98, 108, 111, 99, 107]⟩, ⟨#[114, 97, 116, 101]⟩, ⟨#[112, 101, 114]⟩, ⟨#[98, 117, 114, 115, 116]⟩, ⟨#[116, 114, 105, 101, 115]⟩, ⟨#[98, 97, 115, 101]⟩, ⟨#[109, 111, 115, 116]⟩, ⟨#[113, 117, 111, 116, 97]⟩, ⟨#[114, 111, 111, 109]⟩, ⟨#[100, 101, 112, 111, 116]⟩, ⟨#[114, 101, 115, 101, 110, 100]⟩, ⟨#[108, 105, 109, 105, 116]⟩, ⟨#[112, 97, 116, 105, 101, 110, 99, 101]⟩, ⟨#[103, 101, 116, 119, 97, 105, 116]⟩, ⟨#[115, 116, 114, 105, 107, 101, 115]⟩, ⟨#[98, 97, 110]⟩, ⟨#[104, 111, 109, 101]⟩]
def setLeast : List Int := [1, 1, 1, 1, 1, 1, 1, 1, 1, 1, 1, 1, 1, 1, 1, 1, 1, 1, 1, 1, 0]
def setMost : List Int := [16, 16, 16, 8, 4096, 65536, 1024, 65536, 64, 1024, 1024, 1073741824, 1073741824, 1073741824, 1024, 64, 65536, 1024, 64, 1024, 7]
/-- The cells of setting i. -/
def setRow (i : Nat) : List Value := [.string (setWords.getD i ⟨#[]⟩), .int .i64 (setLeast.getD i 0), .int .i64 (setMost.getD i 0), .func (.func (78 + i)) #[] #[]]
def setCells : Array Value := ((List.range 21).flatMap setRow).toArray

set_option maxHeartbeats 2000000 in
set_option maxRecDepth 100000 in
theorem settings_calls (w : World) :
    Calls Tryd.prog 55 #[] w fun e w' => ∃ g, e = .returned (.slice (some ⟨g, 0, none⟩) 21 21) ∧ w.heap.size ≤ g ∧ w'.heap[g]? = some (.cells setCells 109 (0, 0)) ∧ Below w.heap.size w w' := by
  go_enter Tryd.func55, Tryd.ntmps55
  go_wp2_with (first | ((with_reducible refine gate_dst (N := 22) rfl ?_); refine row_event ?hg (N := 22) ?hd 21 setCells 109 ?hr ?_; (case hd => rfl); (case hg => rfl); (case hr => first | (go_simp; done) | (go_simp; rfl)); intro g w1 GE HX HB))
  go_ret
  exact ⟨g, rfl, GE.out, HX.out, HB.out⟩

theorem setCells_at (i : Nat) (h : i < 21) (j : Nat) (hj : j < 4) : setCells[i * 4 + j]? = (setRow i)[j]? := by
  have hi : i = 0 ∨ i = 1 ∨ i = 2 ∨ i = 3 ∨ i = 4 ∨ i = 5 ∨ i = 6 ∨ i = 7 ∨ i = 8 ∨ i = 9 ∨ i = 10 ∨ i = 11 ∨ i = 12 ∨ i = 13 ∨ i = 14 ∨ i = 15 ∨ i = 16 ∨ i = 17 ∨ i = 18 ∨ i = 19 ∨ i = 20 := by omega
  have hj' : j = 0 ∨ j = 1 ∨ j = 2 ∨ j = 3 := by omega
  rcases hi with rfl | rfl | rfl | rfl | rfl | rfl | rfl | rfl | rfl | rfl | rfl | rfl | rfl | rfl | rfl | rfl | rfl | rfl | rfl | rfl | rfl <;> rcases hj' with rfl | rfl | rfl | rfl <;> rfl
end Go.Proofs.YtkcpeanimmjajaaDoor.Ring
