import Derived.Test.YtkcpeanimmjajaaDoorPRingWalksx1
import Derived.Test.YtkcpeanimmjajaaDoorBase
namespace Go.Proofs.YtkcpeanimmjajaaDoor.Ring
open Go.RowKit Go.Proofs.YtkcpeanimmjajaaDoorW.PrintWords Go.Proofs.YtkcpeanimmjajaaDoorW.PrintLast Go.Proofs.YtkcpeanimmjajaaDoorW.PrintMore Go.Proofs.YtkcpeanimmjajaaDoor.PRingWalks
set_option linter.unusedVariables false
set_option linter.unusedSimpArgs false

theorem sameInts_l0 (l : List Int) (hl : l.length ≤ 17592186044416) : ∀ (k i : Nat), i ≤ l.length → l.length - i < k → granarylaw6_sameInts.l0 k l l (i : Int) = some true
  | 0, i, _, h => by omega
  | k + 1, i, hi, h => by
    unfold granarylaw6_sameInts.l0
    by_cases h1 : i < l.length
    · have hw : wrap64 ((i : Int) + 1) = ((i + 1 : Nat) : Int) := by unfold wrap64; omega
      rw [if_pos (by omega), if_pos (by omega), if_pos (by omega), if_pos rfl, hw]
      exact sameInts_l0 l hl k (i + 1) (by omega) (by omega)
    · rw [if_neg (by omega)]
/-- The same numbers twice. -/
theorem sameInts_calls (l : List Int) (hl : l.length ≤ 17592186044416) (A : Option Addr) (ca : Nat) (B : Option Addr) (cb : Nat) (w : World) (hA : Kd.C (Kd.int .i64) w A l.length l) (hca : l.length ≤ ca) (hB : Kd.C (Kd.int .i64) w B l.length l) (hcb : l.length ≤ cb) :
    Calls Tryd.prog 17 #[.slice A l.length ca, .slice B l.length cb] w fun e w' => e = .returned (.bool true) ∧ Drawn0 w w' := by
  refine granarylaw6_sameInts.calls (l.length + 1) A ca l B cb l true w hA hca hB hcb ?_
  unfold granarylaw6_sameInts.f
  rw [if_pos rfl]
  exact sameInts_l0 l hl (l.length + 1) 0 (Nat.zero_le _) (by omega)
end Go.Proofs.YtkcpeanimmjajaaDoor.Ring
