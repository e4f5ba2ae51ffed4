import Derived.Test.YtkcpeanimmjajaaDoorChkd
namespace Go.Proofs.YtkcpeanimmjajaaDoor.Ring
open Go.RowKit Go.Proofs.YtkcpeanimmjajaaDoorW.PrintWords Go.Proofs.YtkcpeanimmjajaaDoorW.PrintLast Go.Proofs.YtkcpeanimmjajaaDoorW.PrintMore Go.Proofs.YtkcpeanimmjajaaDoor.PRingWalks
set_option linter.unusedVariables false

set_option maxHeartbeats 2000000 in
set_option maxRecDepth 100000 in
theorem check_calls (c : Clu) (A : Option Addr) (cap : Nat) (w : World) (HR : Kd.C kN w A c.nodes.length c.nodes) (hok : c.ok) :
    Calls Tryd.prog 11 #[.agg (c.cells A cap)] w fun e w' => e = .returned (.int .i64 (checkN c)) ∧ Below w.heap.size w w' := by
  have HR' := Aside0.mk HR
  clear HR
  go_enter Tryd.func11, Tryd.ntmps11
  go_wp2_with (first | ((with_reducible refine gate_dst (N := 1) rfl ?_); refine new_event ?hg (N := 1) ?hd (c.cells A cap) 24 ?hr ?_; (case hd => rfl); (case hg => rfl); (case hr => first | (go_simp; done) | (go_simp; rfl)); intro gb w1 GE HX HB) | ((with_reducible refine gate_dst (N := 6) rfl ?_); refine wpList_load_row rfl 24 (.tmp 1) rfl gb rfl 24 (c.cells A cap) (0, 0) _ HX.out Tryd.underlying24 rfl (by kernel_rfl) ?_))
  go_at_call 35
  refine (checked_calls c A cap w1 (Kd.C_below HR'.out HB.out) hok).mono ?_
  rintro e w2 hpost
  rcases hpost with ⟨hne, rfl, hb⟩ | ⟨h0, g, H, rfl, _, _, _, hb⟩
  · have HB2 := Aside0.mk (below_step HB.out hb)
    clear hne hb
    go_wp2_with fail
    go_ret
    exact ⟨rfl, HB2.out⟩
  · have HB2 := Aside0.mk (below_step HB.out hb)
    have H0 := Aside0.mk h0
    clear h0 hb
    go_wp2_with fail
    go_ret
    exact ⟨ret_i64 H0.out.symm, HB2.out⟩
end Go.Proofs.YtkcpeanimmjajaaDoor.Ring
