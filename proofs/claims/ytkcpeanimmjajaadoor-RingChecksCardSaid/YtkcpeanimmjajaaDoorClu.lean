import Derived.Test.YtkcpeanimmjajaaDoorPRingWalksx0
namespace Go.Proofs.YtkcpeanimmjajaaDoor.Ring
open Go.RowKit Go.Proofs.YtkcpeanimmjajaaDoorW.PrintWords Go.Proofs.YtkcpeanimmjajaaDoorW.PrintLast Go.Proofs.YtkcpeanimmjajaaDoorW.PrintMore Go.Proofs.YtkcpeanimmjajaaDoor.PRingWalks
set_option linter.unusedVariables false

/-- A cluster's definition: its name, its 21 settings, its nodes. -/
structure Clu where
  store : ByteArray
  f1 : Int
  f2 : Int
  f3 : Int
  f4 : Int
  f5 : Int
  f6 : Int
  f7 : Int
  f8 : Int
  f9 : Int
  f10 : Int
  f11 : Int
  f12 : Int
  f13 : Int
  f14 : Int
  f15 : Int
  f16 : Int
  f17 : Int
  f18 : Int
  f19 : Int
  f20 : Int
  f21 : Int
  nodes : List S56

abbrev kN := k56
abbrev ND := S56

/-- The cells of a definition's value: A: where its nodes lie. -/
def Clu.cells (c : Clu) (A : Option Addr) (cap : Nat) : Array Value :=
  #[.string c.store, .int .i64 c.f1, .int .i64 c.f2, .int .i64 c.f3, .int .i64 c.f4, .int .i64 c.f5, .int .i64 c.f6, .int .i64 c.f7, .int .i64 c.f8, .int .i64 c.f9, .int .i64 c.f10, .int .i64 c.f11, .int .i64 c.f12, .int .i64 c.f13, .int .i64 c.f14, .int .i64 c.f15, .int .i64 c.f16, .int .i64 c.f17, .int .i64 c.f18, .int .i64 c.f19, .int .i64 c.f20, .int .i64 c.f21, .slice A c.nodes.length cap]
theorem Clu.cells_size (c : Clu) (A : Option Addr) (cap : Nat) : (c.cells A cap).size = 23 := rfl
theorem Clu.cells_one (c : Clu) (A : Option Addr) (cap : Nat) : ∀ v ∈ (c.cells A cap).toList, v.oneCell' = true := by
  unfold Clu.cells
  simp [Value.oneCell']

/-- The settings, in their order. -/
def Clu.vals (c : Clu) : List Int := [c.f1, c.f2, c.f3, c.f4, c.f5, c.f6, c.f7, c.f8, c.f9, c.f10, c.f11, c.f12, c.f13, c.f14, c.f15, c.f16, c.f17, c.f18, c.f19, c.f20, c.f21]

/-- A definition's value lies in block g. -/
def CluAt (w : World) (g : Nat) (c : Clu) (A : Option Addr) (cap : Nat) : Prop := w.heap[g]? = some (.cells (c.cells A cap) 24 (0, 0))

theorem infoClu : (Tryd.prog.info? 24).map (·.size) = some 23 := by kernel_rfl
end Go.Proofs.YtkcpeanimmjajaaDoor.Ring
