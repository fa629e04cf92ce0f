/- Small laws that a walk wants: an array by value read at a number; the builtins max and min of two whole numbers, under names. -/
import Derived.Test.YtiekdefkclccbaaGreatDoorProg
import Derived.WalkKit
import Derived.WalkSpells
import Derived.WalkLawsBesides
import Derived.Lib.Hide
namespace Go.Proofs.YtiekdefkclccbaaGreatDoor
open Go.RowKit

/-- The greater, the smaller of two numbers, as Go's max and min tell them. -/
def mxI (a b : Int) : Int := if a < b then b else a
def mnI (a b : Int) : Int := if b < a then b else a
theorem mxI_eq (a b : Int) : mxI a b = max a b := by unfold mxI; split <;> omega
theorem mnI_eq (a b : Int) : mnI a b = min a b := by unfold mnI; split <;> omega
@[go_sem ↓] theorem run_max_two {P : Program} (w : World) (ats : Array TypeId) (ty : TypeId) (k k' : IntKind) (x y : Int) : (Builtin.max_ ats ty #[.int k x, .int k' y]).run P w = .ok (.int k (mxI x y)) w := by
  simp only [Builtin.max_, List.foldlM_cons, List.foldlM_nil, Builtin.max2, mxI, gt_iff_lt]
  rfl
@[go_sem ↓] theorem run_min_two {P : Program} (w : World) (ats : Array TypeId) (ty : TypeId) (k k' : IntKind) (x y : Int) : (Builtin.min_ ats ty #[.int k x, .int k' y]).run P w = .ok (.int k (mnI x y)) w := by
  simp only [Builtin.min_, List.foldlM_cons, List.foldlM_nil, Builtin.min2, mnI]
  rfl

end Go.Proofs.YtiekdefkclccbaaGreatDoor
