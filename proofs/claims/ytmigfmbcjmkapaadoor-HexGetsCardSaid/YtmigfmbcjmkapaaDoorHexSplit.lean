/- hex.Words, by the shelf's contract of strings.Split. -/
import Derived.Test.YtmigfmbcjmkapaaDoorProg
import Derived.Test.YtmigfmbcjmkapaaDoorShelf
import Derived.WalkKit
namespace Go.Proofs.YtmigfmbcjmkapaaDoor
open Go.RowKit Go.Shelf

/-- The pieces between the spaces. -/
def piecesB (s : ByteArray) : List ByteArray := Lib.splitB ⟨#[32]⟩ 0 (Lib.countB s ⟨#[32]⟩) s
theorem piecesB_length (s : ByteArray) : (piecesB s).length = Lib.countB s ⟨#[32]⟩ + 1 := Lib.splitB_all _ (by decide) 0 _ s rfl
/-- hex.Words: the pieces between the spaces. -/
theorem Words_any (s : ByteArray) (m : Int) (w : World) (hs : s.size < 4294967281) (hm : w.cell? ⟨0, 0, none⟩ = some (.int .i64 m)) :
    Calls Tryd.prog 8 #[.string s] w fun e w' =>
      e = .returned (.slice (some ⟨w.heap.size, 0, none⟩) (piecesB s).length (piecesB s).length) ∧ w' = w.alloc (.cells ((piecesB s).map Value.string).toArray 9) := by
  rw [piecesB_length]
  go_enter Tryd.func8, Tryd.ntmps8
  go_wp2_with fail
  refine (Tryd.strings_Split s ⟨#[32]⟩ m w hs hm (by decide)).mono ?_
  rintro e w1 ⟨rfl, rfl⟩
  go_wp2
  go_ret
  exact ⟨rfl, rfl⟩

end Go.Proofs.YtmigfmbcjmkapaaDoor
