/- A store over a store into the same cell. -/
import Derived.Test.YtpgjacoinldfhaaDoorProg
import Derived.Below
import Derived.Tactics
namespace Go.Proofs.YtpgjacoinldfhaaDoor
open Go Go.RowKit
theorem setCell_twice (w : World) (b o : Nat) (v u : Value) : (w.setCell ⟨b, o, none⟩ v).setCell ⟨b, o, none⟩ u = w.setCell ⟨b, o, none⟩ u := by
  unfold World.setCell
  congr 1
  apply Array.ext_getElem?
  intro j
  simp only [Array.getElem?_modify]
  by_cases h : b = j
  · simp only [h, if_true]
    cases w.heap[j]? with
    | none => rfl
    | some x => cases x <;> simp
  · simp [h]
end Go.Proofs.YtpgjacoinldfhaaDoor
