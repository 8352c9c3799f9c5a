/- What the loaded program's head says: it was cut, and nothing was lifted. It is read off the head's first words alone.
Conditions: none. -/
import Derived.Test.YtidhceabmpikgaaDoorRows
import Derived.JoinedOf
import Derived.KernelRfl
namespace Go.Proofs.YtidhceabmpikgaaDoor.Heads
open Go
set_option maxRecDepth 100000 in
theorem head_is : ∃ l, Tryd.progTables.initOrder = String.ofList l ∧ (behindMainWord (wordsSigns l)).head? = some "cut".toList := ⟨_, by unfold Tryd.progTables; rfl, by kernel_rfl⟩
theorem words_are : ∃ r, behindMainWord (wordsSigns Tryd.prog.initOrder.toList) = "cut".toList :: r := by
  obtain ⟨l, h1, h2⟩ := head_is
  have h3 : Tryd.prog.initOrder = String.ofList l := by unfold Tryd.prog; exact h1
  rw [h3, String.toList_ofList]
  cases h : behindMainWord (wordsSigns l) with
  | nil => rw [h] at h2; cases h2
  | cons a r => rw [h] at h2; injection h2 with h2; exact ⟨r, by rw [h2]⟩
theorem strip_cut (r : List (List Char)) : stripLifts liftWords ("cut".toList :: r) = ([], "cut".toList :: r) := by kernel_rfl
theorem lifts_of (P : Program) (r : List (List Char)) (h : behindMainWord (wordsSigns P.initOrder.toList) = "cut".toList :: r) : P.headLifts = [] := by
  unfold Program.headLifts
  rw [h, strip_cut]; rfl
theorem may_of (P : Program) (r : List (List Char)) (h : behindMainWord (wordsSigns P.initOrder.toList) = "cut".toList :: r) (h1 : P.laysLater = false) (h2 : P.bearsReflect = false) (h3 : P.doorFits [] = true) : P.mayEnter = true := by
  unfold Program.mayEnter
  rw [h]
  simp only [strip_cut, h1, h2, h3, List.head?_cons]
  generalize r.isEmpty = a
  generalize (r.head? == some "stop".toList) = b
  generalize (r.take 2 == ["gc".toList, "cut".toList]) = c
  revert a b c
  decide +revert
theorem finals_of (P : Program) (r : List (List Char)) (h : behindMainWord (wordsSigns P.initOrder.toList) = "cut".toList :: r) : P.liftsFinal = false := by
  unfold Program.liftsFinal
  simp only [h, lifts_of P r h, List.head?_cons]
  rfl
theorem make_of (P : Program) (r : List (List Char)) (h : behindMainWord (wordsSigns P.initOrder.toList) = "cut".toList :: r) : P.make = some .cut := by
  unfold Program.make
  rw [h]
  rfl
theorem later : Tryd.prog.laysLater = false := by kernel_rfl
theorem refl_no : Tryd.prog.bearsReflect = false := by kernel_rfl
theorem door : Tryd.prog.doorFits [] = true := by kernel_rfl
theorem heads : Tryd.prog.mayEnter = true ∧ Tryd.prog.liftsFinal = false ∧ Tryd.prog.make = some .cut := by
  obtain ⟨r, h⟩ := words_are
  exact ⟨may_of _ r h later refl_no door, finals_of _ r h, make_of _ r h⟩
end Go.Proofs.YtidhceabmpikgaaDoor.Heads
