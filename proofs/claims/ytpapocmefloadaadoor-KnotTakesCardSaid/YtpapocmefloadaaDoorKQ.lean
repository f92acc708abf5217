/- A region that draws its order, whose callees make memory: one walk, in the class of the worlds above one. -/
import Derived.Test.YtpapocmefloadaaDoorKA
import Derived.Deep.QuietTactic
namespace Go.Proofs.YtpapocmefloadaaDoor.K
open Go.RowKit Go.Proofs.YtpapocmefloadaaDoorW.PrintWords Go.Proofs.YtpapocmefloadaaDoorW.PrintLast Go.Proofs.YtpapocmefloadaaDoorW.PrintMore
/-- The worlds in which what was there in v is as it was. -/
structure Wd (v : World) where
  w : World
  b : Below v.heap.size v w
instance (v : World) : Nonempty (Wd v) := ⟨⟨v, Below.refl _ _⟩⟩
theorem quietB {id : Nat} {Q : Exit → Act → World → Prop} {a : Act} {w : World} {l : List Oper} (v : World) (hb : Below v.heap.size v w) (hB : Region.lexB .any l.toArray = true)
    (h : wpQuiet Tryd.prog l.toArray (fun w' => ∃ k : Wd v, w' = k.w) (fun a' => ∀ w', (∃ k : Wd v, w' = k.w) → Q .normal a' w') l a) : (Code.region id l.toArray true).wp Tryd.prog Q a w :=
  wp_region_quiet (C := fun w' => ∃ k : Wd v, w' = k.w) (by kernel_rfl) hB ⟨⟨w.drew, below_drew1 hb⟩, rfl⟩ (by simpa using h)
end Go.Proofs.YtpapocmefloadaaDoor.K
