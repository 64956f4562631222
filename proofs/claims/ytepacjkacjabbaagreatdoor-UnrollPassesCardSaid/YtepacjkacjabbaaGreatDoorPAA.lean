import Derived.RangeFuncRecord
import Derived.Lib.Hide
namespace Go.Proofs.YtepacjkacjabbaaGreatDoor
section
open Go Go.RowKit
theorem zhd {p : Prop} (h : p) : Hid p := Lib.hid h
theorem zgs {α : Type} {xs : Array α} {i : Nat} {a : α} (h : xs[i]? = some a) : ∃ h : i < xs.size, xs[i] = a := Array.getElem?_eq_some_iff.1 h
theorem zba (w : World) (o : Obj) : Below w.heap.size w (w.alloc o) := (Below.refl _ _).alloc (Nat.le_refl _) _
theorem zan (w : World) (o : Obj) : (w.alloc o).heap[w.heap.size]? = some o := World.alloc_heap_new w o
end
end Go.Proofs.YtepacjkacjabbaaGreatDoor
