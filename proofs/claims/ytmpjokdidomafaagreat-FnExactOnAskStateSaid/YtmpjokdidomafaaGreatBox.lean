/- The boxes that a call finds as it left them. -/
import Derived.Test.YtmpjokdidomafaaGreatBase
namespace Go.Proofs.YtmpjokdidomafaaGreat
open Go.ChangeShapes Go.WideShapes Go.ChangeAt Go.RowKit Go.Sort

theorem heap_alloc_if (w : World) (o : Obj) (k : Nat) : (w.alloc o).heap[k]? = if k = w.heap.size then some o else w.heap[k]? := by
  show (w.heap.push o)[k]? = _
  rw [Array.getElem?_push]

theorem hNew {w : World} {o : Obj} {k : Nat} (hk : k = w.heap.size) : (w.alloc o).heap[k]? = some o := by rw [heap_alloc_if, if_pos hk]
theorem hOld {w : World} {o o' : Obj} {k : Nat} (h : w.heap[k]? = some o') : (w.alloc o).heap[k]? = some o' := by
  rw [heap_alloc_if, if_neg (by have := bx_lt h; omega)]; exact h
theorem Ext.box {w w' : World} {k : Nat} {o : Obj} (hx : Ext w w') (h : w.heap[k]? = some o) : w'.heap[k]? = some o := (hx.block k (bx_lt h)).trans h
theorem Ext.cell {w w' : World} {k : Nat} {cs : Array Value} {T : TypeId} (hx : Ext w w') (h : w.heap[k]? = some (.cells cs T (0, 0))) : ∀ y, w'.cell? ⟨k, y, none⟩ = cs[y]? := bx_cell (hx.box h)
end Go.Proofs.YtmpjokdidomafaaGreat
