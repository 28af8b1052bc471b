/- A walk halted at an operation, to let go of how the world was made. No program in sight. -/
import Derived.Test.YtmpjokdidomafaaGreatClo
import Derived.Test.YtmpjokdidomafaaGreatDeep
import Derived.Laws.Tables
namespace Go.Proofs.YtmpjokdidomafaaGreat
open Go.ChangeShapes Go.WideShapes Go.ChangeAt Go.RowKit Go.Sort
set_option linter.unusedVariables false

def Stop (p : Prop) : Prop := p
theorem wl_stop {P : Program} {ops : Array Oper} {Q : Exit → Act → World → Prop} {l : List Oper} {a : Act} {w : World} (d : Nat) {op : Op} {ty : TypeId} {pos : String} {af : Array Edge} {gu : Option (Nat × Bool)} (h : Stop (wpList P ops Q ({ dst := some d, op := op, type := ty, pos := pos, after := af, guard := gu } :: l) a w)) :
    wpList P ops Q ({ dst := some d, op := op, type := ty, pos := pos, after := af, guard := gu } :: l) a w := h
theorem stop_go {P : Program} {ops : Array Oper} {Q : Exit → Act → World → Prop} {l : List Oper} {a : Act} {w : World} (F : World → Prop) (hF : F w) (h : ∀ W, F W → wpList P ops Q l a W) : Stop (wpList P ops Q l a w) := h w hF

theorem isAgg_struct {P : Program} {t : TypeId} {fs : Array Field} (h : P.underlying t = some (.struct fs)) (w : World) : (isAgg t).run P w = .ok true w := by
  simp_all [isAgg, run_underlying h]
/-- halted ahead of a whole struct's store -/
theorem wl_stopS {P : Program} {ops : Array Oper} {Q : Exit → Act → World → Prop} {l : List Oper} {a : Act} {w : World} (T : TypeId) {x y : Operand} {ty : TypeId} {pos : String} {af : Array Edge} {gu : Option (Nat × Bool)} (h : Stop (wpList P ops Q ({ dst := none, op := .store T x y, type := ty, pos := pos, after := af, guard := gu } :: l) a w)) :
    wpList P ops Q ({ dst := none, op := .store T x y, type := ty, pos := pos, after := af, guard := gu } :: l) a w := h
theorem chg_setRow (w : World) (g : Nat) (cs : Array Value) : Chg w (w.setRow g cs) [g] := by
  refine ⟨rfl, rfl, rfl, ?_, fun k hk hn => ?_⟩
  · simp [World.setRow]
  · have hn' : ¬ g = k := fun e => hn (by simp [e])
    simp [World.setRow, Array.getElem?_modify, hn']
theorem stop_store {P : Program} {ops : Array Oper} {Q : Exit → Act → World → Prop} {l : List Oper} {a : Act} {w : World} {T t : TypeId} {x y : Operand} {ty : TypeId} {pos : String} {af : Array Edge} {old : Array Value} (g : Nat) (cells : Array Value)
    (hx : a.eval x = .pointer (some ⟨g, 0, none⟩)) (hy : a.eval y = .agg cells) (hg : w.heap[g]? = some (.cells old t (0, 0))) (hi : (P.info? T).map (·.size) = some cells.size) (hold : old.size = cells.size) (h1 : cells.all (·.oneCell') = true)
    (h : ∀ W, W.heap[g]? = some (.cells cells t (0, 0)) → Chg w W [g] → wpList P ops Q l (a.put none undef) W) : Stop (wpList P ops Q ({ dst := none, op := .store T x y, type := ty, pos := pos, after := af, guard := none } :: l) a w) :=
  wpList_store_row rfl T x y rfl g cells hx hy t old hg hi hold h1 (h _ (setRow_heap w g old cells t (0, 0) hg) (chg_setRow w g cells))
theorem chg_new {a b c : World} {g : Nat} (h : Ext a b) (k : Chg b c [g]) (hg : a.heap.size ≤ g) : Ext a c := ext_chg h k (fun x hx => by rw [List.mem_singleton] at hx; omega)
theorem LgO.chg1 {w w' : World} {B T g : Nat} {a : LAd} {l : Lg} (h : LgO w B T a l) (hg : Chg w w' [g]) (hlt : g < B) : LgO w' B T a l := h.chg hg (fun k hk hm => by rw [List.mem_singleton] at hm; have := h.low k hk; omega)
theorem box_chg {w w' : World} {g k : Nat} {o : Obj} (h : w.heap[k]? = some o) (hg : Chg w w' [g]) (hne : k ≠ g) : w'.heap[k]? = some o := (hg.block k (bx_lt h) (fun hm => hne (by simpa using hm))).trans h

/-- a result variable of a struct type, read from its box -/
theorem results_box {P : Program} {fn : Func} {tmps : Array Value} {w : World} {p k : Nat} {cs : Array Value} {t T : TypeId} {fs : Array Field} (hr : fn.results = #[.cell k t]) (ht : tmps[k]? = some (.pointer (some ⟨p, 0, none⟩)))
    (hu : P.underlying t = some (.struct fs)) (hie : (P.info? t).map (·.size) = some cs.size) (hb : w.heap[p]? = some (.cells cs T (0, 0))) : (results fn tmps).run P w = .ok (.agg cs) w := by
  have h1 := run_loadCells_list (P := P) w ⟨p, 0, none⟩ cs.toList (fun j v h => by rw [Addr.add_lit, Nat.zero_add, bx_cell hb j]; simpa using h)
  obtain ⟨ie, hie, hs⟩ := Option.map_eq_some_iff.1 hie
  rw [Array.length_toList] at h1
  have hagg := isAgg_struct hu w
  have hti : (typeInfo t).run P w = .ok ie w := by simp [typeInfo, hie, go_sem]
  have hload : (loadVar t ⟨p, 0, none⟩).run P w = .ok (.agg cs) w := by
    simp [loadVar, hagg, sizeOf, hti, hs, h1, Result.andThen]
  simp [results, hr, ht, asAddr, hload]
end Go.Proofs.YtmpjokdidomafaaGreat
