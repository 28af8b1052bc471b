/- A store of what a call handed back, in a region that draws its order: one box turns from what it was to what is good. No program in sight. -/
import Derived.Test.YtmphedkbdlckhaaGreatPk28
import Derived.Test.YtmphedkbdlckhaaGreatPk23
import Derived.Test.YtmphedkbdlckhaaGreatPk9
namespace Go.Proofs.YtmphedkbdlckhaaGreat
open Go.ChangeShapes Go.WideShapes Go.ChangeAt Go.RowKit Go.Sort
set_option linter.unusedVariables false
set_option linter.unusedSimpArgs false
def Shp (p k : Nat) (T : TypeId) (W : World) : Prop := ∃ old : Array Value, W.heap[p]? = some (.cells old T (0, 0)) ∧ old.size = k
def relG (p k : Nat) (T : TypeId) (G : World → Prop) (hG : ∀ a b, G a → Ext a b → G b) (B : Nat) (hp : p < B) : Rc.Rel where
 rel a b := Chg a b [p] ∧ (G a → G b) ∧ (Shp p k T a → Shp p k T b)
 base := B
 refl w := ⟨Chg.refl w _, id, id⟩
 trans a b c h k := ⟨h.1.trans k.1, fun g => k.2.1 (h.2.1 g), fun g => k.2.2 (h.2.2 g)⟩
 ext a b h := ⟨chg_ext _ h, fun g => hG a b g h, fun ⟨old, h1, h2⟩ => ⟨old, h.box h1, h2⟩⟩
 size a b h := h.1.size
 keep a b h q hq hlt := h.1.block q hlt (by rw [Mi]; omega)
theorem relG_box {p k q B : Nat} {T : TypeId} {G : World → Prop} {hG : ∀ a b, G a → Ext a b → G b} {hp : p < B} {o : Obj} {w : World} (h : w.heap[q]? = some o) (hne : q ≠ p) : ∀ W, (relG p k T G hG B hp).rel w W → W.heap[q]? = some o :=
 fun W hW => (hW.1.block q (bx_lt h) (by rw [Mi]; exact hne)).trans h
variable {P : Program} {ops : Array Oper} {w : World} {L : (World → Prop) → Act → Prop} {o : Oper} {rest : List Oper} {C : World → Prop} {ps : List Nat} {a : Act} {Bn : Rc.Bnd}
theorem wpMix_stG {p k B : Nat} {T ty : TypeId} {G : World → Prop} {hG : ∀ a b, G a → Ext a b → G b} {hp : p < B} {x y : Operand} {cs : Array Value} (hSh : Shp p k T w) (hop : o.op = .store ty x y) (hd : o.dst = none) (hw : Region.wanted o (yielded ops a.tmps) = true)
  (hx : a.eval x = .pointer (some ⟨p, 0, none⟩)) (hy : a.eval y = .agg cs) (hi : (P.info? ty).map (·.size) = some cs.size) (hk : cs.size = k) (h1 : cs.all (·.oneCell') = true) (hC : ∀ W, C W → (relG p k T G hG B hp).rel w W)
  (hres : ∀ W W', C W → W'.heap[p]? = some (.cells cs T (0, 0)) → Chg W W' [p] → G W')
  (h : Rc.Mx (relG p k T G hG B hp) P ops ((relG p k T G hG B hp).rel w) Bn L rest (fun W => C W ∧ G W) ps (a.put none undef)) :
  Rc.Mx (relG p k T G hG B hp) P ops ((relG p k T G hG B hp).rel w) Bn L (o :: rest) C ps a := by
 refine Rc.wpMix_store (fun _ W => G W) hop hw (fun v a b h hx => hx.2.1 h) (fun W hW => ?_) (fun v hv => ?_)
 ·obtain ⟨old, hg, hs⟩ := (hC W hW).2.2 hSh
  have hset := setRow_heap W p old cs T (0, 0) hg
  have hch := chg_setRow W p cs
  have hgood := hres W _ hW hset hch
  refine ⟨W.setRow p cs, ?_, hgood, hch, fun _ => hgood, fun _ => ⟨cs, hset, hk⟩⟩
  unfold execOp
  simp only [hop, hx, hy, Instr.storeAt, Instr.sureAddr, Sem.run_bind, Sem.run_pure, Result.andThen_ok, run_storeVar_row W p T ty old cs hg hi (hs.trans hk.symm) h1]
 ·rw [hd]
  exact h
theorem results_three {P : Program} {fn : Func} {tmps : Array Value} {w : World} {p k i j : Nat} {v u : Value} {cs : Array Value} {t T : TypeId} {fs : Array Field} (hr : fn.results = #[.cell k t, .tmp i, .tmp j]) (ht : tmps[k]? = some (.pointer (some ⟨p, 0, none⟩))) (hi : tmps[i]? = some v) (hj : tmps[j]? = some u)
  (hu : P.underlying t = some (.struct fs)) (hie : (P.info? t).map (·.size) = some cs.size) (hb : w.heap[p]? = some (.cells cs T (0, 0))) : (results fn tmps).run P w = .ok (.tuple #[.agg cs, v, u]) w := by
 have h1 := run_loadCells_list (P := P) w ⟨p, 0, none⟩ cs.toList (fun j v h => by rw [Addr.add_lit, Nat.zero_add, bx_cell hb j]; simpa using h)
 obtain ⟨ie, hie, hs⟩ := Option.map_eq_some_iff.1 hie
 rw [Array.length_toList] at h1
 have hagg := isAgg_struct hu w
 have hti : (typeInfo t).run P w = .ok ie w := by simp [typeInfo, hie, go_sem]
 have hload : (loadVar t ⟨p, 0, none⟩).run P w = .ok (.agg cs) w := by
  simp [loadVar, hagg, sizeOf, hti, hs, h1, Result.andThen]
 simp [results, hr, ht, hi, hj, asAddr, hload]
end Go.Proofs.YtmphedkbdlckhaaGreat
