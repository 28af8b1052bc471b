/- append of a row that is read to an empty row, inside a region that draws its order. No program in sight. -/
import Derived.Test.YtpghedeghoegmaaPk24
import Derived.Test.YtpghedeghoegmaaPk8
import Derived.Test.YtpghedeghoegmaaPk11
import Derived.Test.YtpghedeghoegmaaPk23
import Derived.Test.YtpghedeghoegmaaPk6
namespace Go.Proofs.Ytpghedeghoegmaa
open Go.ChangeShapes Go.WideShapes Go.ChangeAt Go.RowKit Go.Sort
set_option linter.unusedVariables false
set_option linter.unusedSimpArgs false

/-- a slice that reads as the list, its row one's own if it is not empty -/
def SlV {α : Type} (enc : α → List Value) (e : TypeId) (sz B : Nat) (l : List α) (v : Value) (w : World) : Prop := ∃ A c, v = .slice A l.length c ∧ Rd enc sz w A c l ∧ (0 < c → Ow enc e sz w B (.slice A l.length c) l)
theorem SlV.mono {α : Type} (enc : α → List Value) (e : TypeId) (sz B : Nat) (l : List α) : Mono (SlV enc e sz B l) := fun v w w' ⟨A, c, h, hr, hb⟩ hx => ⟨A, c, h, hr.keep hx, fun hl => (hb hl).kept hx⟩
/-- the slice reads so, its row one's own if it is not empty -/
def RdF {α : Type} (enc : α → List Value) (e : TypeId) (sz : Nat) (w : World) (B : Nat) (A : Option Addr) (c : Nat) (l : List α) : Prop := Rd enc sz w A c l ∧ (0 < c → Ow enc e sz w B (.slice A l.length c) l)
theorem SlV.rdF {α : Type} {enc : α → List Value} {e : TypeId} {sz B : Nat} {l : List α} {A : Option Addr} {n c : Nat} {w : World} (h : SlV enc e sz B l (.slice A n c) w) : RdF enc e sz w B A c l := by
  obtain ⟨A', c', he, hr, hb⟩ := h
  simp only [Value.slice.injEq] at he
  obtain ⟨rfl, _, rfl⟩ := he
  exact ⟨hr, hb⟩
theorem SlV.rd {α : Type} {enc : α → List Value} {e : TypeId} {sz B : Nat} {l : List α} {A : Option Addr} {n c : Nat} {w : World} (h : SlV enc e sz B l (.slice A n c) w) : Rd enc sz w A c l := h.rdF.1
theorem RdF.keep {α : Type} {enc : α → List Value} {e : TypeId} {sz : Nat} {w w' : World} {B : Nat} {A : Option Addr} {c : Nat} {l : List α} (h : RdF enc e sz w B A c l) (hx : Ext w w') : RdF enc e sz w' B A c l := ⟨h.1.keep hx, fun hl => (h.2 hl).kept hx⟩
theorem RdF.chg {α : Type} {enc : α → List Value} {e : TypeId} {sz : Nat} {w w' : World} {B : Nat} {A : Option Addr} {c : Nat} {l : List α} {S : List Nat} (hsz : ∀ x, (enc x).length = sz) (h : RdF enc e sz w B A c l) (hg : Chg w w' S) (hS : 0 < c → ∀ k ∈ blk A, k ∉ S) : RdF enc e sz w' B A c l := by
  by_cases hl : 0 < c
  · have h1 := (h.2 hl).chg hg (hS hl)
    exact ⟨(h1.rd hsz).2, fun _ => h1⟩
  · exact ⟨⟨h.1.1, h.1.2.1, fun h9 => absurd (Nat.lt_of_lt_of_le h9 h.1.1) hl⟩, fun h => absurd h hl⟩
theorem RdF.less {α : Type} {enc : α → List Value} {e : TypeId} {sz : Nat} {w : World} {B B' : Nat} {A : Option Addr} {c : Nat} {l : List α} (h : RdF enc e sz w B A c l) (hB : B' ≤ B) : RdF enc e sz w B' A c l := ⟨h.1, fun hl => (h.2 hl).less hB⟩
theorem RdF.nil {α : Type} (enc : α → List Value) (e : TypeId) (sz : Nat) (w : World) (B : Nat) : RdF enc e sz w B none 0 ([] : List α) := ⟨⟨Nat.le_refl _, by unfold maxLen; omega, fun h => absurd h (by simp)⟩, fun h => absurd h (by simp)⟩
theorem Ow.rdF {α : Type} {enc : α → List Value} {e : TypeId} {sz : Nat} {w : World} {B : Nat} {A : Option Addr} {c : Nat} {l : List α} (hsz : ∀ x, (enc x).length = sz) (h : Ow enc e sz w B (.slice A l.length c) l) : RdF enc e sz w B A c l := ⟨(h.rd hsz).2, fun _ => h⟩

end Go.Proofs.Ytpghedeghoegmaa

/- Copies of images and logs, of the reference. -/
namespace Go.Proofs.Ytpghedeghoegmaa
open Go.ChangeShapes Go.WideShapes Go.ChangeAt Go.RowKit Go.Sort
set_option linter.unusedVariables false
set_option linter.unusedSimpArgs false

theorem low_out {α : Type} {enc : α → List Value} {e : TypeId} {sz : Nat} {w : World} {B : Nat} {A : Option Addr} {c : Nat} {l : List α} {S : List Nat} (h : RdF enc e sz w B A c l) (hS : ∀ k ∈ S, k < B) : 0 < c → ∀ k ∈ blk A, k ∉ S := fun hl k hk hm => by
  have h1 := ((h.2 hl).inB k hk).1
  have h2 := hS k hm
  omega
/-- an image's value that reads so, its rows in no block below B -/
def ImgV (B : Nat) (cs : List Cel) (ss : List Sea) (v : Value) (w : World) : Prop := ∃ A c A' c', v = .agg #[.slice A cs.length c, .slice A' ss.length c'] ∧ RdF Cel.enc 101 2 w B A c cs ∧ RdF Sea.enc 103 3 w B A' c' ss
theorem ImgV.mono (B : Nat) (cs : List Cel) (ss : List Sea) : Mono (ImgV B cs ss) := fun v w w' ⟨A, c, A', c', h, h1, h2⟩ hx => ⟨A, c, A', c', h, h1.keep hx, h2.keep hx⟩
theorem ImgV.less {B B' : Nat} {cs : List Cel} {ss : List Sea} {v : Value} {w : World} (h : ImgV B cs ss v w) (hB : B' ≤ B) : ImgV B' cs ss v w := by
  obtain ⟨A, c, A', c', h, h1, h2⟩ := h
  exact ⟨A, c, A', c', h, h1.less hB, h2.less hB⟩
/-- the log reads so, its rows in no block below B -/
structure LgF (w : World) (B : Nat) (a : LAd) (l : Lg) : Prop where
  c : RdF Cel.enc 101 2 w B a.cA a.cc l.cells
  s : RdF Sea.enc 103 3 w B a.sA a.sc l.seats
  e : RdF Ent.enc 105 5 w B a.eA a.ec l.ents
theorem LgF.rd {w : World} {B : Nat} {a : LAd} {l : Lg} (h : LgF w B a l) : LgR w a l := ⟨h.c.1, h.s.1, h.e.1⟩
theorem LgF.keep {w w' : World} {B : Nat} {a : LAd} {l : Lg} (h : LgF w B a l) (hx : Ext w w') : LgF w' B a l := ⟨h.c.keep hx, h.s.keep hx, h.e.keep hx⟩
theorem LgF.chg {w w' : World} {B : Nat} {a : LAd} {l : Lg} {S : List Nat} (h : LgF w B a l) (hg : Chg w w' S) (hS : ∀ k ∈ S, k < B) : LgF w' B a l := ⟨h.c.chg Cel.len hg (low_out h.c hS), h.s.chg Sea.len hg (low_out h.s hS), h.e.chg Ent.len hg (low_out h.e hS)⟩
theorem LgF.less {w : World} {B B' : Nat} {a : LAd} {l : Lg} (h : LgF w B a l) (hB : B' ≤ B) : LgF w B' a l := ⟨h.c.less hB, h.s.less hB, h.e.less hB⟩

end Go.Proofs.Ytpghedeghoegmaa

/- append to a row that is one's own or has no room. No program in sight. -/
namespace Go.Proofs.Ytpghedeghoegmaa
open Go.ChangeShapes Go.WideShapes Go.ChangeAt Go.RowKit Go.Sort
set_option linter.unusedVariables false
set_option linter.unusedSimpArgs false

/-- the blocks lie in or above the base, and hold rows of that type -/
def Typd (w : World) (S : List Nat) (base : Nat) (e : TypeId) : Prop := ∀ k ∈ S, base ≤ k ∧ ∃ cur, w.heap[k]? = some (.cells cur e (0, 0))
theorem Typd.box {w : World} {S : List Nat} {base : Nat} {e T : TypeId} (h : Typd w S base e) {p : Nat} {cs : Array Value} (hb : w.heap[p]? = some (.cells cs T (0, 0))) (hne : T ≠ e) : p ∉ S := fun hm => by
  obtain ⟨_, cur, h2⟩ := h p hm
  rw [h2] at hb
  simp only [Option.some.injEq, Obj.cells.injEq] at hb
  exact hne hb.2.1.symm
theorem Typd.row {w : World} {S : List Nat} {base : Nat} {e e' : TypeId} (h : Typd w S base e) {α : Type} {enc : α → List Value} {sz : Nat} {B : Nat} {A : Option Addr} {c : Nat} {l : List α} (hr : RdF enc e' sz w B A c l) (hne : e' ≠ e) : 0 < c → ∀ k ∈ blk A, k ∉ S := fun h0 k hk hm => by
  obtain ⟨_, cur, h2⟩ := h k hm
  exact box_apart h2 (hr.2 h0) (Ne.symm hne) hk
theorem box_out {w w' : World} {S : List Nat} {p : Nat} {o : Obj} (h : w.heap[p]? = some o) (hg : Chg w w' S) (hn : p ∉ S) : w'.heap[p]? = some o := (hg.block p (bx_lt h) hn).trans h

theorem cel_one (r : Cel) : ∀ u ∈ Cel.enc r, u.oneCell' = true := by
  intro u hu
  simp only [Cel.enc, List.mem_cons, List.not_mem_nil, or_false] at hu
  rcases hu with rfl | rfl <;> rfl
theorem sea_one (r : Sea) : ∀ u ∈ Sea.enc r, u.oneCell' = true := by
  intro u hu
  simp only [Sea.enc, List.mem_cons, List.not_mem_nil, or_false] at hu
  rcases hu with rfl | rfl | rfl <;> rfl
theorem ent_one (r : Ent) : ∀ u ∈ Ent.enc r, u.oneCell' = true := by
  intro u hu
  simp only [Ent.enc, List.mem_cons, List.not_mem_nil, or_false] at hu
  rcases hu with rfl | rfl | rfl | rfl | rfl <;> rfl
end Go.Proofs.Ytpghedeghoegmaa

/- Three results, the first one a struct that is read out of its box. No program in sight. -/
namespace Go.Proofs.Ytpghedeghoegmaa
open Go.ChangeShapes Go.WideShapes Go.ChangeAt Go.RowKit Go.Sort
set_option linter.unusedVariables false
set_option linter.unusedSimpArgs false

theorem results_three {P : Program} {fn : Func} {tmps : Array Value} {w : World} {p k i j : Nat} {v u : Value} {cs : Array Value} {t T : TypeId} {fs : Array Field} (hr : fn.results = #[.cell k t, .tmp i, .tmp j]) (ht : tmps[k]? = some (.pointer (some ⟨p, 0, none⟩))) (hi : tmps[i]? = some v) (hj : tmps[j]? = some u)
    (hu : P.underlying t = some (.struct fs)) (hie : (P.info? t).map (·.size) = some cs.size) (hb : w.heap[p]? = some (.cells cs T (0, 0))) : (results fn tmps).run P w = .ok (.tuple #[.agg cs, v, u]) w := by
  have h1 := run_loadCells_list (P := P) w ⟨p, 0, none⟩ cs.toList (fun j v h => by rw [Addr.add_lit, Nat.zero_add, bx_cell hb j]; simpa using h)
  obtain ⟨ie, hie, hs⟩ := Option.map_eq_some_iff.1 hie
  rw [Array.length_toList] at h1
  have hagg := isAgg_struct hu w
  have hti : (typeInfo t).run P w = .ok ie w := by simp [typeInfo, hie, go_sem]
  have hload : (loadVar t ⟨p, 0, none⟩).run P w = .ok (.agg cs) w := by
    simp [loadVar, hagg, sizeOf, hti, hs, h1, Result.andThen]
  simp [results, hr, ht, hi, hj, asAddr, hload]
end Go.Proofs.Ytpghedeghoegmaa

