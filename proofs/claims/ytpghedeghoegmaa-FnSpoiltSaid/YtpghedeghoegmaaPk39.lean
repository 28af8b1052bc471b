/- Rows of bytes: equal, marked, held, copied. -/
import Derived.Test.YtpghedeghoegmaaPk24
import Derived.Test.YtpghedeghoegmaaRows
import Derived.Test.YtpghedeghoegmaaPk1
import Derived.OpenShut
import Derived.Carry
import Derived.Lib.SmallJoins
import Derived.Deep.Slices
import Derived.Deep.Fields
import Derived.Test.YtpghedeghoegmaaProg
import Derived.Test.YtpghedeghoegmaaPk16
import Derived.Test.YtpghedeghoegmaaPk38
import Derived.Test.YtpghedeghoegmaaPk35
import Derived.Test.YtpghedeghoegmaaPk36
import Derived.Laws.IdiomStrings
namespace Go.Proofs.Ytpghedeghoegmaa
open Go.ChangeShapes Go.WideShapes Go.ChangeAt Go.RowKit Go.Sort
set_option linter.unusedVariables false
set_option linter.unusedSimpArgs false
end Go.Proofs.Ytpghedeghoegmaa
namespace Go.Proofs.Ytpghedeghoegmaa
open Go.ChangeShapes Go.WideShapes Go.ChangeAt Go.RowKit Go.Joins Go.Deep
set_option linter.unusedVariables false
theorem own : ownKnob Try.prog.godebug = none := by kernel_rfl
theorem laidOut : laidOutB Try.prog = true := by kernel_rfl
theorem trodAll_stays {P : Program} (laid : laidOutB P = true) {H : Type} {enc : TypeId × Value → H} {W W' : World} (hx : Ext W W') : ∀ (ts : List TypeId) (vs : List Value) (ds : List (DataW H)) (ps : List MemPlace),
  (ts.all fun t => P.readableRec t && decide (t < P.types.size)) = true → (∀ x ∈ ps, x.block < W.heap.size) → DataW.TrodAll enc P W 0 (fun _ => true) true ts vs ds ps →
  DataW.TrodAll enc P W' 0 (fun b => decide (b < W.heap.size)) true ts vs ds ps
 | [], [], [], ps, _, _, h => h
 | t :: ts, v :: vs, d :: ds, ps, hr, hlt, h => by
  obtain ⟨p, q, h1, h2, rfl⟩ := h
  simp only [List.all_cons, Bool.and_eq_true, decide_eq_true_eq] at hr
  exact ⟨p, q, Below.trod laid hr.1.1 hr.1.2 h1 hx (fun x hx => hlt x (List.mem_append_left _ hx)), trodAll_stays laid hx ts vs ds q hr.2 (fun x hx => hlt x (List.mem_append_right _ hx)) h2, rfl⟩
 | [], [], _ :: _, _, _, _, h => h.elim
 | [], _ :: _, [], _, _, _, h => h.elim
 | [], _ :: _, _ :: _, _, _, _, h => h.elim
 | _ :: _, [], [], _, _, _, h => h.elim
 | _ :: _, [], _ :: _, _, _, _, h => h.elim
 | _ :: _, _ :: _, [], _, _, _, h => h.elim
theorem law_post {P : Program} {T : TypeId} (laid : laidOutB P = true) (hbool : P.underlying T = some .bool) {H : Type} {enc : TypeId × Value → H} {s : ChangeSpec} {f : Func} {W W' : World} {args : Array Value} {ds : List (DataW H)} {before : List MemPlace}
  (hW : DataW.Whole enc P f.params.toList s.vars false W args.toList ds [] before) (hx : Ext W W') (hv : s.vars = []) (hr : (s.fn H (ds ++ [])).results = [.lit (.bool true)]) (ha : (s.fn H (ds ++ [])).args = ds) (hvs : (s.fn H (ds ++ [])).vars = [])
  (hts : (f.params.toList.all fun t => P.readableRec t && decide (t < P.types.size)) = true) (hres : f.resultTypes = #[T]) :
  s.post enc P f false true false false W args (.bool true) W' := by
 have hlt : ∀ x ∈ before, x.block < W.heap.size := fun x hx => hW.lt x hx
 have hW2 := hW
 obtain ⟨p, q, hA, hV, rfl, hfz, hnd⟩ := hW
 have hq : q = [] := by
  rw [hv] at hV
  exact hV
 subst hq
 refine ⟨ds, [], _, [], p, [], hW2, ?_, ?_, ?_, hx.frame _, fun h => by cases h⟩
 ·rw [hr, hres]
  exact trodAll_mk1 (shut_bool hbool _)
 ·rw [ha]
  exact trodAll_stays laid hx _ _ _ _ hts (fun x hx => hlt x (List.mem_append_left _ hx)) hA
 ·rw [hvs, hv]
  rfl
end Go.Proofs.Ytpghedeghoegmaa
namespace Go.Proofs.Ytpghedeghoegmaa
open Go.ChangeShapes Go.WideShapes Go.ChangeAt Go.RowKit Go.Sort
set_option linter.unusedVariables false
structure Rng where
 lo : Int
 hi : Int
deriving DecidableEq
def Rng.enc (r : Rng) : List Value := [.int .i64 r.lo, .int .i64 r.hi]
abbrev Rng.agg (r : Rng) : Value := .agg #[.int .i64 r.lo, .int .i64 r.hi]
def Rng.ok (r : Rng) : Bool := decide (0 ≤ r.lo) && decide (r.lo < r.hi) && decide (r.hi ≤ 1000)
def Rng.zero : Rng := ⟨0, 0⟩
end Go.Proofs.Ytpghedeghoegmaa
namespace Go.Proofs.Ytpghedeghoegmaa
open Go.ChangeShapes Go.WideShapes Go.ChangeAt Go.RowKit Go.Joins Go.Deep
set_option linter.unusedVariables false
def BytesR (w : World) (A : Option Addr) (n : Nat) : Prop := 0 < n → ∃ b o, A = some ⟨b, o, none⟩ ∧ b < w.heap.size ∧ ∀ k, k < n → ∃ y : Nat, y ≤ 255 ∧ w.cell? ⟨b, o + k, none⟩ = some (.int .u8 y)
theorem Try.cellsU8 : Try.prog.cellsOf 5 = 1 := by kernel_rfl
set_option maxRecDepth 100000 in
theorem open_code {H : Type} {enc : TypeId × Value → H} {W : World} {base b0 : Nat} {sp : Nat → Bool} {held : Bool} {v : Value} {d : DataW H} {p : List MemPlace}
  (hv : Value.okWide Try.prog W .any base 34 v) (h : DataW.Trod enc Try.prog W b0 sp held 34 v d p) : ∃ A n c, v = .slice A n c ∧ n ≤ c ∧ c ≤ maxLen ∧ BytesR W A n := by
 obtain ⟨a0, len, cap, rfl⟩ := okWide_slice Try.underlying34 hv
 obtain ⟨fuel, hf⟩ := h
 rcases open_slice Try.underlying34 hf with ⟨hcs, hx⟩ | ⟨a, len', cap', m, n, D, Pl, hcs, hb, hl, hm, hmm, hx, hi⟩
 ·simp only [Value.cells, List.cons.injEq, and_true, Value.slice.injEq] at hcs
  obtain ⟨rfl, rfl, rfl⟩ := hcs
  exact ⟨none, 0, 0, rfl, Nat.le_refl _, by unfold maxLen; omega, fun h => absurd h (by simp)⟩
 ·simp only [Value.cells, List.cons.injEq, and_true, Value.slice.injEq] at hcs
  obtain ⟨rfl, rfl, rfl⟩ := hcs
  have hlm : len ≤ m := by rw [hmm]; split <;> omega
  refine ⟨some a, len, cap, rfl, hl, hm, fun hpos => ?_⟩
  have each : ∀ i, i < len → ∃ y : Nat, y ≤ 255 ∧ W.cell? (a.add i) = some (.int .u8 y) := by
   intro i hin
   obtain ⟨cs', hc, ht'⟩ := hi i (by omega)
   rw [Try.cellsU8, Nat.mul_one] at hc
   obtain ⟨_, hcl, hat⟩ := World.cells?_some hc
   obtain ⟨z, hz, _, hwf⟩ := DataW.trod_int Try.underlying5 ht'
   have h0 := hat 0 (by omega)
   rw [hz] at h0
   have hb2 : 0 ≤ z ∧ z ≤ 255 := by simpa [Lit.wf, IntKind.min, IntKind.max, IntKind.signed, IntKind.bits] using hwf
   refine ⟨z.toNat, by omega, ?_⟩
   rw [show ((z.toNat : Nat) : Int) = z by omega]
   simpa [Addr.add] using h0
  obtain ⟨b, o, s⟩ := a
  obtain ⟨y0, _, hc0⟩ := each 0 hpos
  have hs : s = none := by
   cases s with
   | none => rfl
   | some q =>
    exfalso
    simp [Addr.add, World.cell?] at hc0
    split at hc0 <;> simp at hc0
  subst hs
  have hlt : b < W.heap.size := by
   have := block_lt_of_cell hc0
   simpa [Addr.add] using this
  refine ⟨b, o, rfl, hlt, fun k hk => ?_⟩
  obtain ⟨y, hy, hc⟩ := each k hk
  refine ⟨y, hy, ?_⟩
  rwa [Addr.add_lit] at hc
end Go.Proofs.Ytpghedeghoegmaa
namespace Go.Proofs.Ytpghedeghoegmaa
open Go.ChangeShapes Go.WideShapes Go.ChangeAt Go.RowKit Go.Joins Go.Deep Go.Sort
set_option linter.unusedVariables false
set_option linter.unusedSimpArgs false
theorem LgQ.own {w : World} {B : Nat} {a : LAd} {l : Lg} (h : LgQ w B a l) : LgO w B w.heap.size a l := lgO_of h.1 h.2.1 h.2.2
theorem conv_bytes (w : World) (A : Option Addr) (c : Nat) (b : List Nat) (h : Rd bEnc 1 w A c b) (hb : Byt b) (h0 : 0 < b.length) : (convert 34 9 (.slice A b.length c)).run Try.prog w = .ok (.string ⟨(b.map UInt8.ofNat).toArray⟩) w := by
 obtain ⟨g, o, rfl, _, hcell⟩ := h.atB h0
 have := run_convert_bytes_back (P := Try.prog) w 34 9 5 ⟨g, o, none⟩ c (b.map UInt8.ofNat) Try.underlying34 Try.underlying5 Try.underlying9 (fun j hj => by
  have hj' : j < b.length := by simpa using hj
  have h1 := h.cellB (j := j) (x := b[j]) (List.getElem?_eq_getElem hj')
  have h2 := hb b[j] (List.getElem_mem hj')
  rw [Addr.add_lit]
  simp only [List.getElem_map, UInt8.toNat_ofNat']
  rw [h1, Nat.mod_eq_of_lt h2])
 rw [List.length_map] at this
 exact this
theorem unpack_bad {b : List Nat} {m : Mg} {k : Int} (h : unpackM b = (m, k)) (hk : k ≠ 0) : m = Mg.z := by
 unfold unpackM at h
 split at h
 ·unfold rdBody at h
  (repeat' split at h) <;> first | (simp only [Prod.mk.injEq] at h; exact h.1.symm) | (simp only [Prod.mk.injEq] at h; exact absurd h.2.symm hk)
 ·simp only [Prod.mk.injEq] at h
  exact h.1.symm
theorem rd9 {α : Type} (enc : α → List Value) (sz : Nat) (w : World) : Rd enc sz w none 0 [] := ⟨Nat.le_refl _, by unfold maxLen; omega, fun h => absurd h (by simp)⟩
theorem lgz (w : World) : LgR w LAd.none Mg.z.log := ⟨rd9 _ _ _, rd9 _ _ _, rd9 _ _ _⟩
theorem code_keep {w w0 : World} {A : Option Addr} {n : Nat} (hn : n ≤ 1048576) (hb : BytesR w A n) (x0 : Ext w w0) : CodeOk w0 A n w0.heap.size := ⟨hn, fun h0 => by
 obtain ⟨b, o, e, hbl, hcell⟩ := hb h0
 exact ⟨b, o, e, Nat.lt_of_lt_of_le hbl x0.size, fun k hk => by
  obtain ⟨y, hy, hy2⟩ := hcell k hk
  exact ⟨y, hy, (old_cell x0 hbl).trans hy2⟩⟩⟩
theorem fit_lens {m : Mg} (h : iFits m = true) : m.log.cells.length ≤ 40 ∧ m.log.seats.length ≤ 10 ∧ m.log.ents.length ≤ 60 := by
 unfold iFits at h
 rw [Bool.and_eq_true] at h
 have h1 := h.2
 unfold iLog at h1
 split at h1
 ·rw [Bool.and_eq_true] at h1
  exact log_lens (hasNum_ok h1.1).1
 ·rw [isZ_eq h1]
  exact ⟨by show 0 ≤ 40; omega, by show 0 ≤ 10; omega, by show 0 ≤ 60; omega⟩
theorem zero_lens : Mg.z.log.cells.length ≤ 40 ∧ Mg.z.log.seats.length ≤ 10 ∧ Mg.z.log.ents.length ≤ 60 := ⟨by show 0 ≤ 40; omega, by show 0 ≤ 10; omega, by show 0 ≤ 60; omega⟩
theorem body_lens (b : List Nat) : (rdBody b).1.log.cells.length ≤ 40 ∧ (rdBody b).1.log.seats.length ≤ 10 ∧ (rdBody b).1.log.ents.length ≤ 60 := by
 unfold rdBody
 split
 ·exact zero_lens
 ·split
  ·exact zero_lens
  ·split
   ·exact zero_lens
   ·split
    ·exact zero_lens
    ·split
     ·rename_i h
      exact fit_lens h
     ·exact zero_lens
theorem unpack_lens (b : List Nat) : (unpackM b).1.log.cells.length ≤ 40 ∧ (unpackM b).1.log.seats.length ≤ 10 ∧ (unpackM b).1.log.ents.length ≤ 60 := by
 unfold unpackM
 split
 ·exact body_lens _
 ·exact zero_lens
theorem unpack_small {b : List Nat} {m : Mg} {k : Int} (h : unpackM b = (m, k)) : m.log.small := by
 obtain ⟨h1, h2, h3⟩ := unpack_lens b
 rw [h] at h1 h2 h3
 simp only at h1 h2 h3
 exact ⟨by show m.log.cells.length ≤ 1048576; omega, by show m.log.seats.length ≤ 1048576; omega, by show m.log.ents.length ≤ 1048576; omega⟩
theorem c_sUnp (A : Option Addr) (c : Nat) (b : List Nat) (m : Mg) (k : Int) (hM : unpackM b = (m, k)) (w : World) (hr : Rd bEnc 1 w A c b) (hb : Byt b) (hn : b.length ≤ 1048576) : Calls Try.prog 16 #[.slice A b.length c] w fun e w' => (∃ a, e = .returned (.tuple #[Mg.val a m, .int .i64 k]) ∧ LgR w' a m.log) ∧ Ext w w' := by
 refine (c_sUnpackMsg A c b w hr hb hn).mono ?_
 rintro e w' ⟨⟨v, he, a, hv, hl⟩, hx⟩
 rw [hM] at hv hl
 subst hv
 exact ⟨⟨a, he, hl.rd⟩, hx⟩
theorem c_iUnp (A : Option Addr) (c : Nat) (b : List Nat) (m : Mg) (k : Int) (hM : unpackM b = (m, k)) (w : World) (hr : Rd bEnc 1 w A c b) (hb : Byt b) (hn : b.length ≤ 1048576) : Calls Try.prog 18 #[.slice A b.length c] w fun e w' => (∃ a, e = .returned (.tuple #[Mg.val a m, .int .i64 k]) ∧ LgR w' a m.log) ∧ Ext w w' := by
 refine (c_iUnpackMsg A c b w hr hb hn).mono ?_
 rintro e w' ⟨⟨v, he, a, hv, hl⟩, hx⟩
 rw [hM] at hv hl
 subst hv
 exact ⟨⟨a, he, hl.f.rd⟩, hx⟩
theorem packV_yes {m : Mg} (h : iFits m = true) : packV m = (packM m, true) := by unfold packV; rw [h]; rfl
theorem packV_no {m : Mg} (h : iFits m = false) : packV m = ([], false) := by unfold packV; rw [h]; rfl
end Go.Proofs.Ytpghedeghoegmaa
