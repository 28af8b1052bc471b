/- The frame of every law's proof: what the row asks behind a walk that returns true and only makes new memory. -/
import Derived.Test.YtpghedeghoegmaaRows
import Derived.Test.YtpghedeghoegmaaPk1
import Derived.OpenShut
import Derived.Carry
import Derived.Lib.SmallJoins
import Derived.Deep.Slices
import Derived.Deep.Fields
import Derived.Laws.CopyRow
import Derived.Laws.Tables
import Derived.Lib.AppendZerosOnto
import Derived.Lib.Overlaps
import Derived.Laws.Externs
namespace Go.Proofs.Ytpghedeghoegmaa
open Go.ChangeShapes Go.WideShapes Go.ChangeAt Go.RowKit Go.Joins Go.Deep
set_option linter.unusedVariables false

theorem own : ownKnob Try.prog.godebug = none := by kernel_rfl
theorem laidOut : laidOutB Try.prog = true := by kernel_rfl

theorem trodAll_stays {P : Program} (laid : laidOutB P = true) {H : Type} {enc : TypeId × Value → H} {W W' : World} (hx : Ext W W') : ∀ (ts : List TypeId) (vs : List Value) (ds : List (DataW H)) (ps : List MemPlace),
    (ts.all fun t => P.readableRec t && decide (t < P.types.size)) = true → (∀ x ∈ ps, x.block < W.heap.size) → DataW.TrodAll enc P W 0 (fun _ => true) true ts vs ds ps →
    DataW.TrodAll enc P W' 0 (fun b => decide (b < W.heap.size)) true ts vs ds ps
  | [], [], [], ps, _, _, h => h
  | t :: ts, v :: vs, d :: ds, ps, hr, hlt, h => by
    obtain ⟨p, q, h1, h2, rfl⟩ := h
    simp only [List.all_cons, Bool.and_eq_true, decide_eq_true_eq] at hr
    exact ⟨p, q, Below.trod laid hr.1.1 hr.1.2 h1 hx (fun x hx => hlt x (List.mem_append_left _ hx)), trodAll_stays laid hx ts vs ds q hr.2 (fun x hx => hlt x (List.mem_append_right _ hx)) h2, rfl⟩
  | [], [], _ :: _, _, _, _, h => h.elim
  | [], _ :: _, [], _, _, _, h => h.elim
  | [], _ :: _, _ :: _, _, _, _, h => h.elim
  | _ :: _, [], [], _, _, _, h => h.elim
  | _ :: _, [], _ :: _, _, _, _, h => h.elim
  | _ :: _, _ :: _, [], _, _, _, h => h.elim

/-- THE POST OF A LAW: true is handed back, the arguments read as they did, nothing else has turned. -/
theorem law_post {P : Program} {T : TypeId} (laid : laidOutB P = true) (hbool : P.underlying T = some .bool) {H : Type} {enc : TypeId × Value → H} {s : ChangeSpec} {f : Func} {W W' : World} {args : Array Value} {ds : List (DataW H)} {before : List MemPlace}
    (hW : DataW.Whole enc P f.params.toList s.vars false W args.toList ds [] before) (hx : Ext W W') (hv : s.vars = []) (hr : (s.fn H (ds ++ [])).results = [.lit (.bool true)]) (ha : (s.fn H (ds ++ [])).args = ds) (hvs : (s.fn H (ds ++ [])).vars = [])
    (hts : (f.params.toList.all fun t => P.readableRec t && decide (t < P.types.size)) = true) (hres : f.resultTypes = #[T]) :
    s.post enc P f false true false false W args (.bool true) W' := by
  have hlt : ∀ x ∈ before, x.block < W.heap.size := fun x hx => hW.lt x hx
  have hW2 := hW
  obtain ⟨p, q, hA, hV, rfl, hfz, hnd⟩ := hW
  have hq : q = [] := by
    rw [hv] at hV
    exact hV
  subst hq
  refine ⟨ds, [], _, [], p, [], hW2, ?_, ?_, ?_, hx.frame _, fun h => by cases h⟩
  · rw [hr, hres]
    exact trodAll_mk1 (shut_bool hbool _)
  · rw [ha]
    exact trodAll_stays laid hx _ _ _ _ hts (fun x hx => hlt x (List.mem_append_left _ hx)) hA
  · rw [hvs, hv]
    rfl

end Go.Proofs.Ytpghedeghoegmaa

/- Own rows: copied onto, made longer, put out of the way: run equations at any size of element. No program in sight. -/
namespace Go.Proofs.Ytpghedeghoegmaa
open Go.ChangeShapes Go.WideShapes Go.ChangeAt Go.RowKit Go.Sort
set_option linter.unusedVariables false
set_option linter.unusedSimpArgs false

section
variable {P : Program}
end
theorem grown_of_ext {w w' : World} {row : Option Nat} (h : Ext w w') : w.grownBy w' row := ⟨h.os, h.tape, h.output, h.size, fun k hk _ => h.block k hk⟩
theorem box_put {w : World} {P : Nat} {cs : Array Value} {T : TypeId} (h : w.heap[P]? = some (.cells cs T (0, 0))) (k : Nat) (u : Value) : (w.setCell ⟨P, k, none⟩ u).heap[P]? = some (.cells (cs.setIfInBounds k u) T (0, 0)) := by
  rw [setCell_eq_setRow w P k cs T (0, 0) u h]
  exact setRow_heap w P cs _ T (0, 0) h
end Go.Proofs.Ytpghedeghoegmaa

/- Logs, votes, messages, replicas: what they are, and how they lie in memory. No program's code in sight (its types' numbers alone). -/
namespace Go.Proofs.Ytpghedeghoegmaa
open Go.ChangeShapes Go.WideShapes Go.ChangeAt Go.RowKit Go.Sort
set_option linter.unusedVariables false

structure Cel where
  key : Int
  value : Int
deriving DecidableEq
structure Sea where
  client : Int
  req : Int
  answer : Int
deriving DecidableEq
structure Ent where
  client : Int
  req : Int
  kind : Int
  key : Int
  value : Int
deriving DecidableEq
structure Lg where
  base : Int
  cells : List Cel
  seats : List Sea
  ents : List Ent
deriving DecidableEq
structure Vt where
  kind : Int
  frm : Int
  view : Int
  normal : Int
  op : Int
  commit : Int
  log : Lg
deriving DecidableEq
structure Mg where
  kind : Int
  frm : Int
  view : Int
  op : Int
  commit : Int
  normal : Int
  nonce : Int
  client : Int
  req : Int
  answer : Int
  ck : Int
  cx : Int
  cv : Int
  log : Lg
deriving DecidableEq
structure Rp where
  me : Int
  of : Int
  mode : Int
  view : Int
  normal : Int
  commit : Int
  log : Lg
  votes : List Vt
  cell : Int
  nonce : Int
deriving DecidableEq
structure Ot where
  to : Int
  msg : Mg
deriving DecidableEq
def Cel.enc (r : Cel) : List Value := [.int .i64 r.key, .int .i64 r.value]
def Sea.enc (r : Sea) : List Value := [.int .i64 r.client, .int .i64 r.req, .int .i64 r.answer]
def Ent.enc (r : Ent) : List Value := [.int .i64 r.client, .int .i64 r.req, .int .i64 r.kind, .int .i64 r.key, .int .i64 r.value]

theorem Cel.len (r : Cel) : r.enc.length = 2 := rfl
theorem Sea.len (r : Sea) : r.enc.length = 3 := rfl
theorem Ent.len (r : Ent) : r.enc.length = 5 := rfl
/-- where a log's slices lie -/
structure LAd where
  cA : Option Addr
  cc : Nat
  sA : Option Addr
  sc : Nat
  eA : Option Addr
  ec : Nat
def Lg.none : Lg := ⟨0, [], [], []⟩
def LAd.none : LAd := ⟨Option.none, 0, Option.none, 0, Option.none, 0⟩

/-- the log reads so -/
def LgR (w : World) (a : LAd) (l : Lg) : Prop := Rd Cel.enc 2 w a.cA a.cc l.cells ∧ Rd Sea.enc 3 w a.sA a.sc l.seats ∧ Rd Ent.enc 5 w a.eA a.ec l.ents
theorem LgR.keep {w w' : World} {a : LAd} {l : Lg} (h : LgR w a l) (hx : Ext w w') : LgR w' a l := ⟨h.1.keep hx, h.2.1.keep hx, h.2.2.keep hx⟩
theorem LgR.mono {a : LAd} {l : Lg} : Mono (fun _ w => LgR w a l) := fun _ _ _ h hx => h.keep hx

/-- a vote and where its log lies -/
abbrev VtE := LAd × Vt
def VtE.enc (p : VtE) : List Value := [.int .i64 p.2.kind, .int .i64 p.2.frm, .int .i64 p.2.view, .int .i64 p.2.normal, .int .i64 p.2.op, .int .i64 p.2.commit, .int .i64 p.2.log.base, .slice p.1.cA p.2.log.cells.length p.1.cc, .slice p.1.sA p.2.log.seats.length p.1.sc, .slice p.1.eA p.2.log.ents.length p.1.ec]
/-- the votes read so -/
def VsR (w : World) (A : Option Addr) (c : Nat) (ps : List VtE) : Prop := Rd VtE.enc 10 w A c ps ∧ ∀ p ∈ ps, LgR w p.1 p.2.log
theorem VsR.keep {w w' : World} {A : Option Addr} {c : Nat} {ps : List VtE} (h : VsR w A c ps) (hx : Ext w w') : VsR w' A c ps := ⟨h.1.keep hx, fun p hp => (h.2 p hp).keep hx⟩

/-- a sent message and where its log lies -/
abbrev OtE := LAd × Ot
def OtE.enc (p : OtE) : List Value := [.int .i64 p.2.to, .int .i64 p.2.msg.kind, .int .i64 p.2.msg.frm, .int .i64 p.2.msg.view, .int .i64 p.2.msg.op, .int .i64 p.2.msg.commit, .int .i64 p.2.msg.normal, .int .i64 p.2.msg.nonce, .int .i64 p.2.msg.client, .int .i64 p.2.msg.req, .int .i64 p.2.msg.answer, .int .i64 p.2.msg.ck, .int .i64 p.2.msg.cx, .int .i64 p.2.msg.cv,
  .int .i64 p.2.msg.log.base, .slice p.1.cA p.2.msg.log.cells.length p.1.cc, .slice p.1.sA p.2.msg.log.seats.length p.1.sc, .slice p.1.eA p.2.msg.log.ents.length p.1.ec]
def OsR (w : World) (A : Option Addr) (c : Nat) (ps : List OtE) : Prop := Rd OtE.enc 18 w A c ps ∧ ∀ p ∈ ps, LgR w p.1 p.2.msg.log
theorem OsR.keep {w w' : World} {A : Option Addr} {c : Nat} {ps : List OtE} (h : OsR w A c ps) (hx : Ext w w') : OsR w' A c ps := ⟨h.1.keep hx, fun p hp => (h.2 p hp).keep hx⟩

/-! ### the blocks -/
def blk : Option Addr → List Nat
  | Option.none => []
  | some a => [a.block]
theorem ownBlock_blk (A : Option Addr) (n c : Nat) (k : Nat) : (Value.slice A n c).ownBlock = some k ↔ k ∈ blk A := by
  cases A <;> simp [Value.ownBlock, blk, eq_comm]
def LAd.fp (a : LAd) : List Nat := blk a.cA ++ blk a.sA ++ blk a.eA
/-- nothing but these blocks turns -/
structure Chg (w w' : World) (S : List Nat) : Prop where
  os : w'.os = w.os
  tape : w'.tape = w.tape
  output : w'.output = w.output
  size : w.heap.size ≤ w'.heap.size
  block : ∀ k, k < w.heap.size → k ∉ S → w'.heap[k]? = w.heap[k]?
theorem Chg.refl (w : World) (S : List Nat) : Chg w w S := ⟨rfl, rfl, rfl, Nat.le_refl _, fun _ _ _ => rfl⟩
theorem Chg.trans {a b c : World} {S : List Nat} (h : Chg a b S) (k : Chg b c S) : Chg a c S :=
  ⟨k.os.trans h.os, k.tape.trans h.tape, k.output.trans h.output, Nat.le_trans h.size k.size, fun i hi hn => (k.block i (Nat.lt_of_lt_of_le hi h.size) hn).trans (h.block i hi hn)⟩
theorem Chg.more {a b : World} {S S' : List Nat} (h : Chg a b S) (hs : ∀ k, k ∈ S → k ∈ S') : Chg a b S' := ⟨h.os, h.tape, h.output, h.size, fun k hk hn => h.block k hk (fun hm => hn (hs k hm))⟩
theorem chg_grown {w w' : World} {A : Option Addr} {n c : Nat} (h : w.grownBy w' (Value.slice A n c).ownBlock) : Chg w w' (blk A) :=
  ⟨h.os, h.tape, h.output, h.size, fun k hk hn => h.block k hk (fun he => hn ((ownBlock_blk A n c k).1 he.symm))⟩
theorem chg_ext {w w' : World} (S : List Nat) (h : Ext w w') : Chg w w' S := ⟨h.os, h.tape, h.output, h.size, fun k hk _ => h.block k hk⟩
theorem ext_chg {a b c : World} {S : List Nat} (h : Ext a b) (k : Chg b c S) (hS : ∀ g ∈ S, a.heap.size ≤ g) : Ext a c :=
  ⟨k.os.trans h.os, k.tape.trans h.tape, k.output.trans h.output, Nat.le_trans h.size k.size, fun i hi => (k.block i (Nat.lt_of_lt_of_le hi h.size) (fun hm => by have := hS i hm; omega)).trans (h.block i hi)⟩
theorem Ow.chg {α : Type} {enc : α → List Value} {e : TypeId} {sz : Nat} {w w' : World} {B : Nat} {A : Option Addr} {n c : Nat} {l : List α} {S : List Nat} (h : Ow enc e sz w B (.slice A n c) l) (hg : Chg w w' S) (hne : ∀ k, k ∈ blk A → k ∉ S) : Ow enc e sz w' B (.slice A n c) l := by
  refine ⟨h.1, ?_⟩
  rcases h.2 with h2 | ⟨g, cap, cur, hv, hb, hh, r⟩
  · exact .inl h2
  · refine .inr ⟨g, cap, cur, hv, hb, ?_, r⟩
    rw [hg.block g (Array.getElem?_eq_some_iff.1 hh).1 (hne g ((ownBlock_blk A n c g).1 (by rw [hv]; rfl)))]
    exact hh
theorem Ow.inB {α : Type} {enc : α → List Value} {e : TypeId} {sz : Nat} {w : World} {B : Nat} {A : Option Addr} {n c : Nat} {l : List α} (h : Ow enc e sz w B (.slice A n c) l) : ∀ k ∈ blk A, B ≤ k ∧ k < w.heap.size := fun k hk => h.lt k ((ownBlock_blk A n c k).2 hk)

/-- the log is the call's own: its rows lie in new blocks, each in one of its own -/
structure LgO (w : World) (B T : Nat) (a : LAd) (l : Lg) : Prop where
  c : Ow Cel.enc 101 2 w B (.slice a.cA l.cells.length a.cc) l.cells
  s : Ow Sea.enc 103 3 w B (.slice a.sA l.seats.length a.sc) l.seats
  e : Ow Ent.enc 105 5 w B (.slice a.eA l.ents.length a.ec) l.ents
  nd : a.fp.Nodup
  top : ∀ k ∈ a.fp, k < T
theorem LgO.low {w : World} {B T : Nat} {a : LAd} {l : Lg} (h : LgO w B T a l) : ∀ k ∈ a.fp, B ≤ k := fun k hk => by
  unfold LAd.fp at hk
  rw [List.mem_append, List.mem_append] at hk
  rcases hk with (hk | hk) | hk
  · exact (h.c.inB k hk).1
  · exact (h.s.inB k hk).1
  · exact (h.e.inB k hk).1
theorem LgO.lt {w : World} {B T : Nat} {a : LAd} {l : Lg} (h : LgO w B T a l) : ∀ k ∈ a.fp, k < w.heap.size := fun k hk => by
  unfold LAd.fp at hk
  rw [List.mem_append, List.mem_append] at hk
  rcases hk with (hk | hk) | hk
  · exact (h.c.inB k hk).2
  · exact (h.s.inB k hk).2
  · exact (h.e.inB k hk).2
theorem LgO.rd {w : World} {B T : Nat} {a : LAd} {l : Lg} (h : LgO w B T a l) : LgR w a l := ⟨(h.c.rd Cel.len).2, (h.s.rd Sea.len).2, (h.e.rd Ent.len).2⟩
theorem LgO.kept {w w' : World} {B T : Nat} {a : LAd} {l : Lg} (h : LgO w B T a l) (hx : Ext w w') : LgO w' B T a l := ⟨h.c.kept hx, h.s.kept hx, h.e.kept hx, h.nd, h.top⟩
theorem LgO.chg {w w' : World} {B T : Nat} {a : LAd} {l : Lg} {S : List Nat} (h : LgO w B T a l) (hg : Chg w w' S) (hne : ∀ k, k ∈ a.fp → k ∉ S) : LgO w' B T a l := by
  unfold LAd.fp at hne
  exact ⟨h.c.chg hg (fun k hk => hne k (by simp [hk])), h.s.chg hg (fun k hk => hne k (by simp [hk])), h.e.chg hg (fun k hk => hne k (by simp [hk])), h.nd, h.top⟩
theorem LgO.wide {w : World} {B B' T T' : Nat} {a : LAd} {l : Lg} (h : LgO w B T a l) (hB : B' ≤ B) (hT : T ≤ T') : LgO w B' T' a l := ⟨h.c.less hB, h.s.less hB, h.e.less hB, h.nd, fun k hk => by have := h.top k hk; omega⟩

theorem Ow.set {α : Type} {enc : α → List Value} {e : TypeId} {sz : Nat} {w : World} {B : Nat} {v : Value} {l : List α} (h : Ow enc e sz w B v l) {p : Addr} (hp : p.block < B) (u : Value) : Ow enc e sz (w.setCell p u) B v l :=
  ownsRow_setCell h u (fun k hk => by have := h.lt k hk; omega)
theorem LgO.set {w : World} {B T : Nat} {a : LAd} {l : Lg} (h : LgO w B T a l) {p : Addr} (hp : p.block < B) (u : Value) : LgO (w.setCell p u) B T a l := ⟨h.c.set hp u, h.s.set hp u, h.e.set hp u, h.nd, h.top⟩
theorem VtE.len (p : VtE) : (VtE.enc p).length = 10 := rfl
end Go.Proofs.Ytpghedeghoegmaa

