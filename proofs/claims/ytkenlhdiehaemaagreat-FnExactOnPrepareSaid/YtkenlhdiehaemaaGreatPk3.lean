/- Logs, votes, messages, replicas: what they are, and how they lie in memory. No program's code in sight (its types' numbers alone). -/
import Derived.Test.YtkenlhdiehaemaaGreatPk2
namespace Go.Proofs.YtkenlhdiehaemaaGreat
open Go.ChangeShapes Go.WideShapes Go.ChangeAt Go.RowKit Go.Sort
set_option linter.unusedVariables false
structure Cel where
 key : Int
 value : Int
deriving DecidableEq
structure Sea where
 client : Int
 req : Int
 answer : Int
deriving DecidableEq
structure Ent where
 client : Int
 req : Int
 kind : Int
 key : Int
 value : Int
deriving DecidableEq
structure Lg where
 base : Int
 cells : List Cel
 seats : List Sea
 ents : List Ent
deriving DecidableEq
structure Vt where
 kind : Int
 frm : Int
 view : Int
 normal : Int
 op : Int
 commit : Int
 log : Lg
deriving DecidableEq
structure Mg where
 kind : Int
 frm : Int
 view : Int
 op : Int
 commit : Int
 normal : Int
 nonce : Int
 client : Int
 req : Int
 answer : Int
 ck : Int
 cx : Int
 cv : Int
 log : Lg
deriving DecidableEq
structure Rp where
 me : Int
 of : Int
 mode : Int
 view : Int
 normal : Int
 commit : Int
 log : Lg
 votes : List Vt
 cell : Int
 nonce : Int
deriving DecidableEq
structure Ot where
 to : Int
 msg : Mg
deriving DecidableEq
def Cel.enc (r : Cel) : List Value := [.int .i64 r.key, .int .i64 r.value]
def Sea.enc (r : Sea) : List Value := [.int .i64 r.client, .int .i64 r.req, .int .i64 r.answer]
def Ent.enc (r : Ent) : List Value := [.int .i64 r.client, .int .i64 r.req, .int .i64 r.kind, .int .i64 r.key, .int .i64 r.value]
theorem Cel.len (r : Cel) : r.enc.length = 2 := rfl
theorem Sea.len (r : Sea) : r.enc.length = 3 := rfl
theorem Ent.len (r : Ent) : r.enc.length = 5 := rfl
structure LAd where
 cA : Option Addr
 cc : Nat
 sA : Option Addr
 sc : Nat
 eA : Option Addr
 ec : Nat
def Lg.none : Lg := ⟨0, [], [], []⟩
def LAd.none : LAd := ⟨Option.none, 0, Option.none, 0, Option.none, 0⟩
def LgR (w : World) (a : LAd) (l : Lg) : Prop := Rd Cel.enc 2 w a.cA a.cc l.cells ∧ Rd Sea.enc 3 w a.sA a.sc l.seats ∧ Rd Ent.enc 5 w a.eA a.ec l.ents
theorem LgR.keep {w w' : World} {a : LAd} {l : Lg} (h : LgR w a l) (hx : Ext w w') : LgR w' a l := ⟨h.1.keep hx, h.2.1.keep hx, h.2.2.keep hx⟩
theorem LgR.mono {a : LAd} {l : Lg} : Mono (fun _ w => LgR w a l) := fun _ _ _ h hx => h.keep hx
abbrev VtE := LAd × Vt
def VtE.enc (p : VtE) : List Value := [.int .i64 p.2.kind, .int .i64 p.2.frm, .int .i64 p.2.view, .int .i64 p.2.normal, .int .i64 p.2.op, .int .i64 p.2.commit, .int .i64 p.2.log.base, .slice p.1.cA p.2.log.cells.length p.1.cc, .slice p.1.sA p.2.log.seats.length p.1.sc, .slice p.1.eA p.2.log.ents.length p.1.ec]
def VsR (w : World) (A : Option Addr) (c : Nat) (ps : List VtE) : Prop := Rd VtE.enc 10 w A c ps ∧ ∀ p ∈ ps, LgR w p.1 p.2.log
theorem VsR.keep {w w' : World} {A : Option Addr} {c : Nat} {ps : List VtE} (h : VsR w A c ps) (hx : Ext w w') : VsR w' A c ps := ⟨h.1.keep hx, fun p hp => (h.2 p hp).keep hx⟩
abbrev OtE := LAd × Ot
def OtE.enc (p : OtE) : List Value := [.int .i64 p.2.to, .int .i64 p.2.msg.kind, .int .i64 p.2.msg.frm, .int .i64 p.2.msg.view, .int .i64 p.2.msg.op, .int .i64 p.2.msg.commit, .int .i64 p.2.msg.normal, .int .i64 p.2.msg.nonce, .int .i64 p.2.msg.client, .int .i64 p.2.msg.req, .int .i64 p.2.msg.answer, .int .i64 p.2.msg.ck, .int .i64 p.2.msg.cx, .int .i64 p.2.msg.cv,
 .int .i64 p.2.msg.log.base, .slice p.1.cA p.2.msg.log.cells.length p.1.cc, .slice p.1.sA p.2.msg.log.seats.length p.1.sc, .slice p.1.eA p.2.msg.log.ents.length p.1.ec]
def OsR (w : World) (A : Option Addr) (c : Nat) (ps : List OtE) : Prop := Rd OtE.enc 18 w A c ps ∧ ∀ p ∈ ps, LgR w p.1 p.2.msg.log
theorem OsR.keep {w w' : World} {A : Option Addr} {c : Nat} {ps : List OtE} (h : OsR w A c ps) (hx : Ext w w') : OsR w' A c ps := ⟨h.1.keep hx, fun p hp => (h.2 p hp).keep hx⟩
def blk : Option Addr → List Nat
 | Option.none => []
 | some a => [a.block]
theorem ownBlock_blk (A : Option Addr) (n c : Nat) (k : Nat) : (Value.slice A n c).ownBlock = some k ↔ k ∈ blk A := by
 cases A <;> simp [Value.ownBlock, blk, eq_comm]
def LAd.fp (a : LAd) : List Nat := blk a.cA ++ blk a.sA ++ blk a.eA
structure Chg (w w' : World) (S : List Nat) : Prop where
 os : w'.os = w.os
 tape : w'.tape = w.tape
 output : w'.output = w.output
 size : w.heap.size ≤ w'.heap.size
 block : ∀ k, k < w.heap.size → k ∉ S → w'.heap[k]? = w.heap[k]?
theorem Chg.refl (w : World) (S : List Nat) : Chg w w S := ⟨rfl, rfl, rfl, Nat.le_refl _, fun _ _ _ => rfl⟩
theorem Chg.trans {a b c : World} {S : List Nat} (h : Chg a b S) (k : Chg b c S) : Chg a c S :=
 ⟨k.os.trans h.os, k.tape.trans h.tape, k.output.trans h.output, Nat.le_trans h.size k.size, fun i hi hn => (k.block i (Nat.lt_of_lt_of_le hi h.size) hn).trans (h.block i hi hn)⟩
theorem Chg.more {a b : World} {S S' : List Nat} (h : Chg a b S) (hs : ∀ k, k ∈ S → k ∈ S') : Chg a b S' := ⟨h.os, h.tape, h.output, h.size, fun k hk hn => h.block k hk (fun hm => hn (hs k hm))⟩
theorem chg_grown {w w' : World} {A : Option Addr} {n c : Nat} (h : w.grownBy w' (Value.slice A n c).ownBlock) : Chg w w' (blk A) :=
 ⟨h.os, h.tape, h.output, h.size, fun k hk hn => h.block k hk (fun he => hn ((ownBlock_blk A n c k).1 he.symm))⟩
theorem chg_ext {w w' : World} (S : List Nat) (h : Ext w w') : Chg w w' S := ⟨h.os, h.tape, h.output, h.size, fun k hk _ => h.block k hk⟩
theorem ext_chg {a b c : World} {S : List Nat} (h : Ext a b) (k : Chg b c S) (hS : ∀ g ∈ S, a.heap.size ≤ g) : Ext a c :=
 ⟨k.os.trans h.os, k.tape.trans h.tape, k.output.trans h.output, Nat.le_trans h.size k.size, fun i hi => (k.block i (Nat.lt_of_lt_of_le hi h.size) (fun hm => by have := hS i hm; omega)).trans (h.block i hi)⟩
theorem Ow.chg {α : Type} {enc : α → List Value} {e : TypeId} {sz : Nat} {w w' : World} {B : Nat} {A : Option Addr} {n c : Nat} {l : List α} {S : List Nat} (h : Ow enc e sz w B (.slice A n c) l) (hg : Chg w w' S) (hne : ∀ k, k ∈ blk A → k ∉ S) : Ow enc e sz w' B (.slice A n c) l := by
 refine ⟨h.1, ?_⟩
 rcases h.2 with h2 | ⟨g, cap, cur, hv, hb, hh, r⟩
 ·exact .inl h2
 ·refine .inr ⟨g, cap, cur, hv, hb, ?_, r⟩
  rw [hg.block g (Array.getElem?_eq_some_iff.1 hh).1 (hne g ((ownBlock_blk A n c g).1 (by rw [hv]; rfl)))]
  exact hh
theorem Ow.inB {α : Type} {enc : α → List Value} {e : TypeId} {sz : Nat} {w : World} {B : Nat} {A : Option Addr} {n c : Nat} {l : List α} (h : Ow enc e sz w B (.slice A n c) l) : ∀ k ∈ blk A, B ≤ k ∧ k < w.heap.size := fun k hk => h.lt k ((ownBlock_blk A n c k).2 hk)
structure LgO (w : World) (B T : Nat) (a : LAd) (l : Lg) : Prop where
 c : Ow Cel.enc 146 2 w B (.slice a.cA l.cells.length a.cc) l.cells
 s : Ow Sea.enc 149 3 w B (.slice a.sA l.seats.length a.sc) l.seats
 e : Ow Ent.enc 119 5 w B (.slice a.eA l.ents.length a.ec) l.ents
 nd : a.fp.Nodup
 top : ∀ k ∈ a.fp, k < T
theorem LgO.low {w : World} {B T : Nat} {a : LAd} {l : Lg} (h : LgO w B T a l) : ∀ k ∈ a.fp, B ≤ k := fun k hk => by
 unfold LAd.fp at hk
 rw [List.mem_append, List.mem_append] at hk
 rcases hk with (hk | hk) | hk
 ·exact (h.c.inB k hk).1
 ·exact (h.s.inB k hk).1
 ·exact (h.e.inB k hk).1
theorem LgO.lt {w : World} {B T : Nat} {a : LAd} {l : Lg} (h : LgO w B T a l) : ∀ k ∈ a.fp, k < w.heap.size := fun k hk => by
 unfold LAd.fp at hk
 rw [List.mem_append, List.mem_append] at hk
 rcases hk with (hk | hk) | hk
 ·exact (h.c.inB k hk).2
 ·exact (h.s.inB k hk).2
 ·exact (h.e.inB k hk).2
theorem LgO.rd {w : World} {B T : Nat} {a : LAd} {l : Lg} (h : LgO w B T a l) : LgR w a l := ⟨(h.c.rd Cel.len).2, (h.s.rd Sea.len).2, (h.e.rd Ent.len).2⟩
theorem LgO.kept {w w' : World} {B T : Nat} {a : LAd} {l : Lg} (h : LgO w B T a l) (hx : Ext w w') : LgO w' B T a l := ⟨h.c.kept hx, h.s.kept hx, h.e.kept hx, h.nd, h.top⟩
theorem LgO.chg {w w' : World} {B T : Nat} {a : LAd} {l : Lg} {S : List Nat} (h : LgO w B T a l) (hg : Chg w w' S) (hne : ∀ k, k ∈ a.fp → k ∉ S) : LgO w' B T a l := by
 unfold LAd.fp at hne
 exact ⟨h.c.chg hg (fun k hk => hne k (by simp [hk])), h.s.chg hg (fun k hk => hne k (by simp [hk])), h.e.chg hg (fun k hk => hne k (by simp [hk])), h.nd, h.top⟩
theorem LgO.wide {w : World} {B B' T T' : Nat} {a : LAd} {l : Lg} (h : LgO w B T a l) (hB : B' ≤ B) (hT : T ≤ T') : LgO w B' T' a l := ⟨h.c.less hB, h.s.less hB, h.e.less hB, h.nd, fun k hk => by have := h.top k hk; omega⟩
theorem Ow.set {α : Type} {enc : α → List Value} {e : TypeId} {sz : Nat} {w : World} {B : Nat} {v : Value} {l : List α} (h : Ow enc e sz w B v l) {p : Addr} (hp : p.block < B) (u : Value) : Ow enc e sz (w.setCell p u) B v l :=
 ownsRow_setCell h u (fun k hk => by have := h.lt k hk; omega)
theorem LgO.set {w : World} {B T : Nat} {a : LAd} {l : Lg} (h : LgO w B T a l) {p : Addr} (hp : p.block < B) (u : Value) : LgO (w.setCell p u) B T a l := ⟨h.c.set hp u, h.s.set hp u, h.e.set hp u, h.nd, h.top⟩
structure VsO (w : World) (B T : Nat) (A : Option Addr) (c : Nat) (ps : List VtE) : Prop where
 r : Ow VtE.enc 110 10 w B (.slice A ps.length c) ps
 l : ∀ p ∈ ps, LgO w B T p.1 p.2.log
 nd : (blk A ++ ps.flatMap (fun p => p.1.fp)).Nodup
 top : ∀ k ∈ blk A ++ ps.flatMap (fun p => p.1.fp), k < T
theorem VtE.len (p : VtE) : (VtE.enc p).length = 10 := rfl
theorem VsO.rd {w : World} {B T : Nat} {A : Option Addr} {c : Nat} {ps : List VtE} (h : VsO w B T A c ps) : VsR w A c ps := ⟨(h.r.rd VtE.len).2, fun p hp => (h.l p hp).rd⟩
theorem VsO.kept {w w' : World} {B T : Nat} {A : Option Addr} {c : Nat} {ps : List VtE} (h : VsO w B T A c ps) (hx : Ext w w') : VsO w' B T A c ps := ⟨h.r.kept hx, fun p hp => (h.l p hp).kept hx, h.nd, h.top⟩
end Go.Proofs.YtkenlhdiehaemaaGreat
namespace Go.Proofs.YtkenlhdiehaemaaGreat
open Go.ChangeShapes Go.WideShapes Go.ChangeAt Go.RowKit Go.Joins Go.Deep
set_option linter.unusedVariables false
def leafTy (P : Program) : Nat → TypeId → Nat → Option TypeId
 | 0, _, _ => none
 | n + 1, t, j => match P.underlying t with
  | some (.struct fs) => match (List.range fs.size).find? (fun i => match fs[i]? with | some f => decide (f.offset ≤ j) && decide (j < f.offset + P.cellsOf f.type) | none => false) with
   | some i => match fs[i]? with
    | some f => leafTy P n f.type (j - f.offset)
    | none => none
   | none => none
  | some (.int .i64) => if j = 0 then some t else none
  | some (.slice _) => if j = 0 then some t else none
  | some .string => if j = 0 then some t else none
  | _ => none
theorem trod_leaf {H : Type} {enc : TypeId × Value → H} {P : Program} {w : World} {base : Nat} {spare : Nat → Bool} {held : Bool} : ∀ (n : Nat) (t lt : TypeId) (fuel : Nat) (cs : List Value) (x : DataW H × List MemPlace) (j : Nat),
  leafTy P n t j = some lt → DataW.trod enc P w base spare held fuel t cs = some x → ∃ (v : Value) (fuel' : Nat) (x' : DataW H × List MemPlace), cs[j]? = some v ∧ DataW.trod enc P w base spare held fuel' lt [v] = some x'
 | 0, _, _, _, _, _, _, h, _ => by simp [leafTy] at h
 | n + 1, t, lt, fuel, cs, x, j, h, ht => by
  unfold leafTy at h
  split at h
  ·rename_i fs hu
   split at h
   ·rename_i i hfi
    have hp := List.find?_some hfi
    have hm := List.mem_of_find?_eq_some hfi
    split at h
    ·rename_i f hf
     rw [hf] at hp
     simp only [Bool.and_eq_true, decide_eq_true_eq] at hp
     obtain ⟨ys, m, rfl, hy, hlen, hyl, hff⟩ := DataW.trod_struct hu ht
     have h6 := hff i f hf
     have hil : i < ys.length := by rw [hyl]; exact (List.mem_range.1 hm)
     rw [List.getElem?_eq_getElem hil] at h6
     obtain ⟨v, f', x', hv, hx'⟩ := trod_leaf n f.type lt m _ _ (j - f.offset) h h6
     refine ⟨v, f', x', ?_, hx'⟩
     rw [List.getElem?_take, List.getElem?_drop] at hv
     split at hv
     ·rwa [show f.offset + (j - f.offset) = j by omega] at hv
     ·cases hv
    ·cases h
   ·cases h
  ·rename_i hu
   split at h
   ·simp only [Option.some.injEq] at h
    subst h
    rename_i hj
    subst hj
    obtain ⟨z, rfl, _⟩ := DataW.trod_int hu ht
    exact ⟨_, _, _, rfl, ht⟩
   ·cases h
  ·rename_i e hu
   split at h
   ·simp only [Option.some.injEq] at h
    subst h
    rename_i hj
    subst hj
    rcases open_slice hu ht with ⟨rfl, _⟩ | ⟨a, len, cap, m, n, D, Pl, rfl, _⟩
    ·exact ⟨_, _, _, rfl, ht⟩
    ·exact ⟨_, _, _, rfl, ht⟩
   ·cases h
  ·rename_i hu
   split at h
   ·simp only [Option.some.injEq] at h
    subst h
    rename_i hj
    subst hj
    obtain ⟨s, rfl, _⟩ := DataW.trod_string hu ht
    exact ⟨_, _, _, rfl, ht⟩
   ·cases h
  ·cases h
section
variable {H : Type} {enc : TypeId × Value → H} {P : Program} {w : World} {base : Nat} {spare : Nat → Bool} {held : Bool}
def Tr (enc : TypeId × Value → H) (P : Program) (w : World) (base : Nat) (spare : Nat → Bool) (held : Bool) (t : TypeId) (cs : List Value) : Prop := ∃ fuel x, DataW.trod enc P w base spare held fuel t cs = some x
theorem Tr.int {n : Nat} {t lt : TypeId} {cs : List Value} (h : Tr enc P w base spare held t cs) (j : Nat) (hl : leafTy P n t j = some lt) (hu : P.underlying lt = some (.int .i64)) : ∃ z : Int, cs[j]? = some (.int .i64 z) ∧ (Lit.int .i64 z).wf = true := by
 obtain ⟨fuel, x, hx⟩ := h
 obtain ⟨v, f', x', hv, hx'⟩ := trod_leaf n t lt fuel cs x j hl hx
 obtain ⟨z, hz, _, hwf⟩ := DataW.trod_int hu hx'
 simp only [List.cons.injEq, and_true] at hz
 subst hz
 exact ⟨z, hv, hwf⟩
theorem Tr.slice {n : Nat} {t lt e : TypeId} {cs : List Value} (h : Tr enc P w base spare held t cs) (j : Nat) (hl : leafTy P n t j = some lt) (hu : P.underlying lt = some (.slice e)) : ∃ A m c, cs[j]? = some (.slice A m c) ∧ Tr enc P w base spare held lt [.slice A m c] := by
 obtain ⟨fuel, x, hx⟩ := h
 obtain ⟨v, f', x', hv, hx'⟩ := trod_leaf n t lt fuel cs x j hl hx
 rcases open_slice hu hx' with ⟨he, _⟩ | ⟨a, len, cap, m, n, D, Pl, he, _⟩
 ·simp only [List.cons.injEq, and_true] at he
  subst he
  exact ⟨_, _, _, hv, f', x', hx'⟩
 ·simp only [List.cons.injEq, and_true] at he
  subst he
  exact ⟨_, _, _, hv, f', x', hx'⟩
theorem Tr.rows {t e : TypeId} {A : Option Addr} {len cap C : Nat} (h : Tr enc P w base spare held t [.slice A len cap]) (ht : P.underlying t = some (.slice e)) (hC : P.cellsOf e = C) (hpos : 0 < C) :
  len ≤ cap ∧ cap ≤ maxLen ∧ (0 < len → ∃ b o, A = some ⟨b, o, none⟩ ∧ b < w.heap.size ∧ ∀ k, k < len → ∃ cs : List Value, cs.length = C ∧ Tr enc P w base spare held e cs ∧ ∀ j u, cs[j]? = some u → w.cell? ⟨b, o + k * C + j, none⟩ = some u) := by
 obtain ⟨fuel, x, hx⟩ := h
 rcases open_slice ht hx with ⟨hcs, _⟩ | ⟨a, len', cap', m, n, D, Pl, hcs, hb, hl, hm, hmm, _, hi⟩
 ·simp only [List.cons.injEq, and_true, Value.slice.injEq] at hcs
  obtain ⟨rfl, rfl, rfl⟩ := hcs
  exact ⟨Nat.le_refl _, by unfold maxLen; omega, fun h => absurd h (by simp)⟩
 ·simp only [List.cons.injEq, and_true, Value.slice.injEq] at hcs
  obtain ⟨rfl, rfl, rfl⟩ := hcs
  have hlm : len ≤ m := by rw [hmm]; split <;> omega
  refine ⟨hl, hm, fun h0 => ?_⟩
  obtain ⟨b, o, s⟩ := a
  obtain ⟨cs0, hc0, _⟩ := hi 0 (by omega)
  rw [hC] at hc0
  obtain ⟨_, hcl, hat⟩ := World.cells?_some hc0
  have h1 := hat 0 (by omega)
  rw [List.getElem?_eq_getElem (by omega)] at h1
  have hs : s = none := by
   cases s with
   | none => rfl
   | some q =>
    exfalso
    simp [Addr.add, World.cell?] at h1
    split at h1 <;> simp at h1
  subst hs
  have hadd : ∀ x y : Nat, ((⟨b, o, none⟩ : Addr).add x).add y = ⟨b, o + x + y, none⟩ := fun x y => by
   unfold Addr.add
   by_cases hx : x = 0 <;> by_cases hy : y = 0 <;> simp [hx, hy]
  have hlt : b < w.heap.size := by
   have := block_lt_of_cell h1
   rw [hadd] at this
   exact this
  refine ⟨b, o, rfl, hlt, fun k hk => ?_⟩
  obtain ⟨cs, hc, ht'⟩ := hi k (by omega)
  rw [hC] at hc
  obtain ⟨_, hcl', hat'⟩ := World.cells?_some hc
  refine ⟨cs, hcl', ⟨_, _, ht'⟩, fun j u hu => ?_⟩
  have hj : j < C := by
   have := (List.getElem?_eq_some_iff.1 hu).1
   omega
  rw [← hadd, hat' j hj, hu]
theorem pick_list {α : Type} (Q : Nat → α → Prop) : ∀ n, (∀ i, i < n → ∃ x, Q i x) → ∃ l : List α, l.length = n ∧ ∀ i (hi : i < l.length), Q i l[i]
 | 0, _ => ⟨[], rfl, fun i hi => absurd hi (by simp)⟩
 | n + 1, h => by
  obtain ⟨l, hl, hp⟩ := pick_list Q n (fun i hi => h i (by omega))
  obtain ⟨x, hx⟩ := h n (by omega)
  refine ⟨l ++ [x], by simp [hl], fun i hi => ?_⟩
  by_cases hin : i < l.length
  ·rw [List.getElem_append_left hin]; exact hp i hin
  ·have : i = n := by simp at hi; omega
   subst this
   rw [List.getElem_append_right (by omega)]
   simpa [hl] using hx
theorem Tr.list {t e : TypeId} {A : Option Addr} {len cap C : Nat} (h : Tr enc P w base spare held t [.slice A len cap]) (ht : P.underlying t = some (.slice e)) (hC : P.cellsOf e = C) (hpos : 0 < C) {α : Type} (eα : α → List Value) (R : α → Prop)
  (hq : ∀ cs : List Value, cs.length = C → Tr enc P w base spare held e cs → ∃ a : α, eα a = cs ∧ R a) : ∃ l : List α, l.length = len ∧ Rd eα C w A cap l ∧ ∀ a ∈ l, R a := by
 obtain ⟨hl, hm, hr⟩ := h.rows ht hC hpos
 by_cases h0 : 0 < len
 ·obtain ⟨b, o, rfl, hb, hk⟩ := hr h0
  obtain ⟨l, hll, hp⟩ := pick_list (fun k (a : α) => R a ∧ ∀ j u, (eα a)[j]? = some u → w.cell? ⟨b, o + k * C + j, none⟩ = some u) len (fun k hkl => by
   obtain ⟨cs, h1, h2, h3⟩ := hk k hkl
   obtain ⟨a, ha, hR⟩ := hq cs h1 h2
   exact ⟨a, hR, by rw [ha]; exact h3⟩)
  refine ⟨l, hll, ⟨by omega, hm, fun _ => ⟨b, o, rfl, hb, fun k hkk j u hu => (hp k hkk).2 j u hu⟩⟩, fun a ha => ?_⟩
  obtain ⟨i, hi, rfl⟩ := List.getElem_of_mem ha
  exact (hp i hi).1
 ·obtain rfl : len = 0 := by omega
  exact ⟨[], rfl, ⟨by simp, hm, fun h => absurd h (by simp)⟩, by simp⟩
end
theorem list2 {α : Type} {l : List α} (h : l.length = 2) : ∃ a b, l = [a, b] := by match l, h with | [a, b], _ => exact ⟨a, b, rfl⟩
theorem list3 {α : Type} {l : List α} (h : l.length = 3) : ∃ a b c, l = [a, b, c] := by match l, h with | [a, b, c], _ => exact ⟨a, b, c, rfl⟩
theorem list5 {α : Type} {l : List α} (h : l.length = 5) : ∃ a b c d e, l = [a, b, c, d, e] := by match l, h with | [a, b, c, d, e], _ => exact ⟨a, b, c, d, e, rfl⟩
theorem list10 {α : Type} {l : List α} (h : l.length = 10) : ∃ a b c d e f g i j k, l = [a, b, c, d, e, f, g, i, j, k] := by match l, h with | [a, b, c, d, e, f, g, i, j, k], _ => exact ⟨a, b, c, d, e, f, g, i, j, k, rfl⟩
section
variable {H : Type} {enc : TypeId × Value → H} {w : World} {base : Nat} {spare : Nat → Bool} {held : Bool}
theorem tr_cells {A : Option Addr} {n c : Nat} (h : Tr enc Tryz.prog w base spare held 22 [.slice A n c]) : ∃ l : List Cel, l.length = n ∧ Rd Cel.enc 2 w A c l := by
 obtain ⟨l, h1, h2, _⟩ := h.list Tryz.underlying22 (e := 190) (C := 2) (by kernel_rfl) (by decide) Cel.enc (fun _ => True) (fun cs hl ht => by
  obtain ⟨x0, e0, _⟩ := ht.int (n := 3) (lt := 3) 0 (by kernel_rfl) Tryz.underlying3
  obtain ⟨x1, e1, _⟩ := ht.int (n := 3) (lt := 3) 1 (by kernel_rfl) Tryz.underlying3
  obtain ⟨a, b, rfl⟩ := list2 hl
  simp at e0 e1
  subst e0 e1
  exact ⟨⟨x0, x1⟩, rfl, trivial⟩)
 exact ⟨l, h1, h2⟩
theorem tr_seats {A : Option Addr} {n c : Nat} (h : Tr enc Tryz.prog w base spare held 23 [.slice A n c]) : ∃ l : List Sea, l.length = n ∧ Rd Sea.enc 3 w A c l := by
 obtain ⟨l, h1, h2, _⟩ := h.list Tryz.underlying23 (e := 192) (C := 3) (by kernel_rfl) (by decide) Sea.enc (fun _ => True) (fun cs hl ht => by
  obtain ⟨x0, e0, _⟩ := ht.int (n := 3) (lt := 3) 0 (by kernel_rfl) Tryz.underlying3
  obtain ⟨x1, e1, _⟩ := ht.int (n := 3) (lt := 3) 1 (by kernel_rfl) Tryz.underlying3
  obtain ⟨x2, e2, _⟩ := ht.int (n := 3) (lt := 3) 2 (by kernel_rfl) Tryz.underlying3
  obtain ⟨a, b, c, rfl⟩ := list3 hl
  simp at e0 e1 e2
  subst e0 e1 e2
  exact ⟨⟨x0, x1, x2⟩, rfl, trivial⟩)
 exact ⟨l, h1, h2⟩
theorem tr_ents {A : Option Addr} {n c : Nat} (h : Tr enc Tryz.prog w base spare held 26 [.slice A n c]) : ∃ l : List Ent, l.length = n ∧ Rd Ent.enc 5 w A c l := by
 obtain ⟨l, h1, h2, _⟩ := h.list Tryz.underlying26 (e := 173) (C := 5) (by kernel_rfl) (by decide) Ent.enc (fun _ => True) (fun cs hl ht => by
  obtain ⟨x0, e0, _⟩ := ht.int (n := 4) (lt := 3) 0 (by kernel_rfl) Tryz.underlying3
  obtain ⟨x1, e1, _⟩ := ht.int (n := 4) (lt := 3) 1 (by kernel_rfl) Tryz.underlying3
  obtain ⟨x2, e2, _⟩ := ht.int (n := 4) (lt := 3) 2 (by kernel_rfl) Tryz.underlying3
  obtain ⟨x3, e3, _⟩ := ht.int (n := 4) (lt := 3) 3 (by kernel_rfl) Tryz.underlying3
  obtain ⟨x4, e4, _⟩ := ht.int (n := 4) (lt := 3) 4 (by kernel_rfl) Tryz.underlying3
  obtain ⟨a, b, c, d, e, rfl⟩ := list5 hl
  simp at e0 e1 e2 e3 e4
  subst e0 e1 e2 e3 e4
  exact ⟨⟨x0, x1, x2, x3, x4⟩, rfl, trivial⟩)
 exact ⟨l, h1, h2⟩
theorem tr_log {t : TypeId} {cs : List Value} (h : Tr enc Tryz.prog w base spare held t cs) (j : Nat) (h0 : leafTy Tryz.prog 5 t j = some 3) (h1 : leafTy Tryz.prog 5 t (j + 1) = some 22) (h2 : leafTy Tryz.prog 5 t (j + 2) = some 23) (h3 : leafTy Tryz.prog 5 t (j + 3) = some 26) :
  ∃ (a : LAd) (l : Lg), LgR w a l ∧ cs[j]? = some (.int .i64 l.base) ∧ cs[j + 1]? = some (.slice a.cA l.cells.length a.cc) ∧ cs[j + 2]? = some (.slice a.sA l.seats.length a.sc) ∧ cs[j + 3]? = some (.slice a.eA l.ents.length a.ec) := by
 obtain ⟨b, e0, _⟩ := h.int j h0 Tryz.underlying3
 obtain ⟨A1, n1, c1, e1, t1⟩ := h.slice (j + 1) h1 Tryz.underlying22
 obtain ⟨A2, n2, c2, e2, t2⟩ := h.slice (j + 2) h2 Tryz.underlying23
 obtain ⟨A3, n3, c3, e3, t3⟩ := h.slice (j + 3) h3 Tryz.underlying26
 obtain ⟨l1, rfl, r1⟩ := tr_cells t1
 obtain ⟨l2, rfl, r2⟩ := tr_seats t2
 obtain ⟨l3, rfl, r3⟩ := tr_ents t3
 exact ⟨⟨A1, c1, A2, c2, A3, c3⟩, ⟨b, l1, l2, l3⟩, ⟨r1, r2, r3⟩, e0, e1, e2, e3⟩
theorem tr_votes {A : Option Addr} {n c : Nat} (h : Tr enc Tryz.prog w base spare held 29 [.slice A n c]) : ∃ ps : List VtE, ps.length = n ∧ VsR w A c ps := by
 obtain ⟨l, h1, h2, h3⟩ := h.list Tryz.underlying29 (e := 131) (C := 10) (by kernel_rfl) (by decide) VtE.enc (fun p => LgR w p.1 p.2.log) (fun cs hl ht => by
  obtain ⟨x0, e0, _⟩ := ht.int (n := 4) (lt := 3) 0 (by kernel_rfl) Tryz.underlying3
  obtain ⟨x1, e1, _⟩ := ht.int (n := 4) (lt := 3) 1 (by kernel_rfl) Tryz.underlying3
  obtain ⟨x2, e2, _⟩ := ht.int (n := 4) (lt := 3) 2 (by kernel_rfl) Tryz.underlying3
  obtain ⟨x3, e3, _⟩ := ht.int (n := 4) (lt := 3) 3 (by kernel_rfl) Tryz.underlying3
  obtain ⟨x4, e4, _⟩ := ht.int (n := 4) (lt := 3) 4 (by kernel_rfl) Tryz.underlying3
  obtain ⟨x5, e5, _⟩ := ht.int (n := 4) (lt := 3) 5 (by kernel_rfl) Tryz.underlying3
  obtain ⟨a, l, hr, e6, e7, e8, e9⟩ := tr_log ht 6 (by kernel_rfl) (by kernel_rfl) (by kernel_rfl) (by kernel_rfl)
  obtain ⟨y0, y1, y2, y3, y4, y5, y6, y7, y8, y9, rfl⟩ := list10 hl
  simp at e0 e1 e2 e3 e4 e5 e6 e7 e8 e9
  subst e0 e1 e2 e3 e4 e5 e6 e7 e8 e9
  exact ⟨(a, ⟨x0, x1, x2, x3, x4, x5, l⟩), rfl, hr⟩)
 exact ⟨l, h1, h2, h3⟩
end
end Go.Proofs.YtkenlhdiehaemaaGreat
