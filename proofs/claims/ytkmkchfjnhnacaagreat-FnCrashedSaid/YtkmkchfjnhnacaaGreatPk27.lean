/- The interpreter's operations are sound: operators, parts of tuples, structs that are built. -/
import Derived.Test.YtkmkchfjnhnacaaGreatPk26
namespace Go.Proofs.YtkmkchfjnhnacaaGreat.Ai
open Go.RowKit
set_option linter.unusedVariables false
set_option linter.unusedSimpArgs false
section
variable {C : Cx} {E : Env} {w0 : World} {R0 : Nat → Prop} {σ : Nat → Int} {bp : Nat → Nat} {R : Nat → Prop} {s s' : AS} {a : Act} {w : World} {W : List (BE × Bool)} {o : Oper} {ov : Option AV} {tg : Option Nat}
theorem bin_some {d : Nat} {bo : BinOp} {x y : AV} {r : AV × AS} (h : bin d s bo x y = some r) : ∃ k e j f, x = .v (.one (.num k e)) ∧ y = .v (.one (.num j f)) := by
 unfold bin at h
 split at h
 ·exact ⟨_, _, _, _, rfl, rfl⟩
 ·cases h
theorem bin_kinds {d : Nat} {bo : BinOp} {k j : IntKind} {e f : Lin} {r : AV × AS} (hns : bo ≠ .shl ∧ bo ≠ .shr) (h : bin d s bo (.v (.one (.num k e))) (.v (.one (.num j f))) = some r) : k = j := by
 unfold bin at h
 cases hk : keq k j
 ·exfalso
  cases bo <;> dsimp only at h <;> first
   | exact hns.1 rfl
   | exact hns.2 rfl
   | simp only [hk, cond_false, Bool.false_and, reduceCtorEq] at h
 ·exact (keq_eq hk).1
theorem ints_vals {σ' : Nat → Int} {bp' : Nat → Nat} : ∀ {l : List At} {vs : List Value}, ints l = true → LsOk C σ' bp' R w l vs → ∃ zs : List Int, zs.length = l.length ∧ vs = zs.map (Value.int .i64)
 | [], [], _, _ => ⟨[], rfl, rfl⟩
 | [], _ :: _, _, h => h.elim
 | _ :: _, [], _, h => h.elim
 | x :: l, v :: vs, hi, h => by
  cases x with
  | num k e =>
   cases k <;> simp only [ints, Bool.false_eq_true] at hi
   obtain ⟨zs, e1, e2⟩ := ints_vals hi h.2
   exact ⟨e.ev σ' :: zs, by simp [e1], by rw [h.1.1, e2]; rfl⟩
  | _ => simp [ints] at hi
theorem bool_out (h : Stt C w0 R0 σ bp R s a w) (b : Bool) : Outs C w0 R0 R w tg σ bp s (s.freshC .bool).2 a (some (one (s.freshC .bool).1)) (.bool b) w := by
 obtain ⟨σ1, a1, n1, t1, b1, st1, k1⟩ := freshC_stt h (c := .bool) (v := .bool b) ⟨b, rfl⟩ trivial
 exact ⟨σ1, bp, R, a1, n1, agb_refl _ _, by rw [b1]; exact Nat.le_refl _, st1, fun y hy σ' bp' q1 q2 => by cases hy; exact k1 σ' bp' q1, Fr.refl⟩
theorem nbool_out (h : Stt C w0 R0 σ bp R s a w) (b : Bool) : Outs C w0 R0 R w tg σ bp s (s.fresh [ge 0, le 1]).2 a (some (one (.be (.not (.le ((s.fresh [ge 0, le 1]).1.plus (-1))))))) (.bool b) w := by
 obtain ⟨σ1, bp1, R1, o⟩ := bool_out h (!b)
 refine ⟨σ1, bp1, R1, o.ag, o.le, o.ab, o.lb, o.st, fun y hy σ' bp' q1 q2 => ?_, o.fr⟩
 cases hy
 have := o.av _ rfl σ' bp' q1 q2
 have e : Value.bool (!b) = .bool (BE.ev σ' (.le ((s.fresh [ge 0, le 1]).1.plus (-1)))) := this
 simp only [Value.bool.injEq] at e
 show Value.bool b = .bool _
 simp only [BE.ev] at e ⊢
 rw [← e, Bool.not_not]
theorem op_bin (hG : Good C E) (h : Stt C w0 R0 σ bp R s a w) (hW : Lits s.n σ W) {bo : BinOp} {t t2 : Nat} {x y : Operand} (hop : o.op = .binOp bo t x y t2) (hx : opx E W s o.op = some (ov, s')) : Does C.P ((execOp a.eval o).run C.P w) (Outs C w0 R0 R w (tgt W s o.op) σ bp s s' a ov) := by
 rw [hop] at hx
 simp only [opx] at hx
 split at hx
 ·rename_i u v hu hv
  have ux := fun σ' bp' (q1 : Agr s.n σ' σ) (q2 : Agb s.bx.length bp' bp) => evO_sound (h.st σ' bp' q1 q2) (hW σ' q1) hu
  have vx := fun σ' bp' (q1 : Agr s.n σ' σ) (q2 : Agb s.bx.length bp' bp) => evO_sound (h.st σ' bp' q1 q2) (hW σ' q1) hv
  split at hx
  ·rename_i r hb
   cases hx
   obtain ⟨k, e, j, f, rfl, rfl⟩ := bin_some hb
   obtain ⟨u1, u2, u3⟩ := ux σ bp (agr_refl _ _) (agb_refl _ _)
   obtain ⟨v1, v2, v3⟩ := vx σ bp (agr_refl _ _) (agb_refl _ _)
   have he : ∀ σ', Agr s.n σ' σ → e.ev σ' = e.ev σ := fun σ' q => by
    have := (ux σ' bp q (agb_refl _ _)).1
    rw [u1] at this
    simp only [Value.int.injEq, true_and] at this
    exact this.symm
   have hf : ∀ σ', Agr s.n σ' σ → f.ev σ' = f.ev σ := fun σ' q => by
    have := (vx σ' bp q (agb_refl _ _)).1
    rw [v1] at this
    simp only [Value.int.injEq, true_and] at this
    exact this.symm
   by_cases hsh : bo = .shl ∨ bo = .shr
   ·obtain ⟨v, hr, ho⟩ := shift_out h hsh hb t hf ⟨u2, u3⟩
    rw [run_bin hop u1 v1 hr]
    exact ho
   ·have hns : bo ≠ .shl ∧ bo ≠ .shr := ⟨fun e => hsh (.inl e), fun e => hsh (.inr e)⟩
    obtain rfl := bin_kinds hns hb
    obtain ⟨v, hr, ho⟩ := bin_out h hb t he hf ⟨u2, u3⟩ ⟨v2, v3⟩ rfl hns
    rw [run_bin hop u1 v1 hr]
    exact ho
  ·rename_i hb
   cases hq : eqable E t u v <;> rw [hq] at hx
   ·cases hx
   ·have key : ∃ b : Bool, (execOp a.eval o).run C.P w = .ok (.value (.bool (match bo with | .neq => !b | _ => b))) w ∨ (bo ≠ .eql ∧ bo ≠ .neq) := by
     by_cases hbo : bo = .eql ∨ bo = .neq
     ·have u0 := ux σ bp (agr_refl _ _) (agb_refl _ _)
      have v0 := vx σ bp (agr_refl _ _) (agb_refl _ _)
      unfold eqable at hq
      split at hq
      ·obtain ⟨p, e1, _⟩ := u0
       obtain ⟨q, e2, _⟩ := v0
       refine ⟨p.toList == q.toList, .inl ?_⟩
       rcases hbo with rfl | rfl
       ·simp only [execOp, hop, e1, e2, eqGuard, binOp, Op.stringOp, Sem.run_bind, Sem.run_pure, Result.andThen_ok]
        rfl
       ·simp only [execOp, hop, e1, e2, eqGuard, binOp, Op.stringOp, Sem.run_bind, Sem.run_pure, Result.andThen_ok]
        rfl
      ·rename_i l r
       simp only [Bool.and_eq_true] at hq
       obtain ⟨⟨⟨⟨h1, h2⟩, h3⟩, h4⟩, h5⟩ := hq
       cases hT : look t E.tb with
       | none => rw [hT] at h5; cases h5
       | some T =>
        rw [hT] at h5
        obtain ⟨ua, e1, l1⟩ := u0
        obtain ⟨va, e2, l2⟩ := v0
        obtain ⟨z1, n1, q1⟩ := ints_vals h2 l1
        obtain ⟨z2, n2, q2⟩ := ints_vals h3 l2
        have h4 := Nat.eq_of_beq_eq_true h4
        have h5 := Nat.eq_of_beq_eq_true h5
        obtain ⟨b, g1, g2, g3⟩ := hG.eq t h1 T (hG.tb t T hT) w z1 z2 (by omega) (by omega) x y
        have ea : a.eval x = .agg (z1.map (Value.int .i64)).toArray := by rw [e1, ← q1]
        have eb : a.eval y = .agg (z2.map (Value.int .i64)).toArray := by rw [e2, ← q2]
        refine ⟨b, .inl ?_⟩
        rcases hbo with rfl | rfl
        ·simp only [execOp, hop, ea, eb, binOp, Sem.run_bind, g1, g3, Sem.run_pure, Result.andThen_ok]
        ·simp only [execOp, hop, ea, eb, binOp, Sem.run_bind, g2, g3, Sem.run_pure, Result.andThen_ok]
      ·cases hq
     ·exact ⟨true, .inr (by simpa [not_or] using hbo)⟩
    obtain ⟨b, key⟩ := key
    split at hx
    ·cases hx
     rcases key with key | key
     ·rw [key]; exact bool_out h b
     ·exact absurd rfl key.1
    ·cases hx
     rcases key with key | key
     ·rw [key]; exact nbool_out h (!b)
     ·exact absurd rfl key.2
    ·cases hx
 ·cases hx
end
end Go.Proofs.YtkmkchfjnhnacaaGreat.Ai
namespace Go.Proofs.YtkmkchfjnhnacaaGreat.Ai
open Go.RowKit
set_option linter.unusedVariables false
set_option linter.unusedSimpArgs false
section
variable {C : Cx} {E : Env} {w0 : World} {R0 : Nat → Prop} {σ : Nat → Int} {bp : Nat → Nat} {R : Nat → Prop} {s s' : AS} {a : Act} {w w' : World} {W : List (BE × Bool)} {o : Oper} {ov : Option AV} {tg : Option Nat}
theorem TpOk.nth {σ' : Nat → Int} {bp' : Nat → Nat} : ∀ {l : List (Bool × List At)} {vs : List Value}, TpOk C σ' bp' R w l vs → ∀ {i : Nat} {p : Bool × List At}, Ai.nth l i = some p → ∃ v, vs[i]? = some v ∧ ((p.1 = true ∧ ∃ a, v = .agg a ∧ LsOk C σ' bp' R w p.2 a.toList) ∨ (p.1 = false ∧ LsOk C σ' bp' R w p.2 [v]))
 | [], _, _, i, p, h => by cases h
 | (true, l) :: r, [], h, _, _, _ => h.elim
 | (false, l) :: r, [], h, _, _, _ => h.elim
 | (true, l) :: r, v :: vs, h, 0, p, e => by cases e; exact ⟨v, rfl, .inl ⟨rfl, h.1⟩⟩
 | (false, l) :: r, v :: vs, h, 0, p, e => by cases e; exact ⟨v, rfl, .inr ⟨rfl, h.1⟩⟩
 | (true, l) :: r, v :: vs, h, i + 1, p, e => by
  obtain ⟨u, e1, e2⟩ := TpOk.nth h.2 (i := i) e
  exact ⟨u, by simpa using e1, e2⟩
 | (false, l) :: r, v :: vs, h, i + 1, p, e => by
  obtain ⟨u, e1, e2⟩ := TpOk.nth h.2 (i := i) e
  exact ⟨u, by simpa using e1, e2⟩
theorem op_extract (h : Stt C w0 R0 σ bp R s a w) (hW : Lits s.n σ W) {x : Operand} {i : Nat} (hop : o.op = .extract x i) (hx : opx E W s o.op = some (ov, s')) : Does C.P ((execOp a.eval o).run C.P w) (Outs C w0 R0 R w (tgt W s o.op) σ bp s s' a ov) := by
 rw [hop] at hx
 simp only [opx] at hx
 split at hx
 ·rename_i l hv
  simp only [Option.bind_eq_some_iff, Option.map_eq_some_iff] at hx
  obtain ⟨p, hp, v, hpk, e⟩ := hx
  cases e
  have tv := fun σ' bp' (q1 : Agr s.n σ' σ) (q2 : Agb s.bx.length bp' bp) => evO_sound (h.st σ' bp' q1 q2) (hW σ' q1) hv
  obtain ⟨arr, e1, e2⟩ := tv σ bp (agr_refl _ _) (agb_refl _ _)
  obtain ⟨u, e3, _⟩ := e2.nth hp
  rw [Array.getElem?_toList] at e3
  have run : (execOp a.eval o).run C.P w = .ok (.value u) w := by
   simp only [execOp, hop, e1, Instr.extract, e3, Sem.run_bind, Sem.run_pure, Result.andThen_ok]
  rw [run]
  refine out_pure h fun σ' bp' q1 q2 => ?_
  obtain ⟨arr', f1, f2⟩ := tv σ' bp' q1 q2
  rw [e1] at f1
  simp only [Value.tuple.injEq] at f1
  subst f1
  obtain ⟨u', f3, f4⟩ := f2.nth hp
  rw [Array.getElem?_toList, e3] at f3
  cases f3
  rcases f4 with ⟨g1, ar, rfl, g2⟩ | ⟨g1, g2⟩
  ·rw [g1] at hpk
   simp only [pack] at hpk
   cases hpk
   exact ⟨ar, rfl, g2⟩
  ·obtain ⟨p1, p2⟩ := p
   simp only at g1
   subst g1
   match p2, hpk, g2 with
   | [y], hpk, g2 => cases hpk; exact g2.1
 ·cases hx
structure Own (C : Cx) (R : Nat → Prop) (w0 w w' : World) : Prop where
 os : w'.os = w.os
 tape : w'.tape = w.tape
 output : w'.output = w.output
 size : w.heap.size ≤ w'.heap.size
 keep : ∀ g, g < w.heap.size → (R g ∨ g < w0.heap.size ∨ g = C.pc) → w'.heap[g]? = w.heap[g]?
theorem Own.gr (k : Own C R w0 w w') (hR : ∀ g, R g → g < w.heap.size) : Gr R R w w' := ⟨fun _ h => h, fun g hg cs T fz e => ⟨cs, fz, by rw [k.keep g (hR g hg) (.inl hg)]; exact e, rfl⟩⟩
theorem Own.hp (hG : Good C E) (hB : C.B ≤ w0.heap.size) (k : Own C R w0 w w') (h : Hp C R w) : Hp C R w' := by
 refine ⟨fun g hg => ?_, hG.cur w w' h.cur (k.keep _ h.pc (.inr (.inr rfl))) (fun g hg => k.keep g (Nat.lt_of_lt_of_le hg h.B) (.inr (.inl (Nat.lt_of_lt_of_le hg hB)))), Nat.lt_of_lt_of_le h.pc k.size, Nat.le_trans h.B k.size⟩
 obtain ⟨h1, h2, cs, T, fz, h3, h4, h5, h6, h7⟩ := h.rows g hg
 refine ⟨h1, h2, cs, T, fz, by rw [k.keep g (h.lt hg) (.inl hg)]; exact h3, h4, h5, h6, fun j v hj => ?_⟩
 obtain ⟨c, e1, e2⟩ := h7 j v hj
 exact ⟨c, e1, e2.gr (k.gr fun g hg => h.lt hg)⟩
theorem Own.gw (k : Own C R w0 w w') (h : Hp C R w) (g0 : Gw C R0 R w0 w) : Gw C R0 R w0 w' := by
 refine ⟨k.os.trans g0.os, k.tape.trans g0.tape, k.output.trans g0.output, Nat.le_trans g0.size k.size, g0.rows, fun g hg hn hp => ?_, fun g hg cs T fz e => ?_⟩
 ·rw [k.keep g (Nat.lt_of_lt_of_le hg g0.size) (.inr (.inl hg)), g0.keep g hg hn hp]
 ·obtain ⟨cs', fz', e1, e2⟩ := g0.row g hg cs T fz e
  have hlt := lt_of_some e1
  refine ⟨cs', fz', ?_, e2⟩
  rw [k.keep g hlt (.inr (.inl (lt_of_some e)))]
  exact e1
theorem BxOk.app {σ' : Nat → Int} {bp' : Nat → Nat} : ∀ {l r : List (Nat × List At)} {j : Nat}, BxOk C σ' bp' R w j l → BxOk C σ' bp' R w (j + l.length) r → BxOk C σ' bp' R w j (l ++ r)
 | [], r, j, _, k => by simpa using k
 | c :: l, r, j, h, k => ⟨h.1, BxOk.app h.2 (by rw [List.length_cons] at k; rwa [show j + 1 + l.length = j + (l.length + 1) by omega])⟩
def updb (bp : Nat → Nat) (n g : Nat) : Nat → Nat := fun i => if i = n then g else bp i
theorem updb_agb (bp : Nat → Nat) (n g : Nat) : Agb n (updb bp n g) bp := fun i hi => by unfold updb; rw [if_neg (by omega)]
theorem updb_at (bp : Nat → Nat) (n g : Nat) : updb bp n g n = g := by unfold updb; rw [if_pos rfl]
theorem own_alloc (h : Hp C R w) (g0 : Gw C R0 R w0 w) (ob : Obj) : Own C R w0 w (w.alloc ob) := ⟨rfl, rfl, rfl, by simp, fun g hg _ => Below.heap_alloc w ob g hg⟩
theorem fr_alloc (h : Hp C R w) (ob : Obj) : Fr C R R bp tg w (w.alloc ob) :=
 ⟨by simp, ⟨fun _ h => h, fun g hg cs T fz e => ⟨cs, fz, by rw [Below.heap_alloc w ob g (h.lt hg)]; exact e, rfl⟩⟩, fun _ _ => Iff.rfl, fun g hg _ _ _ => Below.heap_alloc w ob g hg⟩
theorem alloc_stt (hG : Good C E) (hB : C.B ≤ w0.heap.size) (h : Stt C w0 R0 σ bp R s a w) {t : Nat} {l : List At} {arr : Array Value} (hl : ∀ σ' bp', Agr s.n σ' σ → Agb s.bx.length bp' bp → LsOk C σ' bp' R w l arr.toList) :
  Stt C w0 R0 σ (updb bp s.bx.length w.heap.size) R { s with bx := s.bx ++ [(t, l)] } a (w.alloc (.cells arr t)) := by
 have k := own_alloc h.sw.hp h.sw.gw (.cells arr t)
 have kg := k.gr fun g hg => h.sw.hp.lt hg
 refine ⟨fun σ' bp' q1 q2 => ?_, ?_⟩
 ·have q3 : Agb s.bx.length bp' bp := (Agb.less (show Agb _ bp' _ from q2) (by simp)).trans (updb_agb _ _ _)
  have q4 : bp' s.bx.length = w.heap.size := by rw [q2 s.bx.length (by simp), updb_at]
  have st := h.st σ' bp' q1 q3
  refine ⟨st.tm.gr kg fun _ => rfl, BxOk.app (st.bx.gr kg (fun _ => rfl) fun i _ hi => ?_) ⟨⟨arr, ?_, (hl σ' bp' q1 q3).gr kg fun _ => rfl⟩, trivial⟩, ⟨st.fs.fa, st.fs.lt, st.fs.cf⟩⟩
  ·rw [Nat.zero_add] at hi
   have hb := st.bx.nth (i := i) (c := s.bx[i]) (by rw [nth_eq]; simp [hi])
   obtain ⟨_, e, _⟩ := hb
   rw [Nat.zero_add] at e
   exact Below.heap_alloc w _ _ (lt_of_some e)
  ·rw [Nat.zero_add, q4]
   exact (show (w.heap.push _)[w.heap.size]? = _ by simp)
 ·have sw := h.sw
  have hlen : ∀ i, i < s.bx.length → bp i < w.heap.size := fun i hi => by
   have hb := h.here.bx.nth (i := i) (c := s.bx[i]) (by rw [nth_eq]; simp [hi])
   obtain ⟨_, e, _⟩ := hb
   rw [Nat.zero_add] at e
   exact lt_of_some e
  have hval : ∀ i, i < s.bx.length + 1 → (i < s.bx.length ∧ updb bp s.bx.length w.heap.size i = bp i) ∨ (i = s.bx.length ∧ updb bp s.bx.length w.heap.size i = w.heap.size) := fun i hi => by
   by_cases e : i = s.bx.length
   ·exact .inr ⟨e, by rw [e, updb_at]⟩
   ·exact .inl ⟨by omega, updb_agb _ _ _ i (by omega)⟩
  refine ⟨k.hp hG hB sw.hp, k.gw sw.hp sw.gw, fun i hi => ?_, fun i j hi hj e => ?_, sw.df, sw.r0⟩
  ·simp only [List.length_append, List.length_cons, List.length_nil] at hi
   rcases hval i hi with ⟨h1, h2⟩ | ⟨h1, h2⟩
   ·rw [h2]; exact sw.own i h1
   ·rw [h2]
    exact ⟨sw.gw.size, fun hr => by have := sw.hp.lt hr; omega, fun e => by have := sw.hp.pc; omega⟩
  ·simp only [List.length_append, List.length_cons, List.length_nil] at hi hj
   rcases hval i hi with ⟨h1, h2⟩ | ⟨h1, h2⟩ <;> rcases hval j hj with ⟨h3, h4⟩ | ⟨h3, h4⟩ <;> rw [h2, h4] at e
   ·exact sw.inj i j h1 h3 e
   ·have := hlen i h1; omega
   ·have := hlen j h3; omega
   ·omega
end
end Go.Proofs.YtkmkchfjnhnacaaGreat.Ai
