/- Copies of images and logs, of the program. -/
import Derived.Test.YtpghedeghoegmaaRp
namespace Go.Proofs.Ytpghedeghoegmaa
open Go.ChangeShapes Go.WideShapes Go.ChangeAt Go.RowKit Go.Sort
set_option linter.unusedVariables false
set_option linter.unusedSimpArgs false

/-- rows of different element types lie in different blocks -/
theorem Ow.apart {α β : Type} {eα : α → List Value} {eβ : β → List Value} {t u : TypeId} {sα sβ : Nat} {w : World} {B B' : Nat} {A A' : Option Addr} {n n' c c' : Nat} {l : List α} {m : List β} (h : Ow eα t sα w B (.slice A n c) l) (k : Ow eβ u sβ w B' (.slice A' n' c') m) (hne : t ≠ u) : ∀ x ∈ blk A, x ∉ blk A' := fun x hx hy => by
  have e1 := (ownBlock_blk A n c x).2 hx
  have e2 := (ownBlock_blk A' n' c' x).2 hy
  rcases h.2 with ⟨h2, _⟩ | ⟨g, cap, cur, hv, hb, hh, r⟩
  · rw [h2] at e1; cases e1
  · rcases k.2 with ⟨k2, _⟩ | ⟨g', cap', cur', kv, kb, kh, r'⟩
    · rw [k2] at e2; cases e2
    · rw [hv] at e1
      rw [kv] at e2
      simp only [Value.ownBlock, Option.some.injEq] at e1 e2
      subst e1
      subst e2
      rw [hh] at kh
      simp at kh
      exact hne kh.2
theorem Ow.nodup {α : Type} {eα : α → List Value} {t : TypeId} {sα : Nat} {w : World} {B : Nat} {A : Option Addr} {n c : Nat} {l : List α} (h : Ow eα t sα w B (.slice A n c) l) : (blk A).Nodup := by cases A <;> simp [blk]

theorem Ow.chg1 {α : Type} {enc : α → List Value} {e : TypeId} {sz : Nat} {w w' : World} {B g : Nat} {A : Option Addr} {n c : Nat} {l : List α} (h : Ow enc e sz w B (.slice A n c) l) (hg : Chg w w' [g]) (hlt : g < B) : Ow enc e sz w' B (.slice A n c) l :=
  h.chg hg (fun k hk hm => by rw [List.mem_singleton] at hm; have := (h.inB k hk).1; omega)
theorem own_mono {α : Type} (enc : α → List Value) (t : TypeId) (sz B : Nat) (l : List α) : Mono (fun v w => Ow enc t sz w B v l) := fun _ _ _ h hx => h.kept hx

def LgV (w : World) (B : Nat) (cs : List Cel) (ss : List Sea) (v : Value) : Prop := ∃ A c A' c', v = .agg #[.slice A cs.length c, .slice A' ss.length c'] ∧ Ow Cel.enc 101 2 w B (.slice A cs.length c) cs ∧ Ow Sea.enc 103 3 w B (.slice A' ss.length c') ss
theorem LgV.mono (B : Nat) (cs : List Cel) (ss : List Sea) : Mono (fun v w => LgV w B cs ss v) := fun v w w' ⟨A, c, A', c', hv, h1, h2⟩ hx => ⟨A, c, A', c', hv, h1.kept hx, h2.kept hx⟩
theorem lgO_of {w : World} {B : Nat} {cA sA eA : Option Addr} {cc sc ec : Nat} {l : Lg} (h1 : Ow Cel.enc 101 2 w B (.slice cA l.cells.length cc) l.cells) (h2 : Ow Sea.enc 103 3 w B (.slice sA l.seats.length sc) l.seats) (h3 : Ow Ent.enc 105 5 w B (.slice eA l.ents.length ec) l.ents) :
    LgO w B w.heap.size ⟨cA, cc, sA, sc, eA, ec⟩ l := by
  refine ⟨h1, h2, h3, ?_, fun k hk => ?_⟩
  · unfold LAd.fp
    rw [List.nodup_append, List.nodup_append]
    refine ⟨⟨h1.nodup, h2.nodup, fun x hx y hy e => ?_⟩, h3.nodup, fun x hx y hy e => ?_⟩
    · subst e; exact h1.apart h2 (by decide) x hx hy
    · subst e
      rcases List.mem_append.1 hx with hx | hx
      · exact h1.apart h3 (by decide) x hx hy
      · exact h2.apart h3 (by decide) x hx hy
  · unfold LAd.fp at hk
    rw [List.mem_append, List.mem_append] at hk
    rcases hk with (hk | hk) | hk
    · exact (h1.inB k hk).2
    · exact (h2.inB k hk).2
    · exact (h3.inB k hk).2

end Go.Proofs.Ytpghedeghoegmaa
