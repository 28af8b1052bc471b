/- The interpreter's heads of loops and joins are sound: what lies below them. -/
import Derived.Test.YtkmkchfjnhnacaaGreatPk37
namespace Go.Proofs.YtkmkchfjnhnacaaGreat.Ai
open Go.RowKit
set_option linter.unusedVariables false
set_option linter.unusedSimpArgs false
section
variable {C : Cx} {E : Env} {w0 : World} {R0 : Nat → Prop} {σ σ1 σ' : Nat → Int} {bp bp1 bp' : Nat → Nat} {R R1 : Nat → Prop} {s t h : AS} {a : Act} {w : World} {n nb : Nat}
theorem atB_ok {x y : At} (h : atB x y = true) {v : Value} (k : AtOk C σ bp R w x v) : AtOk C σ bp R w y v := by
 cases x <;> cases y <;> simp only [atB] at h <;> (try cases h)
 case un.un => exact k
 case unk.unk => trivial
 case num.num i e j f =>
  simp only [Bool.and_eq_true] at h
  have := (keq_eq h.1).1
  subst this
  show v = .int i (f.ev σ) ∧ _
  rw [← leq_ev σ h.2]
  exact k
 case be.be b c =>
  show v = .bool (c.ev σ)
  rw [← beB_ev σ h]
  exact k
 case str.str e f =>
  obtain ⟨u, h1, h2, h3⟩ := k
  exact ⟨u, h1, by rw [← leq_ev σ h]; exact h2, h3⟩
 case sl.sl T e U f =>
  simp only [Bool.and_eq_true] at h
  have := Nat.eq_of_beq_eq_true h.1
  subst this
  show SlOk C R w T v (f.ev σ)
  rw [← leq_ev σ h.2]
  exact k
 case nil.nil => exact k
 case ptr.ptr b o c p =>
  simp only [Bool.and_eq_true] at h
  have e1 := Nat.eq_of_beq_eq_true h.1
  have e2 := Nat.eq_of_beq_eq_true h.2
  subst e1; subst e2
  exact k
 case row.row T o U p =>
  simp only [Bool.and_eq_true] at h
  have e1 := Nat.eq_of_beq_eq_true h.1
  have e2 := Nat.eq_of_beq_eq_true h.2
  subst e1; subst e2
  exact k
 case cur.cur => exact k
def Bi.ev (σ : Nat → Int) : Bi → Int
 | .lin e => e.ev σ
 | .be b => if b.ev σ = true then 1 else 0
structure Stands (n nb : Nat) (l : List (Nat × Bi)) (σ1 σ' : Nat → Int) (bp1 bp' : Nat → Nat) : Prop where
 old : ∀ k, lt n k = true → σ' k = σ1 k
 box : ∀ b, lt nb b = true → bp' b = bp1 b
 new : ∀ v x, (v, x) ∈ l → σ' v = x.ev σ1
theorem Stands.sub {l m : List (Nat × Bi)} (k : Stands n nb l σ1 σ' bp1 bp') (h : ∀ x ∈ m, x ∈ l) : Stands n nb m σ1 σ' bp1 bp' := ⟨k.old, k.box, fun v x hm => k.new v x (h _ hm)⟩
theorem ev_one (v : Nat) : (⟨0, [(v, .ofNat 1)]⟩ : Lin).ev σ = σ v := by
 simp only [Lin.ev, tev]
 simp
theorem mtA_ok {x h : At} {m : List (Nat × Bi)} (e : mtA n nb x h = some m) {v : Value} (k : AtOk C σ1 bp1 R w x v) (hs : Stands n nb m σ1 σ' bp1 bp') : AtOk C σ' bp' R w h v := by
 unfold mtA at e
 split at e
 ·trivial
 ·rename_i h' hne
  cases hc : (atB x h && inA (lt n) (lt nb) h) <;> rw [hc] at e
  ·simp only [cond_false] at e
   split at e
   ·rename_i i f j u
    cases hc : (keq i j && Nat.ble n u) <;> rw [hc] at e
    ·cases e
    ·cases e
     simp only [Bool.and_eq_true] at hc
     have := (keq_eq hc.1).1
     subst this
     have := hs.new u _ List.mem_cons_self
     show v = .int i _ ∧ _
     rw [ev_one, this]
     exact k
   ·rename_i b u
    cases hc : Nat.ble n u <;> rw [hc] at e
    ·cases e
    ·cases e
     have := hs.new u _ List.mem_cons_self
     show v = .bool _
     rw [show v = _ from k]
     simp only [BE.ev, Lin.ev, tev, this, Bi.ev]
     cases b.ev σ1 <;> simp
   ·rename_i f u
    cases hc : Nat.ble n u <;> rw [hc] at e
    ·cases e
    ·cases e
     have := hs.new u _ List.mem_cons_self
     obtain ⟨q, h1, h2, h3⟩ := k
     exact ⟨q, h1, by rw [ev_one, this]; exact h2, h3⟩
   ·rename_i T f U u
    cases hc : (Nat.beq T U && Nat.ble n u) <;> rw [hc] at e
    ·cases e
    ·cases e
     simp only [Bool.and_eq_true] at hc
     have := Nat.eq_of_beq_eq_true hc.1
     subst this
     have := hs.new u _ List.mem_cons_self
     show SlOk C R w T v _
     rw [ev_one, this]
     exact k
   ·cases e
  ·simp only [Bool.and_eq_true] at hc
   exact AtOk.cg hs.old hs.box hc.2 (atB_ok hc.1 k)
theorem mtL_ok : ∀ {x h : List At} {m : List (Nat × Bi)} {vs : List Value}, mtL n nb x h = some m → LsOk C σ1 bp1 R w x vs → Stands n nb m σ1 σ' bp1 bp' → LsOk C σ' bp' R w h vs
 | [], [], m, [], _, _, _ => trivial
 | [], [], m, _ :: _, _, k, _ => k.elim
 | [], _ :: _, m, vs, e, _, _ => by simp [mtL] at e
 | _ :: _, [], m, vs, e, _, _ => by simp [mtL] at e
 | _ :: _, _ :: _, m, [], _, k, _ => k.elim
 | x :: l, h :: r, m, v :: vs, e, k, hs => by
  simp only [mtL] at e
  split at e
  ·rename_i p q hp hq
   cases e
   exact ⟨mtA_ok hp k.1 (hs.sub fun x hx => List.mem_append_left _ hx), mtL_ok hq k.2 (hs.sub fun x hx => List.mem_append_right _ hx)⟩
  ·cases e
theorem mtV_ok {x h : AV} {m : List (Nat × Bi)} (e : mtV n nb x h = some m) {v : Value} (k : AVOk C σ1 bp1 R w x v) (hs : Stands n nb m σ1 σ' bp1 bp') : AVOk C σ' bp' R w h v := by
 unfold mtV at e
 split at e
 ·trivial
 ·exact mtA_ok e k hs
 ·obtain ⟨arr, h1, h2⟩ := k
  exact ⟨arr, h1, mtL_ok e h2 hs⟩
 ·cases e
theorem mtT_ok : ∀ {x h : List AV} {m : List (Nat × Bi)} {vs : List Value}, mtT n nb x h = some m → TmOk C σ1 bp1 R w x vs → Stands n nb m σ1 σ' bp1 bp' → TmOk C σ' bp' R w h vs
 | [], [], m, [], _, _, _ => trivial
 | [], [], m, _ :: _, _, k, _ => k.elim
 | [], _ :: _, m, vs, e, _, _ => by simp [mtT] at e
 | _ :: _, [], m, vs, e, _, _ => by simp [mtT] at e
 | _ :: _, _ :: _, m, [], _, k, _ => k.elim
 | x :: l, h :: r, m, v :: vs, e, k, hs => by
  simp only [mtT] at e
  split at e
  ·rename_i p q hp hq
   cases e
   exact ⟨mtV_ok hp k.1 (hs.sub fun x hx => List.mem_append_left _ hx), mtT_ok hq k.2 (hs.sub fun x hx => List.mem_append_right _ hx)⟩
  ·cases e
theorem mtX_ok : ∀ {x h : List (Nat × List At)} {m : List (Nat × Bi)} {j : Nat}, mtX n nb x h = some m → BxOk C σ1 bp1 R w j x → (∀ i, i < h.length → bp' (j + i) = bp1 (j + i)) → Stands n nb m σ1 σ' bp1 bp' → BxOk C σ' bp' R w j h ∧ h.length ≤ x.length
 | x, [], m, j, _, _, _, _ => ⟨trivial, Nat.zero_le _⟩
 | [], _ :: _, m, j, e, _, _, _ => by simp [mtX] at e
 | x :: l, h :: r, m, j, e, k, hb, hs => by
  simp only [mtX] at e
  cases hc : Nat.beq x.1 h.1 <;> rw [hc] at e
  ·cases e
  ·simp only [cond_true] at e
   split at e
   ·rename_i p q hp hq
    cases e
    obtain ⟨⟨arr, k1, k2⟩, k3⟩ := k
    obtain ⟨i1, i2⟩ := mtX_ok hq k3 (fun i hi => by have := hb (i + 1) (by simp; omega); rwa [show j + (i + 1) = j + 1 + i by omega] at this) (hs.sub fun x hx => List.mem_append_right _ hx)
    refine ⟨⟨⟨arr, ?_, mtL_ok hp k2 (hs.sub fun x hx => List.mem_append_left _ hx)⟩, i1⟩, by simp; exact i2⟩
    have := hb 0 (by simp)
    rw [Nat.add_zero] at this
    rw [this, ← Nat.eq_of_beq_eq_true hc]
    exact k1
   ·cases e
theorem inOrder_ok : ∀ {l : List (Nat × Bi)} {n : Nat}, inOrder n l = true → (∀ v x, (v, x) ∈ l → n ≤ v ∧ v < n + l.length) ∧ (∀ v x y, (v, x) ∈ l → (v, y) ∈ l → x = y) ∧ ∀ k, n ≤ k → k < n + l.length → ∃ x, (k, x) ∈ l
 | [], n, _ => ⟨by simp, by simp, fun k h1 h2 => by simp at h2; omega⟩
 | p :: r, n, h => by
  simp only [inOrder, Bool.and_eq_true] at h
  have hp := Nat.eq_of_beq_eq_true h.1
  obtain ⟨i1, i2, i3⟩ := inOrder_ok h.2
  obtain ⟨pv, px⟩ := p
  simp only at hp
  subst hp
  refine ⟨fun v x hm => ?_, fun v x y h1 h2 => ?_, fun k h1 h2 => ?_⟩
  ·rcases List.mem_cons.1 hm with e | hm
   ·cases e; simp
   ·have := i1 v x hm; simp only [List.length_cons]; omega
  ·rcases List.mem_cons.1 h1 with e1 | h1
   ·cases e1
    rcases List.mem_cons.1 h2 with e2 | h2
    ·cases e2; rfl
    ·have := i1 _ _ h2; omega
   ·rcases List.mem_cons.1 h2 with e2 | h2
    ·cases e2
     have := i1 _ _ h1; omega
    ·exact i2 v x y h1 h2
  ·by_cases hk : k = pv
   ·subst hk; exact ⟨px, List.mem_cons_self⟩
   ·obtain ⟨x, hx⟩ := i3 k (by omega) (by simp only [List.length_cons] at h2; omega)
    exact ⟨x, List.mem_cons_of_mem _ hx⟩
theorem look_some {α : Type} {k : Nat} : ∀ {l : List (Nat × α)} {x : α}, (k, x) ∈ l → ∃ y, look k l = some y
 | [], x, h => by simp at h
 | (u, y) :: l, x, h => by
  simp only [look]
  cases hb : Nat.beq k u
  ·rcases List.mem_cons.1 h with e | h
   ·cases e; rw [Nat.beq_refl] at hb; cases hb
   ·exact look_some h
  ·exact ⟨y, rfl⟩
theorem stands_of {l : List (Nat × Bi)} (ho : inOrder n l = true) (σ1 : Nat → Int) : ∃ σ2 : Nat → Int, (∀ k, k < n → σ2 k = σ1 k) ∧ ∀ σ' bp1 bp', Agr (n + l.length) σ' σ2 → (∀ b, b < nb → bp' b = bp1 b) → Stands n nb l σ1 σ' bp1 bp' := by
 obtain ⟨o1, o2, o3⟩ := inOrder_ok ho
 refine ⟨fun k => if k < n then σ1 k else match look k l with | some x => x.ev σ1 | none => 0, fun k hk => if_pos hk, fun σ' bp1 bp' ha hb => ⟨fun k hk => ?_, fun b hk => hb b ((blt_iff _ _).1 hk), fun v x hm => ?_⟩⟩
 ·have hk := (blt_iff _ _).1 hk
  rw [ha k (by omega)]
  exact if_pos hk
 ·obtain ⟨h1, h2⟩ := o1 v x hm
  rw [ha v h2]
  simp only [if_neg (Nat.not_lt.2 h1)]
  obtain ⟨y, hy⟩ := look_some hm
  rw [hy, o2 v y x (look_mem _ hy) hm]
theorem sub1_ev {l : List (Nat × Bi)} (hs : Stands n nb l σ1 σ' bp1 bp') : ∀ {t : List (Nat × Int)} {e : Lin}, sub1 n l t = some e → e.ev σ1 = tev σ' t
 | [], e, h => by cases h; exact ev_cst σ1 0
 | (s, k) :: r, e, h => by
  simp only [sub1] at h
  cases hb : Nat.blt s n <;> rw [hb] at h
  ·simp only [cond_false] at h
   split at h
   ·rename_i x y hx hy
    cases h
    rw [ev_add, ev_mul, sub1_ev hs hy, tev, hs.new s _ (look_mem _ hx)]
    rfl
   ·cases h
  ·simp only [cond_true] at h
   split at h
   ·rename_i x y hx hy
    cases hx
    cases h
    rw [ev_add, ev_mul, sub1_ev hs hy, tev, hs.old s hb, ev_var]
   ·cases h
theorem subL_ev {l : List (Nat × Bi)} (hs : Stands n nb l σ1 σ' bp1 bp') {f e : Lin} (h : subL n l f = some e) : e.ev σ1 = f.ev σ' := by
 unfold subL at h
 simp only [Option.map_eq_some_iff] at h
 obtain ⟨x, h1, rfl⟩ := h
 rw [ev_plus, sub1_ev hs h1]
 unfold Lin.ev
 omega
theorem bitF_ok {l : List (Nat × Bi)} (hs : Stands n nb l σ1 σ' bp1 bp') {f : Lin} (h : bitF l f = true) : 0 ≤ f.ev σ' := by
 unfold bitF at h
 split at h
 ·rename_i v
  split at h
  ·rename_i b hb
   rw [ev_one, hs.new v _ (look_mem _ hb)]
   simp only [Bi.ev]
   split <;> omega
  ·cases h
 ·rename_i v
  split at h
  ·rename_i b hb
   have := hs.new v _ (look_mem _ hb)
   simp only [Lin.ev, tev, this, Bi.ev]
   split <;> simp
  ·cases h
 ·cases h
theorem factOk_ok {d : Nat} {l : List (Nat × Bi)} (hs : Stands n nb l σ1 σ' bp1 bp') (ht : Fs σ1 t) {f : Lin} (h : factOk d n l t f = true) : 0 ≤ f.ev σ' := by
 unfold factOk at h
 simp only [Bool.or_eq_true, Bool.and_eq_true] at h
 rcases h with (⟨h1, h2⟩ | h) | h
 ·rw [inL_ev hs.old h1]
  obtain ⟨g, hg, e⟩ := List.any_eq_true.1 h2
  rw [leq_ev σ1 e]
  exact ht.fa g hg
 ·exact bitF_ok hs h
 ·split at h
  ·rename_i g hg
   rw [← subL_ev hs hg]
   exact ent_sound σ1 ht.fa _ _ h
  ·cases h
theorem prsB_ok : ∀ {l m : List Pr}, prsB l m = true → (∀ p ∈ l, PrH σ p) → ∀ p ∈ m, PrH σ p
 | [], [], _, _ => by simp
 | [], _ :: _, h, _ => by simp [prsB] at h
 | _ :: _, [], h, _ => by simp [prsB] at h
 | a :: l, b :: m, h, hp => by
  simp only [prsB, Bool.and_eq_true] at h
  intro p hm
  rcases List.mem_cons.1 hm with rfl | hm
  ·have := hp a List.mem_cons_self
   have hb := h.1
   cases a <;> cases p <;> simp only [prB] at hb <;> (try cases hb)
   ·rename_i e f
    show 0 ≤ f.ev σ
    rw [← leq_ev σ hb]
    exact this
   ·rename_i e p1 f p2
    simp only [Bool.and_eq_true, beq_iff_eq] at hb
    show f.ev σ = p2
    rw [← beB_ev σ hb.2, ← hb.1]
    exact this
  ·exact prsB_ok h.2 (fun p hp' => hp p (List.mem_cons_of_mem _ hp')) p hm
theorem condOk_ok {d : Nat} (ht : Fs σ t) {pr : List Lin} {co : Lin} (h : condOk d t pr co = true) (hp : ∀ p ∈ pr, 0 ≤ p.ev σ) : 0 ≤ co.ev σ := by
 unfold condOk at h
 rw [negs_no hp] at h
 simp only [cond_false] at h
 have f : Fs σ (((t.facts pr).sign t.at_).wake 4) := ((ht.facts hp).sign fun x hx => ht.lt x hx).wake
 simp only [Bool.or_eq_true] at h
 rcases h with h | h
 ·exact ent_sound σ f.fa _ _ h
 ·rw [f.alive 4] at h; cases h
theorem cfOk_ok {d : Nat} {l : List (Nat × Bi)} (hs : Stands n nb l σ1 σ' bp1 bp') (ht : Fs σ1 t) {c : List Pr × Lin} (h : cfOk d n l t c = true) : (∀ p ∈ c.1, PrH σ' p) → 0 ≤ c.2.ev σ' := by
 unfold cfOk at h
 simp only [Bool.or_eq_true, Bool.and_eq_true] at h
 rcases h with ⟨h1, h2⟩ | h
 ·obtain ⟨e, he, hc⟩ := List.any_eq_true.1 h2
  simp only [Bool.and_eq_true] at hc
  refine inC_cg hs.old h1 fun hp => ?_
  rw [leq_ev σ1 hc.2]
  exact ht.cf e he (prsB_ok hc.1 hp)
 ·intro hp
  split at h
  ·rename_i pr co h1 h2
   rw [← subL_ev hs h2]
   refine condOk_ok ht h fun p hm => ?_
   obtain ⟨q, hq, e⟩ := (mapM_some h1).2 p hm
   split at e
   ·rename_i e'
    rw [subL_ev hs e]
    exact hp _ hq
   ·cases e
  ·cases h
theorem below_ok {d : Nat} {l : List (Nat × Bi)} (hb : below d s t h = some l) (k : Stt C w0 R0 σ1 bp1 R1 t a w) : ∃ σ2, Agr s.n σ2 σ1 ∧ s.n ≤ h.n ∧ s.bx.length ≤ h.bx.length ∧ Stt C w0 R0 σ2 bp1 R1 h a w ∧ ∀ f e, subL s.n l f = some e → e.ev σ1 = f.ev σ2 := by
 unfold below at hb
 simp only at hb
 split at hb
 ·rename_i m1 m2 hm1 hm2
  cases hc : (inOrder s.n (m1 ++ m2) && Nat.beq h.n (s.n + (m1 ++ m2).length) && Nat.ble s.n t.n && Nat.ble s.bx.length h.bx.length && h.fa.all (factOk d s.n (m1 ++ m2) t) && h.at_.all (fun x => oldB s.n x.1 && t.has x.1 x.2) && h.cf.all (cfOk d s.n (m1 ++ m2) t)) <;> rw [hc] at hb
  ·cases hb
  cases hb
  simp only [Bool.and_eq_true] at hc
  obtain ⟨⟨⟨⟨⟨⟨c1, c2⟩, c3⟩, c4⟩, c5⟩, c6⟩, c7⟩ := hc
  have hn := Nat.eq_of_beq_eq_true c2
  obtain ⟨σ2, s1, s2⟩ := stands_of (nb := h.bx.length) c1 σ1
  have hx := fun σ' bp' (q1 : Agr h.n σ' σ2) (q2 : Agb h.bx.length bp' bp1) => s2 σ' bp1 bp' (by rw [← hn]; exact q1) q2
  have len : h.bx.length ≤ t.bx.length := (mtX_ok hm2 k.here.bx (bp' := bp1) (fun _ _ => rfl) ((hx σ2 bp1 (agr_refl _ _) (agb_refl _ _)).sub fun x hx => List.mem_append_right _ hx)).2
  refine ⟨σ2, s1, by omega, Nat.le_of_ble_eq_true c4, ⟨fun σ' bp' q1 q2 => ?_, ⟨k.sw.hp, k.sw.gw, fun i hi => k.sw.own i (by omega), fun i j hi hj => k.sw.inj i j (by omega) (by omega), k.sw.df, k.sw.r0⟩⟩, fun f e he => subL_ev (hx σ2 bp1 (agr_refl _ _) (agb_refl _ _)) he⟩
  have hs := hx σ' bp' q1 q2
  have k0 := k.here
  refine ⟨mtT_ok hm1 k0.tm (hs.sub fun x hx => List.mem_append_left _ hx), (mtX_ok hm2 k0.bx (fun i hi => by rw [Nat.zero_add]; exact q2 i hi) (hs.sub fun x hx => List.mem_append_right _ hx)).1, ⟨fun f hf => factOk_ok hs k0.fs (List.all_eq_true.1 c5 f hf), fun x hx => ?_, fun c hc => cfOk_ok hs k0.fs (List.all_eq_true.1 c7 c hc)⟩⟩
  have := List.all_eq_true.1 c6 x hx
  simp only [Bool.and_eq_true] at this
  rw [inB_ev hs.old this.1]
  exact k0.fs.has this.2
 ·cases hb
end
end Go.Proofs.YtkmkchfjnhnacaaGreat.Ai
