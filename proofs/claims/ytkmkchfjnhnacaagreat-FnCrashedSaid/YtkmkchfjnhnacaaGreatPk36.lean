/- The interpreter's drawn regions: what holds when some of the operations are done. -/
import Derived.Test.YtkmkchfjnhnacaaGreatPk35
namespace Go.Proofs.YtkmkchfjnhnacaaGreat.Ai
open Go.RowKit
set_option linter.unusedVariables false
set_option linter.unusedSimpArgs false
def Has (s : AS) (ds : List Dl) (L : Nat → Prop) (b : Nat) : Prop := b < s.bx.length ∨ (b = s.bx.length ∧ ∃ D ∈ ds, L D.ix ∧ D.wr = some b)
structure Iv (C : Cx) (w0 : World) (R0 : Nat → Prop) (s : AS) (σ0 : Nat → Int) (bp0 : Nat → Nat) (ds : List Dl) (L : Nat → Prop) (σ : Nat → Int) (bp : Nat → Nat) (R : Nat → Prop) (a : Act) (w : World) : Prop where
 ag : Agr s.n σ σ0
 ab : Agb s.bx.length bp bp0
 len : s.tm.length = a.tmps.toList.length
 tb : ∀ (d : Nat) (x : AV) (v : Value), s.tm[d]? = some x → a.tmps.toList[d]? = some v → (∀ D ∈ ds, L D.ix → D.dst ≠ some d) → ∀ σ' bp', Agr s.n σ' σ0 → Agb s.bx.length bp' bp0 → AVOk C σ' bp' R w x v
 to : ∀ D ∈ ds, L D.ix → ∀ (d : Nat) (v : Value), D.dst = some d → a.tmps.toList[d]? = some v → AVOk C σ bp R w D.v v
 fa : ∀ D ∈ ds, L D.ix → ∀ f ∈ D.fa, 0 ≤ f.ev σ
 cf : ∀ D ∈ ds, L D.ix → ∀ c ∈ D.cf, (∀ p ∈ c.1, PrH σ p) → 0 ≤ c.2.ev σ
 bs : ∀ (b : Nat) (c : Nat × List At), s.bx[b]? = some c → ∃ arr, w.heap[bp b]? = some (.cells arr c.1 (0, 0)) ∧ c.2.length = arr.toList.length ∧ ((∀ D ∈ ds, L D.ix → D.wr ≠ some b) → ∀ σ' bp', Agr s.n σ' σ0 → Agb s.bx.length bp' bp0 → LsOk C σ' bp' R w c.2 arr.toList)
 bo : ∀ D ∈ ds, L D.ix → ∀ b t l, D.bx = some (b, t, l) → (∀ D' ∈ ds, L D'.ix → D'.wr = some b → D' = D ∨ D'.ix ∈ D.pr) → ∃ arr, w.heap[bp b]? = some (.cells arr t (0, 0)) ∧ LsOk C σ bp R w l arr.toList
 hp : Hp C R w
 gw : Gw C R0 R w0 w
 df : a.defers = []
 r0 : ∀ q, R0 q → q < w0.heap.size
 own : ∀ b, Has s ds L b → w0.heap.size ≤ bp b ∧ ¬ R (bp b) ∧ bp b ≠ C.pc ∧ bp b < w.heap.size
 inj : ∀ b c, Has s ds L b → Has s ds L c → bp b = bp c → b = c
section
variable {E : Env} {ops : List Oper} {s : AS} {pres : List (List Nat)} {wr : List (Nat × Nat)} {ds : List Dl} {n : Nat}
theorem Chks.at (h : Chks E ops s pres wr ds n) {D : Dl} (hD : D ∈ ds) : ds[D.ix]? = some D ∧ ∃ o u, ops[D.ix]? = some o ∧ Chk E ops s pres wr D.ix o (ds.take D.ix) D u := by
 obtain ⟨j, hj⟩ := List.getElem?_of_mem hD
 obtain ⟨o, u, h1, h2⟩ := h.c j D hj
 have := h2.ix
 subst this
 exact ⟨hj, o, u, h1, h2⟩
theorem Chks.inj (h : Chks E ops s pres wr ds n) {D D' : Dl} (hD : D ∈ ds) (hD' : D' ∈ ds) (e : D.ix = D'.ix) : D = D' := by
 have h1 := (h.at hD).1
 rw [e, (h.at hD').1] at h1
 exact (Option.some.inj h1).symm
theorem Chks.rng (h : Chks E ops s pres wr ds n) {D D' : Dl} (hD : D ∈ ds) (hD' : D' ∈ ds) (e : D.ix < D'.ix) : D.hi ≤ D'.lo := h.rg _ _ D D' e (h.at hD).1 (h.at hD').1
theorem Chks.memP (h : Chks E ops s pres wr ds n) (hP : Pres ops pres) {D : Dl} (hD : D ∈ ds) (X : Dl) : X ∈ byIx D.pr (ds.take D.ix) ↔ X ∈ ds ∧ X.ix ∈ D.pr := by
 unfold byIx
 rw [List.mem_filter, mem_iff]
 constructor
 ·exact fun ⟨h1, h2⟩ => ⟨List.mem_of_mem_take h1, h2⟩
 ·rintro ⟨h1, h2⟩
  obtain ⟨_, o, u, _, k⟩ := h.at hD
  have hpr := k.pr
  rw [nth_eq] at hpr
  have hlt := hP.lt _ _ hpr _ h2
  refine ⟨?_, h2⟩
  have := (h.at h1).1
  refine List.mem_of_getElem? (i := X.ix) ?_
  rw [List.getElem?_take_of_lt hlt]
  exact this
theorem Chks.prt (h : Chks E ops s pres wr ds n) (hP : Pres ops pres) {D X : Dl} (hD : D ∈ ds) (hX : X ∈ ds) (e : X.ix ∈ D.pr) : X.ix < D.ix ∧ ∀ y ∈ X.pr, y ∈ D.pr := by
 obtain ⟨_, o, u, _, k⟩ := h.at hD
 obtain ⟨_, o', u', _, k'⟩ := h.at hX
 have h1 := k.pr
 have h2 := k'.pr
 rw [nth_eq] at h1 h2
 exact ⟨hP.lt _ _ h1 _ e, hP.tr _ _ h1 _ e _ h2⟩
theorem Chks.sup (h : Chks E ops s pres wr ds n) (hP : Pres ops pres) {D : Dl} (hD : D ∈ ds) {σ σ' : Nat → Int} (h1 : ∀ k, k < s.n → σ' k = σ k) (h2 : ∀ X ∈ ds, X = D ∨ X.ix ∈ D.pr → ∀ k, X.lo ≤ k → k < X.hi → σ' k = σ k) :
  ∀ k, symOk s.n (byIx D.pr (ds.take D.ix)) D.lo D.hi k = true → σ' k = σ k := by
 intro k hk
 unfold symOk at hk
 simp only [Bool.or_eq_true, Bool.and_eq_true, blt_iff, List.any_eq_true] at hk
 rcases hk with (hk | ⟨k1, k2⟩) | ⟨X, hX, hr⟩
 ·exact h1 k hk
 ·exact h2 D hD (.inl rfl) k (Nat.le_of_ble_eq_true k1) k2
 ·obtain ⟨x1, x2⟩ := (h.memP hP hD X).1 hX
  unfold Ai.rng at hr
  simp only [Bool.and_eq_true, blt_iff] at hr
  exact h2 X x1 (.inr x2) k (Nat.le_of_ble_eq_true hr.1) hr.2
theorem view_bx (s : AS) (P : List Dl) (ml mb : List Nat) (n : Nat) : (view s P ml mb n).bx.length = s.bx.length + (bxv s.bx.length P none).toList.length := by
 unfold view
 simp [mapI_len]
theorem newbox (b : Nat) (P : List Dl) : (bxv b P none).toList.length = 0 ∧ (∀ D ∈ P, D.wr ≠ some b) ∨ (bxv b P none).toList.length = 1 ∧ ∃ D ∈ P, D.wr = some b := by
 rcases bxv_spec b P none with ⟨h1, h2⟩ | ⟨A, D, r, t, l, h1, h2, h3, h4⟩
 ·exact .inl ⟨by rw [h1]; rfl, h2⟩
 ·exact .inr ⟨by rw [h3]; rfl, D, by rw [h1]; simp, by unfold Dl.wr; rw [h2]; rfl⟩
theorem Chks.nb (h : Chks E ops s pres wr ds n) (hP : Pres ops pres) {D : Dl} (hD : D ∈ ds) {b : Nat} (hb : lt D.nb b = true) : b < s.bx.length ∨ (b = s.bx.length ∧ ∃ X ∈ ds, (X = D ∨ X.ix ∈ D.pr) ∧ X.wr = some s.bx.length) := by
 obtain ⟨_, o, u, _, k⟩ := h.at hD
 have hb : b < D.nb := (blt_iff _ _).1 hb
 rw [k.nb] at hb
 by_cases hlt : b < s.bx.length
 ·exact .inl hlt
 refine .inr ?_
 rcases k.nu with hn | ⟨_, hn, hw⟩
 ·rw [hn] at hb
  unfold before at hb
  rw [view_bx] at hb
  rcases newbox s.bx.length (byIx D.pr (ds.take D.ix)) with ⟨e, _⟩ | ⟨e, X, hX, hw⟩
  ·omega
  ·obtain ⟨x1, x2⟩ := (h.memP hP hD X).1 hX
   exact ⟨by omega, X, x1, .inr x2, hw⟩
 ·exact ⟨by omega, D, hD, .inl rfl, hw⟩
theorem loose_no {i : Nat} {pr : List Nat} {j : Nat} (h : ¬ loose pres i pr j = true) : i = j ∨ j ∈ pr ∨ ∃ q, pres[j]? = some q ∧ i ∈ q := by
 unfold loose at h
 simp only [Bool.and_eq_true, Bool.not_eq_true', not_and, Bool.not_eq_false] at h
 by_cases h1 : i = j
 ·exact .inl h1
 by_cases h2 : j ∈ pr
 ·exact .inr (.inl h2)
 have := h ⟨by cases hb : Nat.beq i j; rfl; exact absurd (Nat.eq_of_beq_eq_true hb) h1, by cases hb : mem j pr; rfl; exact absurd ((mem_iff _ _).1 hb) h2⟩
 rw [nth_eq] at this
 cases hq : pres[j]? with
 | none => rw [hq] at this; simp [mem] at this
 | some q =>
  rw [hq] at this
  exact .inr (.inr ⟨q, rfl, (mem_iff _ _).1 this⟩)
end
section
variable {C : Cx} {E : Env} {w0 : World} {R0 : Nat → Prop} {σ0 σ : Nat → Int} {bp0 bp : Nat → Nat} {R : Nat → Prop} {s : AS} {a : Act} {w : World} {ops : List Oper} {pres : List (List Nat)} {wr : List (Nat × Nat)} {ds : List Dl} {n : Nat} {L : Nat → Prop}
theorem Chks.bind (h : Chks E ops s pres wr ds n) {D X : Dl} (hX : X ∈ ds) (hL : L X.ix) (hi : ¬ L D.ix) (cl : ∀ D ∈ ds, L D.ix → ∀ x ∈ D.pr, L x) (hn : ¬ loose pres D.ix D.pr X.ix = true) : X.ix ∈ D.pr := by
 rcases loose_no hn with e | e | ⟨q, hq, e⟩
 ·exact absurd (by rw [e]; exact hL) hi
 ·exact e
 ·obtain ⟨_, o, u, _, k⟩ := h.at hX
  have hp := k.pr
  rw [nth_eq, hq] at hp
  cases hp
  exact absurd (cl X hX hL _ e) hi
theorem view_stt (h : Chks E ops s pres wr ds n) (hP : Pres ops pres) (fs : ∀ σ', Agr s.n σ' σ0 → Fs σ' s) (I : Iv C w0 R0 s σ0 bp0 ds L σ bp R a w) {P : List Dl} {ml mb : List Nat} {m : Nat} (mP : ∀ X ∈ P, X ∈ ds ∧ L X.ix) (cP : ∀ X ∈ P, ∀ Y ∈ ds, Y.ix ∈ X.pr → Y ∈ P)
  (hP' : ∀ X ∈ P, X.hi ≤ m) (hlo : s.n ≤ m) (tP : ∀ X ∈ ds, L X.ix → ∀ d, X.dst = some d → d ∉ ml → X ∈ P) (bP : ∀ X ∈ ds, L X.ix → ∀ b, X.wr = some b → b ∉ mb → X ∈ P) (nm : s.bx.length ∈ mb → ∀ X ∈ P, X.wr ≠ some s.bx.length) (pw : P.Pairwise fun A B => A.ix < B.ix) :
  Stt C w0 R0 σ bp R (view s P ml mb m) a w := by
 have tl := view_bx s P ml mb m
 have has : ∀ b, b < (view s P ml mb m).bx.length → Has s ds L b := by
  intro b hb
  rw [tl] at hb
  by_cases hlt : b < s.bx.length
  ·exact .inl hlt
  ·rcases newbox s.bx.length P with ⟨e, _⟩ | ⟨e, X, hX, hw⟩
   ·omega
   ·obtain ⟨x1, x2⟩ := mP X hX
    have hbe : b = s.bx.length := by omega
    exact .inr ⟨hbe, X, x1, x2, by rw [hbe]; exact hw⟩
 refine ⟨fun σ' bp' q1 q2 => ?_, ⟨I.hp, I.gw, fun b hb => ?_, fun b c hb hc => I.inj b c (has b hb) (has c hc), I.df, I.r0⟩⟩
 rotate_left
 ·obtain ⟨h1, h2, h3, _⟩ := I.own b (has b hb)
  exact ⟨h1, h2, h3⟩
 have q1 : Agr m σ' σ := q1
 have q1' : Agr s.n σ' σ0 := (q1.less hlo).trans I.ag
 have q2' : Agb s.bx.length bp' bp0 := (Agb.less (show Agb _ bp' bp from q2) (by rw [tl]; omega)).trans I.ab
 have supS : ∀ X ∈ P, ∀ k, symOk s.n (byIx X.pr (ds.take X.ix)) X.lo X.hi k = true → σ' k = σ k := by
  intro X hX
  refine h.sup hP (mP X hX).1 (fun k hk => q1 k (by omega)) fun Y hY hYX k k1 k2 => q1 k ?_
  have : Y ∈ P := by
   rcases hYX with rfl | hYX
   ·exact hX
   ·exact cP X hX Y hY hYX
  have := hP' Y this
  omega
 have supB : ∀ X ∈ P, ∀ b, lt X.nb b = true → bp' b = bp b := by
  intro X hX b hb
  refine q2 b ?_
  rw [tl]
  rcases h.nb hP (mP X hX).1 hb with hlt | ⟨rfl, Y, hY, hYX, hw⟩
  ·omega
  ·have hYD : Y ∈ P := by
    rcases hYX with rfl | hYX
    ·exact hX
    ·exact cP X hX Y hY hYX
   rcases newbox s.bx.length P with ⟨e, hno⟩ | ⟨e, _⟩
   ·exact absurd hw (hno Y hYD)
   ·omega
 have last : ∀ b, b ∉ mb → ∀ A X r, P = A ++ X :: r → X.wr = some b → (∀ D' ∈ r, D'.wr ≠ some b) → ∀ D' ∈ ds, L D'.ix → D'.wr = some b → D' = X ∨ D'.ix ∈ X.pr := by
  intro b hb A X r hA hw hr D' hD' hL hw'
  have hm : D' ∈ P := bP D' hD' hL b hw' hb
  have hXm : X ∈ ds := (mP X (by rw [hA]; simp)).1
  rw [hA] at hm pw
  rcases List.mem_append.1 hm with hm | hm
  ·right
   have hlt : D'.ix < X.ix := (List.pairwise_append.1 pw).2.2 D' hm X List.mem_cons_self
   obtain ⟨_, o', u', _, k'⟩ := h.at hXm
   refine (k'.one D' ?_).2 b hw hw'
   refine List.mem_of_getElem? (i := D'.ix) ?_
   rw [List.getElem?_take_of_lt hlt]
   exact (h.at hD').1
  ·rcases List.mem_cons.1 hm with rfl | hm
   ·exact .inl rfl
   ·exact absurd hw' (hr D' hm)
 refine ⟨?_, ?_, ?_⟩
 ·-- slots
  refine tmOk_of (by rw [← I.len]; exact mapI_len _ _ _) fun d x v hx hv => ?_
  change (mapI _ 0 s.tm)[d]? = some x at hx
  rw [mapI_get, Nat.zero_add, Option.map_eq_some_iff] at hx
  obtain ⟨x0, hx0, rfl⟩ := hx
  cases hm : mem d ml
  ·simp only [cond_false]
   rcases tmv_spec d x0 (P) with ⟨e, hno⟩ | ⟨X, hX, hXd, e⟩
   ·rw [e]
    refine I.tb d x0 v hx0 hv (fun X hX hL hXd => ?_) σ' bp' q1' q2'
    exact hno X (tP X hX hL d hXd fun hh => by rw [(mem_iff _ _).2 hh] at hm; cases hm) hXd
   ·rw [e]
    obtain ⟨x1, x2⟩ := mP X hX
    obtain ⟨_, o', u', ho', k'⟩ := h.at x1
    exact AVOk.cg (supS X hX) (supB X hX) k'.iv (I.to X x1 x2 d v hXd hv)
  ·exact trivial
 ·-- boxes
  refine bxOk_of fun b c hc => ?_
  rw [Nat.zero_add]
  have hlt : b < (view s P ml mb m).bx.length := (List.getElem?_eq_some_iff.1 hc).1
  have hbb : bp' b = bp b := q2 b hlt
  rw [hbb]
  unfold view at hc
  simp only at hc
  by_cases hb : b < s.bx.length
  ·rw [List.getElem?_append_left (by rw [mapI_len]; exact hb), mapI_get, Nat.zero_add, Option.map_eq_some_iff] at hc
   obtain ⟨c0, hc0, rfl⟩ := hc
   obtain ⟨arr, h1, h2, h3⟩ := I.bs b c0 hc0
   unfold boxv
   cases hm : mem b mb
   ·have hm' : b ∉ mb := fun hh => by rw [(mem_iff _ _).2 hh] at hm; cases hm
    simp only [cond_false]
    rcases bxv_spec b (P) (some c0) with ⟨e, hno⟩ | ⟨A, X, r, t, l, hA, hX, e, hr⟩
    ·rw [e]
     refine ⟨arr, h1, h3 (fun X hX hL hw => ?_) σ' bp' q1' q2'⟩
     exact hno X (bP X hX hL b hw hm') hw
    ·rw [e]
     have hXP : X ∈ P := (by rw [hA]; simp)
     obtain ⟨x1, x2⟩ := mP X hXP
     have hw : X.wr = some b := by unfold Dl.wr; rw [hX]; rfl
     obtain ⟨arr', h4, h5⟩ := I.bo X x1 x2 b t l hX (last b hm' A X r hA hw hr)
     obtain ⟨_, o', u', ho', k'⟩ := h.at x1
     exact ⟨arr', h4, LsOk.cg (supS X hXP) (supB X hXP) (k'.ibx _ _ _ hX) h5⟩
   ·exact ⟨arr, h1, unks_ok h2⟩
  ·rw [List.getElem?_append_right (by rw [mapI_len]; omega), mapI_len] at hc
   rcases bxv_spec s.bx.length (P) none with ⟨e, hno⟩ | ⟨A, X, r, t, l, hA, hX, e, hr⟩
   ·rw [e] at hc; simp at hc
   ·rw [e] at hc
    have hbe : b = s.bx.length := by
     have := (List.getElem?_eq_some_iff.1 hc).1
     simp at this
     omega
    subst hbe
    rw [Nat.sub_self] at hc
    simp only [Option.toList_some, List.getElem?_cons_zero, Option.some.injEq] at hc
    subst hc
    have hXP : X ∈ P := (by rw [hA]; simp)
    obtain ⟨x1, x2⟩ := mP X hXP
    have hw : X.wr = some s.bx.length := by unfold Dl.wr; rw [hX]; rfl
    obtain ⟨arr', h4, h5⟩ := I.bo X x1 x2 _ t l hX (last _ (fun hm => nm hm X hXP hw) A X r hA hw hr)
    obtain ⟨_, o', u', ho', k'⟩ := h.at x1
    exact ⟨arr', h4, LsOk.cg (supS X hXP) (supB X hXP) (k'.ibx _ _ _ hX) h5⟩
 ·-- facts
  have f0 := fs σ' q1'
  refine ⟨fun f hf => ?_, f0.lt, fun c hc hp => ?_⟩
  ·change f ∈ (P).reverse.flatMap (·.fa) ++ s.fa at hf
   rcases List.mem_append.1 hf with hf | hf
   ·obtain ⟨X, hX, hf⟩ := List.mem_flatMap.1 hf
    have hXP : X ∈ P := List.mem_reverse.1 hX
    obtain ⟨x1, x2⟩ := mP X hXP
    obtain ⟨_, o', u', ho', k'⟩ := h.at x1
    rw [inL_ev (supS X hXP) (k'.ifa f hf)]
    exact I.fa X x1 x2 f hf
   ·exact f0.fa f hf
  ·change c ∈ (P).reverse.flatMap (·.cf) ++ s.cf at hc
   rcases List.mem_append.1 hc with hc | hc
   ·obtain ⟨X, hX, hc⟩ := List.mem_flatMap.1 hc
    have hXP : X ∈ P := List.mem_reverse.1 hX
    obtain ⟨x1, x2⟩ := mP X hXP
    obtain ⟨_, o', u', ho', k'⟩ := h.at x1
    exact inC_cg (supS X hXP) (k'.icf c hc) (I.cf X x1 x2 c hc) hp
   ·exact f0.cf c hc hp
theorem ds_pw (h : Chks E ops s pres wr ds n) : ds.Pairwise (fun A B => A.ix < B.ix) := by
 rw [List.pairwise_iff_getElem]
 intro i j hi hj hij
 obtain ⟨_, _, _, e1⟩ := h.c i _ (List.getElem?_eq_getElem hi)
 obtain ⟨_, _, _, e2⟩ := h.c j _ (List.getElem?_eq_getElem hj)
 rw [e1.ix, e2.ix]
 exact hij
theorem wr_mem (h : Chks E ops s pres wr ds n) : ∀ X ∈ ds, ∀ b, X.wr = some b → (X.ix, b) ∈ wr := by
 intro X hX b hw
 obtain ⟨_, o', u', _, k'⟩ := h.at hX
 unfold Dl.wr at hw
 simp only [Option.map_eq_some_iff] at hw
 obtain ⟨⟨b', t, l⟩, hb, rfl⟩ := hw
 exact (k'.bx _ _ _ hb).2
theorem before_stt (h : Chks E ops s pres wr ds n) (hP : Pres ops pres) (fs : ∀ σ', Agr s.n σ' σ0 → Fs σ' s) (cl : ∀ D ∈ ds, L D.ix → ∀ x ∈ D.pr, L x) (I : Iv C w0 R0 s σ0 bp0 ds L σ bp R a w) {D : Dl} (hD : D ∈ ds) (hi : ¬ L D.ix) (hpr : ∀ x ∈ D.pr, L x) :
  Stt C w0 R0 σ bp R (before s ops pres wr D.ix (ds.take D.ix) D) a w := by
 obtain ⟨_, o, u, ho, k⟩ := h.at hD
 have mP := h.memP hP hD
 refine view_stt h hP fs I (fun X hX => ?_) (fun X hX Y hY hYX => ?_) (fun X hX => ?_) (h.lo D hD).1 (fun X hX hL d hd hm => ?_) (fun X hX hL b hb hm => ?_) (fun hm X hX hw => ?_) (((ds_pw h).sublist (List.take_sublist _ _)).sublist List.filter_sublist)
 ·obtain ⟨x1, x2⟩ := (mP X).1 hX
  exact ⟨x1, hpr _ x2⟩
 ·obtain ⟨x1, x2⟩ := (mP X).1 hX
  exact (mP Y).2 ⟨hY, (h.prt hP hD x1 x2).2 _ hYX⟩
 ·obtain ⟨x1, x2⟩ := (mP X).1 hX
  exact h.rng x1 hD (h.prt hP hD x1 x2).1
 ·refine (mP X).2 ⟨hX, h.bind hX hL hi cl fun hl => hm ?_⟩
  obtain ⟨_, o', u', ho', k'⟩ := h.at hX
  exact maskT_spec pres D.ix D.pr ops 0 X.ix d o' ho' (by rw [← k'.dst]; exact hd) (by rw [Nat.zero_add]; exact hl)
 ·exact (mP X).2 ⟨hX, h.bind hX hL hi cl fun hl => hm (maskB_spec _ _ _ _ _ _ (wr_mem h X hX b hb) hl)⟩
 ·have e := k.nm hm
  unfold before at e
  rw [view_bx] at e
  rcases newbox s.bx.length (byIx D.pr (ds.take D.ix)) with ⟨_, hno⟩ | ⟨e', _⟩
  ·exact hno X hX hw
  ·omega
theorem after_stt (h : Chks E ops s pres wr ds n) (hP : Pres ops pres) (fs : ∀ σ', Agr s.n σ' σ0 → Fs σ' s) (I : Iv C w0 R0 s σ0 bp0 ds L σ bp R a w) (hall : ∀ X ∈ ds, L X.ix) : Stt C w0 R0 σ bp R (view s ds [] [] n) a w :=
 view_stt h hP fs I (fun X hX => ⟨hX, hall X hX⟩) (fun X hX Y hY _ => hY) (fun X hX => (h.lo X hX).2) h.n (fun X hX _ _ _ _ => hX) (fun X hX _ _ _ _ => hX) (fun hm => by simp at hm) (ds_pw h)
end
end Go.Proofs.YtkmkchfjnhnacaaGreat.Ai
