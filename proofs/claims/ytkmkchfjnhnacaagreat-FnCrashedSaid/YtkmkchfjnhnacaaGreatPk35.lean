/- The interpreter's drawn regions: what the check of one says. -/
import Derived.Test.YtkmkchfjnhnacaaGreatPk34
namespace Go.Proofs.YtkmkchfjnhnacaaGreat.Ai
open Go.RowKit
set_option linter.unusedVariables false
set_option linter.unusedSimpArgs false
def before (s : AS) (ops : List Oper) (pres : List (List Nat)) (wr : List (Nat × Nat)) (i : Nat) (pre : List Dl) (D : Dl) : AS :=
 view s (byIx D.pr pre) (maskT pres i D.pr 0 ops) (maskB pres i D.pr wr) D.lo
structure Chk (E : Env) (ops : List Oper) (s : AS) (pres : List (List Nat)) (wr : List (Nat × Nat)) (i : Nat) (o : Oper) (pre : List Dl) (D : Dl) (u : AS) : Prop where
 pr : nth pres i = some D.pr
 ix : D.ix = i
 dst : D.dst = o.dst
 st : step1 E ops (before s ops pres wr i pre D) o = some u
 hi : D.hi = u.n
 nb : D.nb = u.bx.length
 v : ∀ d, D.dst = some d → nth u.tm d = some D.v
 fa : ∀ f ∈ D.fa, f ∈ u.fa
 cf : ∀ f ∈ D.cf, f ∈ u.cf
 bx : ∀ b t l, D.bx = some (b, t, l) → nth u.bx b = some (t, l) ∧ (i, b) ∈ wr
 le : D.lo ≤ D.hi
 tg : ∀ b, tgs (before s ops pres wr i pre D) o = some b → D.wr = some b
 nu : u.bx.length = (before s ops pres wr i pre D).bx.length ∨ ((before s ops pres wr i pre D).bx.length = s.bx.length ∧ u.bx.length = s.bx.length + 1 ∧ D.wr = some s.bx.length)
 bok : ∀ b t l, D.bx = some (b, t, l) → (∀ c, nth s.bx b = some c → c.1 = t ∧ c.2.length = l.length) ∧ (nth s.bx b = none → b = s.bx.length)
 nm : s.bx.length ∈ maskB pres i D.pr wr → (before s ops pres wr i pre D).bx.length = s.bx.length
 one : ∀ D' ∈ pre, (∀ d, D.dst = some d → D'.dst ≠ some d) ∧ (∀ b, D.wr = some b → D'.wr = some b → D'.ix ∈ D.pr)
 iv : inV (symOk s.n (byIx D.pr pre) D.lo D.hi) (lt D.nb) D.v = true
 ifa : ∀ f ∈ D.fa, inL (symOk s.n (byIx D.pr pre) D.lo D.hi) f = true
 icf : ∀ f ∈ D.cf, inC (symOk s.n (byIx D.pr pre) D.lo D.hi) f = true
 ibx : ∀ b t l, D.bx = some (b, t, l) → inAs (symOk s.n (byIx D.pr pre) D.lo D.hi) (lt D.nb) l = true
section
variable {E : Env} {ops : List Oper} {s : AS} {pres : List (List Nat)} {wr : List (Nat × Nat)}
theorem chk_of {i : Nat} {o : Oper} {pre : List Dl} {pr : List Nat} {u : AS} {D : Dl} {n : Nat} (hpr : nth pres i = some pr) (hs : step1 E ops (view s (byIx pr pre) (maskT pres i pr 0 ops) (maskB pres i pr wr) n) o = some u)
  (hD : mkD i pr o (view s (byIx pr pre) (maskT pres i pr 0 ops) (maskB pres i pr wr) n) u (look i wr) = some D) (hok : okD s pre (byIx pr pre) (maskB pres i pr wr) (view s (byIx pr pre) (maskT pres i pr 0 ops) (maskB pres i pr wr) n) u o (look i wr) D = true) : Chk E ops s pres wr i o pre D u ∧ D.lo = n := by
 unfold mkD at hD
 split at hD
 ·rename_i v b hv hb
  have hDn := Option.some.inj hD
  have e1 : D.pr = pr := by rw [← hDn]
  have e2 : D.lo = n := by rw [← hDn]; rfl
  have e3 : D.dst = o.dst := by rw [← hDn]
  have e4 : D.v = v := by rw [← hDn]
  have e5 : D.bx = b := by rw [← hDn]
  have e6 : D.hi = u.n := by rw [← hDn]
  have e7 : D.nb = u.bx.length := by rw [← hDn]
  have e8 : D.ix = i := by rw [← hDn]
  have e9 : ∀ f ∈ D.fa, f ∈ u.fa := by rw [← hDn]; exact fun f hf => List.mem_of_mem_take hf
  have e10 : ∀ f ∈ D.cf, f ∈ u.cf := by rw [← hDn]; exact fun f hf => List.mem_of_mem_take hf
  have hb2 : ∀ b', look i wr = some b' → ∃ c, nth u.bx b' = some c ∧ b = some (b', c) := by
   intro b' hl
   rw [hl] at hb
   simp only [Option.map_eq_some_iff] at hb
   obtain ⟨c, hc, e⟩ := hb
   exact ⟨c, hc, e.symm⟩
  have hb3 : look i wr = none → b = none := by
   intro hl
   rw [hl] at hb
   simp only [Option.some.injEq] at hb
   exact hb.symm
  have hb4 : ∀ b' t l, b = some (b', t, l) → look i wr = some b' ∧ nth u.bx b' = some (t, l) := by
   intro b' t l e
   cases hl : look i wr with
   | none => rw [hb3 hl] at e; cases e
   | some b'' =>
    obtain ⟨c, hc, e'⟩ := hb2 b'' hl
    rw [e] at e'
    simp only [Option.some.injEq, Prod.mk.injEq] at e'
    obtain ⟨rfl, rfl⟩ := e'
    exact ⟨rfl, hc⟩
  have hw : ∀ b', look i wr = some b' → D.wr = some b' := by
   intro b' hl
   obtain ⟨c, hc, e⟩ := hb2 b' hl
   unfold Dl.wr
   rw [e5, e]
   rfl
  subst e2
  subst e1
  unfold okD at hok
  simp only [Bool.and_eq_true] at hok
  obtain ⟨⟨⟨⟨⟨⟨⟨⟨⟨⟨o1, o2⟩, o3⟩, o4⟩, o5⟩, o6⟩, o7⟩, o8⟩, o9⟩, o10⟩, o11⟩ := hok
  refine ⟨⟨hpr, e8, e3, hs, e6, e7, ?_, e9, e10, ?_, ?_, ?_, ?_, ?_, ?_, ?_, o8, ?_, ?_, ?_⟩, rfl⟩
  ·intro d hd
   rw [e3] at hd
   rw [hd] at hv
   rw [e4]
   exact hv
  ·intro b' t l hb'
   rw [e5] at hb'
   obtain ⟨h1, h2⟩ := hb4 b' t l hb'
   exact ⟨h2, look_mem _ h1⟩
  ·rw [e6]
   exact Nat.le_of_ble_eq_true o1
  ·intro b' hb'
   change tgt [] _ o.op = some b' at hb'
   unfold before at hb'
   rw [hb'] at o3
   simp only at o3
   split at o3
   ·rename_i c hc
    rw [hw c hc, Nat.eq_of_beq_eq_true o3]
   ·cases o3
  ·simp only [Bool.or_eq_true, Bool.and_eq_true] at o4
   rcases o4 with o4 | ⟨⟨h1, h2⟩, h3⟩
   ·exact .inl (Nat.eq_of_beq_eq_true o4)
   ·refine .inr ⟨Nat.eq_of_beq_eq_true h1, Nat.eq_of_beq_eq_true h2, ?_⟩
    split at h3
    ·rename_i c hc
     rw [hw c hc, Nat.eq_of_beq_eq_true h3]
    ·cases h3
  ·intro b' t l hb'
   unfold boxOk at o5
   rw [hb'] at o5
   simp only at o5
   constructor
   ·intro c hc
    rw [hc] at o5
    simp only [Bool.and_eq_true] at o5
    exact ⟨Nat.eq_of_beq_eq_true o5.1, Nat.eq_of_beq_eq_true o5.2⟩
   ·intro hc
    rw [hc] at o5
    exact Nat.eq_of_beq_eq_true o5
  ·intro hm
   rw [(mem_iff _ _).2 hm] at o6
   simp only [Bool.not_true, Bool.false_or] at o6
   exact Nat.eq_of_beq_eq_true o6
  ·intro D' hD'
   have := List.all_eq_true.1 o7 D' hD'
   simp only [Bool.and_eq_true] at this
   obtain ⟨h1, h2⟩ := this
   constructor
   ·intro d hd hd'
    rw [hd, hd'] at h1
    simp only [Nat.beq_refl] at h1
    cases h1
   ·intro b' hb' hb''
    unfold Dl.wr at hb' hb''
    simp only [Option.map_eq_some_iff] at hb' hb''
    obtain ⟨x, hx, rfl⟩ := hb'
    obtain ⟨y, hy, e⟩ := hb''
    rw [hx, hy] at h2
    simp only [Bool.or_eq_true] at h2
    rcases h2 with h2 | h2
    ·rw [e, Nat.beq_refl] at h2; cases h2
    ·exact (mem_iff _ _).1 h2
  ·exact List.all_eq_true.1 o9
  ·exact List.all_eq_true.1 o10
  ·intro b' t l hb'
   rw [hb'] at o11
   exact o11
 ·cases hD
structure Chks (E : Env) (ops : List Oper) (s : AS) (pres : List (List Nat)) (wr : List (Nat × Nat)) (ds : List Dl) (n : Nat) : Prop where
 c : ∀ j D, ds[j]? = some D → ∃ o u, ops[j]? = some o ∧ Chk E ops s pres wr j o (ds.take j) D u
 rg : ∀ (j k : Nat) D D', j < k → ds[j]? = some D → ds[k]? = some D' → D.hi ≤ D'.lo
 lo : ∀ D ∈ ds, s.n ≤ D.lo ∧ D.hi ≤ n
 n : s.n ≤ n
theorem anyGo_spec : ∀ {l : List Oper} {i : Nat} {ds dsF : List Dl} {n nF : Nat}, anyGo E ops s pres wr i l ds n = some (dsF, nF) → ds.length = i → ops.drop i = l → Chks E ops s pres wr ds n → Chks E ops s pres wr dsF nF ∧ dsF.length = i + l.length
 | [], i, ds, dsF, n, nF, h, hi, hl, hc => by
  cases h
  exact ⟨hc, hi⟩
 | o :: l, i, ds, dsF, n, nF, h, hi, hl, hc => by
  simp only [anyGo] at h
  split at h
  ·cases h
  ·rename_i pr hpr
   split at h
   ·cases h
   ·rename_i u hu
    split at h
    ·cases h
    ·rename_i D hD
     cases hok : okD s ds (byIx pr ds) (maskB pres i pr wr) (view s (byIx pr ds) (maskT pres i pr 0 ops) (maskB pres i pr wr) n) u o (look i wr) D <;> rw [hok] at h
     ·cases h
     simp only [cond_true] at h
     obtain ⟨k, klo⟩ := chk_of hpr hu hD hok
     have hoi : ops[i]? = some o := by
      have := congrArg (fun l => l[0]?) hl
      simp only [List.getElem?_drop, Nat.add_zero, List.getElem?_cons_zero] at this
      exact this
     have hdr : ops.drop (i + 1) = l := by
      have := congrArg (List.drop 1) hl
      simpa [List.drop_drop, Nat.add_comm] using this
     have := anyGo_spec h (by simp [hi]) hdr ⟨fun j D' hj => ?_, fun j k' D1 D2 hjk h1 h2 => ?_, fun D' hD' => ?_, ?_⟩
     ·refine ⟨this.1, ?_⟩
      rw [this.2, List.length_cons]
      omega
     ·by_cases hji : j < ds.length
      ·rw [List.getElem?_append_left hji] at hj
       rw [List.take_append_of_le_length (Nat.le_of_lt hji)]
       exact hc.c j D' hj
      ·have hje : j = ds.length := by
        have := (List.getElem?_eq_some_iff.1 hj).1
        simp at this
        omega
       subst hje
       rw [List.getElem?_append_right (Nat.le_refl _), Nat.sub_self] at hj
       cases hj
       rw [List.take_left]
       rw [hi]
       exact ⟨o, u, hoi, k⟩
     ·have hk' : k' ≤ ds.length := by
       have := (List.getElem?_eq_some_iff.1 h2).1
       simp at this
       omega
      rw [List.getElem?_append_left (by omega)] at h1
      by_cases hk2 : k' < ds.length
      ·rw [List.getElem?_append_left hk2] at h2
       exact hc.rg j k' D1 D2 hjk h1 h2
      ·have : k' = ds.length := by omega
       subst this
       rw [List.getElem?_append_right (Nat.le_refl _), Nat.sub_self] at h2
       cases h2
       rw [klo]
       exact (hc.lo D1 (List.mem_of_getElem? h1)).2
     ·rcases List.mem_append.1 hD' with hD' | hD'
      ·obtain ⟨h1, h2⟩ := hc.lo D' hD'
       refine ⟨h1, Nat.le_trans h2 ?_⟩
       rw [← k.hi, ← klo]
       exact k.le
      ·simp only [List.mem_singleton] at hD'
       subst hD'
       refine ⟨by rw [klo]; exact hc.n, by rw [k.hi]; exact Nat.le_refl _⟩
     ·rw [← k.hi]
      exact Nat.le_trans hc.n (by rw [← klo]; exact k.le)
theorem uni_mem : ∀ (l m : List Nat) (x : Nat), x ∈ uni l m ↔ x ∈ l ∨ x ∈ m
 | [], m, x => by simp [uni]
 | y :: l, m, x => by
  simp only [uni]
  cases hm : mem y m
  ·simp only [cond_false]
   rw [uni_mem l (y :: m) x]
   simp only [List.mem_cons]
   constructor
   ·rintro (h | h | h)
    ·exact .inl (.inr h)
    ·exact .inl (.inl h)
    ·exact .inr h
   ·rintro ((h | h) | h)
    ·exact .inr (.inl h)
    ·exact .inl h
    ·exact .inr (.inr h)
  ·simp only [cond_true]
   rw [uni_mem l m x]
   simp only [List.mem_cons]
   have := (mem_iff y m).1 hm
   constructor
   ·rintro (h | h)
    ·exact .inl (.inr h)
    ·exact .inr h
   ·rintro ((h | h) | h)
    ·subst h; exact .inr this
    ·exact .inl h
    ·exact .inr h
theorem predsE_spec {acc : List (List Nat)} : ∀ {l : List Edge} {r : List Nat}, predsE acc l = some r →
  (∀ e ∈ l, Region.binds .any e = true → ∃ p, nth acc e.on = some p ∧ e.on ∈ r ∧ ∀ x ∈ p, x ∈ r) ∧ ∀ x ∈ r, ∃ e ∈ l, Region.binds .any e = true ∧ ∃ p, nth acc e.on = some p ∧ (x = e.on ∨ x ∈ p)
 | [], r, h => by cases h; exact ⟨by simp, by simp⟩
 | e :: l, r, h => by
  simp only [predsE] at h
  split at h
  ·cases h
  ·rename_i m hm
   obtain ⟨i1, i2⟩ := predsE_spec hm
   cases hb : Region.binds .any e <;> rw [hb] at h
   ·cases h
    refine ⟨fun x hx hxb => ?_, fun x hx => ?_⟩
    ·rcases List.mem_cons.1 hx with rfl | hx
     ·rw [hb] at hxb; cases hxb
     ·exact i1 x hx hxb
    ·obtain ⟨y, h1, h2⟩ := i2 x hx
     exact ⟨y, List.mem_cons_of_mem _ h1, h2⟩
   ·simp only [cond_true] at h
    split at h
    ·rename_i p hp
     cases h
     refine ⟨fun x hx hxb => ?_, fun x hx => ?_⟩
     ·rcases List.mem_cons.1 hx with rfl | hx
      ·exact ⟨p, hp, (uni_mem _ _ _).2 (.inl List.mem_cons_self), fun y hy => (uni_mem _ _ _).2 (.inl (List.mem_cons_of_mem _ hy))⟩
      ·obtain ⟨p', h1, h2, h3⟩ := i1 x hx hxb
       exact ⟨p', h1, (uni_mem _ _ _).2 (.inr h2), fun y hy => (uni_mem _ _ _).2 (.inr (h3 y hy))⟩
     ·rcases (uni_mem _ _ _).1 hx with hx | hx
      ·exact ⟨e, List.mem_cons_self, hb, p, hp, List.mem_cons.1 hx⟩
      ·obtain ⟨y, h1, h2⟩ := i2 x hx
       exact ⟨y, List.mem_cons_of_mem _ h1, h2⟩
    ·cases h
structure Pres (ops : List Oper) (pres : List (List Nat)) : Prop where
 lt : ∀ (i : Nat) (pr : List Nat), pres[i]? = some pr → ∀ x ∈ pr, x < i
 tr : ∀ (i : Nat) (pr : List Nat), pres[i]? = some pr → ∀ x ∈ pr, ∀ (pr' : List Nat), pres[x]? = some pr' → ∀ y ∈ pr', y ∈ pr
 rd : ∀ (i : Nat) (pr : List Nat) (o : Oper), pres[i]? = some pr → ops[i]? = some o → ∀ x ∈ pr, ∃ e ∈ o.after.toList, Region.binds .any e = true ∧ ∃ p, pres[e.on]? = some p ∧ (x = e.on ∨ x ∈ p)
 bd : ∀ (i : Nat) (pr : List Nat) (o : Oper), pres[i]? = some pr → ops[i]? = some o → ∀ e ∈ o.after.toList, Region.binds .any e = true → e.on < i
theorem presOf_spec : ∀ {l : List Oper} {i : Nat} {acc pres : List (List Nat)}, presOf l acc = some pres → acc.length = i → ops.drop i = l → Pres ops acc → Pres ops pres ∧ pres.length = i + l.length
 | [], i, acc, pres, h, hi, hl, hp => by
  cases h
  exact ⟨hp, hi⟩
 | o :: l, i, acc, pres, h, hi, hl, hp => by
  simp only [presOf] at h
  split at h
  ·rename_i p hpp
   have hoi : ops[i]? = some o := by
    have := congrArg (fun l => l[0]?) hl
    simp only [List.getElem?_drop, Nat.add_zero, List.getElem?_cons_zero] at this
    exact this
   have hdr : ops.drop (i + 1) = l := by
    have := congrArg (List.drop 1) hl
    simpa [List.drop_drop, Nat.add_comm] using this
   obtain ⟨s1, s2⟩ := predsE_spec hpp
   have get : ∀ (j : Nat) (pr : List Nat), (acc ++ [p])[j]? = some pr → (j < acc.length ∧ acc[j]? = some pr) ∨ (j = acc.length ∧ pr = p) := by
    intro j pr hj
    by_cases hji : j < acc.length
    ·rw [List.getElem?_append_left hji] at hj; exact .inl ⟨hji, hj⟩
    ·have hje : j = acc.length := by
      have := (List.getElem?_eq_some_iff.1 hj).1
      simp at this
      omega
     subst hje
     rw [List.getElem?_append_right (Nat.le_refl _), Nat.sub_self] at hj
     cases hj
     exact .inr ⟨rfl, rfl⟩
   have old : ∀ (j : Nat) pr, nth acc j = some pr → j < acc.length ∧ acc[j]? = some pr := by
    intro j pr hj
    rw [nth_eq] at hj
    exact ⟨(List.getElem?_eq_some_iff.1 hj).1, hj⟩
   have lt2 : ∀ x ∈ p, x < acc.length := by
    intro x hx
    obtain ⟨e, _, _, q, hq, hx⟩ := s2 x hx
    obtain ⟨h1, h2⟩ := old _ _ hq
    rcases hx with rfl | hx
    ·exact h1
    ·have := hp.lt _ _ h2 x hx; omega
   have := presOf_spec h (by simp [hi]) hdr ⟨fun j pr hj x hx => ?_, fun j pr hj x hx pr' hx' y hy => ?_, fun j pr o' hj ho x hx => ?_, fun j pr o' hj ho e he hb => ?_⟩
   ·refine ⟨this.1, ?_⟩
    rw [this.2, List.length_cons]
    omega
   ·rcases get j pr hj with ⟨h1, h2⟩ | ⟨h1, rfl⟩
    ·exact hp.lt j pr h2 x hx
    ·rw [h1]; exact lt2 x hx
   ·rcases get j pr hj with ⟨h1, h2⟩ | ⟨h1, rfl⟩
    ·have hxlt := hp.lt j pr h2 x hx
     rw [List.getElem?_append_left (by omega)] at hx'
     exact hp.tr j pr h2 x hx pr' hx' y hy
    ·have hxlt := lt2 x hx
     rw [List.getElem?_append_left hxlt] at hx'
     obtain ⟨e, he, hb, q, hq, hx⟩ := s2 x hx
     obtain ⟨q', hq', r1, r2⟩ := s1 e he hb
     rw [hq] at hq'
     cases hq'
     obtain ⟨g1, g2⟩ := old _ _ hq
     rcases hx with rfl | hx
     ·rw [g2] at hx'
      cases hx'
      exact r2 y hy
     ·exact r2 y (hp.tr _ _ g2 x hx pr' hx' y hy)
   ·rcases get j pr hj with ⟨h1, h2⟩ | ⟨h1, rfl⟩
    ·obtain ⟨e, he, hb, q, hq, hx⟩ := hp.rd j pr o' h2 ho x hx
     exact ⟨e, he, hb, q, by rw [List.getElem?_append_left (List.getElem?_eq_some_iff.1 hq).1]; exact hq, hx⟩
    ·rw [h1, hi, hoi] at ho
     cases ho
     obtain ⟨e, he, hb, q, hq, hx⟩ := s2 x hx
     obtain ⟨g1, g2⟩ := old _ _ hq
     exact ⟨e, he, hb, q, by rw [List.getElem?_append_left g1]; exact g2, hx⟩
   ·rcases get j pr hj with ⟨h1, h2⟩ | ⟨h1, rfl⟩
    ·exact hp.bd j pr o' h2 ho e he hb
    ·rw [h1, hi, hoi] at ho
     cases ho
     obtain ⟨q, hq, _⟩ := s1 e he hb
     rw [h1]
     exact (old _ _ hq).1
  ·cases h
end
end Go.Proofs.YtkmkchfjnhnacaaGreat.Ai
