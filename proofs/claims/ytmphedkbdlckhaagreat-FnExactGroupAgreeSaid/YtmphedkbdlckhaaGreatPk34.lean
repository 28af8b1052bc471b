/- slices.Delete at cells, slices.Insert at an empty row, and the program's put. -/
import Derived.Test.YtmphedkbdlckhaaGreatPk24
import Derived.Test.YtmphedkbdlckhaaGreatPk33
import Derived.Test.YtmphedkbdlckhaaGreatPk11
import Derived.Test.YtmphedkbdlckhaaGreatPk21
namespace Go.Proofs.YtmphedkbdlckhaaGreat
open Go.ChangeShapes Go.WideShapes Go.ChangeAt Go.RowKit Go.Sort
set_option linter.unusedVariables false
set_option linter.unusedSimpArgs false
def DelAt (ado : Option Addr) (m g off : Nat) : Prop := ∃ ad, ado = some ad ∧ (m = 0 ∨ ad = ⟨g, off, none⟩)
section
variable {P : Program} {α : Type} {enc : α → List Value} {ops : Array Oper} {rest : List Oper} {o : Oper} {a : Act} {w : World} {Q : Exit → Act → World → Prop}
theorem wl_appDel (hgd : o.guard = none) (s x : Operand) (t e : TypeId) (i : TypeInfo) (size : Nat) (ho : o.op = .call { callee := .builtin .append, args := #[s, x], argTypes := #[t, t] })
  (ht : P.underlying t = some (.slice e)) (hi : P.info? e = some i) (hsize : i.size = size) (hsz : 0 < size) (hlen : ∀ x, (enc x).length = size) (hone : ∀ x, ∀ u ∈ enc x, u.oneCell' = true)
  (B g c : Nat) (l : List α) (k : Nat) (hk : k < l.length) (hown : Ow enc e size w B (.slice (some ⟨g, 0, none⟩) l.length c) l) (hs : a.eval s = .slice (some ⟨g, 0, none⟩) k c)
  (ado : Option Addr) (m c2 : Nat) (hx : a.eval x = .slice ado m c2) (hado : DelAt ado m g ((k + 1) * size)) (hm : m = l.length - (k + 1))
  (h : ∀ W cur, W.heap[g]? = some (.cells cur e (0, 0)) → cur.size = c * size → cur.toList.take ((l.length - 1) * size) = (l.take k ++ l.drop (k + 1)).flatMap enc → Chg w W [g] → wpList P ops Q rest (a.put o.dst (.slice (some ⟨g, 0, none⟩) (l.length - 1) c)) W) : wpList P ops Q (o :: rest) a w := by
 subst hsize hm
 obtain ⟨ad, rfl, had⟩ := hado
 rcases hown.2 with ⟨he, _⟩ | ⟨g', cap, cur, he, hbg, hgg, hnc, hcm, hcs, htake⟩
 ·simp at he
 simp only [Value.slice.injEq, Option.some.injEq, Addr.mk.injEq, and_true, true_and] at he
 obtain ⟨rfl, rfl⟩ := he
 have hfl : (l.flatMap enc).length = l.length * i.size := hown.1
 have hD : ((l.drop (k + 1)).flatMap enc).length = (l.length - (k + 1)) * i.size := by rw [flat_length hlen, List.length_drop]
 have hT : ((l.take k).flatMap enc).length = k * i.size := by rw [flat_length hlen, List.length_take, Nat.min_eq_left (by omega)]
 have hT1 : ((l.take (k + 1)).flatMap enc).length = (k + 1) * i.size := by rw [flat_length hlen, List.length_take, Nat.min_eq_left (by omega)]
 have hsplit : l.flatMap enc = (l.take k).flatMap enc ++ (l.drop k).flatMap enc := by rw [← List.flatMap_append, List.take_append_drop]
 have hsplit1 : l.flatMap enc = (l.take (k + 1)).flatMap enc ++ (l.drop (k + 1)).flatMap enc := by rw [← List.flatMap_append, List.take_append_drop]
 have hcells : ∀ j u, (l.flatMap enc)[j]? = some u → w.cell? ((⟨g, 0, none⟩ : Addr).add j) = some u := World.ownsRow.cells hown rfl
 have hnews : ∀ j u, ((l.drop (k + 1)).flatMap enc)[j]? = some u → w.cell? (ad.add j) = some u := fun j u hu => by
  rcases had with h0 | rfl
  ·have := (List.getElem?_eq_some_iff.1 hu).1
   rw [hD, h0, Nat.zero_mul] at this
   omega
  have h1 := hcells ((k + 1) * i.size + j) u (by rw [hsplit1, List.getElem?_append_right (by omega), hT1]; simpa using hu)
  rw [Addr.add_lit] at h1 ⊢
  rw [Nat.zero_add] at h1
  exact h1
 have hmul : k * i.size + (l.length - (k + 1)) * i.size = (l.length - 1) * i.size := by rw [← Nat.add_mul]; congr 1; omega
 have hle : (l.length - 1) * i.size ≤ c * i.size := Nat.mul_le_mul_right _ (by omega)
 have hrun := run_append_room (P := P) (w := w) t o.type e i ht hi g k c cur hgg ad (l.length - (k + 1)) c2 ((l.drop (k + 1)).flatMap enc) hD hnews (flat_one hone _) (by omega) (by rw [hD, hcs, hmul]; exact hle)
 refine wpList_plain hgd fun K hK => ?_
 unfold Oper.wp execOp
 rw [show k + (l.length - (k + 1)) = l.length - 1 by omega] at hrun
 simp only [ho, resolve, invoke, builtin, Sem.run_bind, Sem.run_pure, Result.andThen_ok, List.map_toArray, List.map_cons, List.map_nil, hs, hx, hrun]
 have htk : cur.toList.take (k * i.size) = (l.take k).flatMap enc := by
  have h1 : cur.toList.take (k * i.size) = (cur.toList.take (l.length * i.size)).take (k * i.size) := by rw [List.take_take, Nat.min_eq_left (Nat.mul_le_mul_right _ (by omega))]
  rw [h1, htake, hsplit, ← hT]
  exact List.take_left
 refine hK _ _ (h _ _ (setRow_heap w g cur _ e (0, 0) hgg) ?_ ?_ (chg_setRow w g _))
 ·simp only [List.size_toArray, List.length_append, List.length_take, List.length_drop, Array.length_toList, hD, hcs]
  have : k * i.size ≤ c * i.size := Nat.mul_le_mul_right _ (by omega)
  omega
 ·rw [htk, ← List.flatMap_append]
  have hl : ((l.take k ++ l.drop (k + 1)).flatMap enc).length = (l.length - 1) * i.size := by rw [List.flatMap_append, List.length_append, hT, hD, hmul]
  rw [← hl]
  show ((l.take k ++ l.drop (k + 1)).flatMap enc ++ _).take _ = _
  exact List.take_left
theorem run_clear1 (t e : TypeId) (i : TypeInfo) (z : Value) (size : Nat) (ht : P.underlying t = some (.slice e)) (hi : P.info? e = some i) (hz : i.zero = some z) (hzc : (Builtin.zeroCells z.cells 1).toList.length = size) (hzo : ∀ u ∈ (Builtin.zeroCells z.cells 1).toList, u.oneCell' = true)
  (g q : Nat) (cur : Array Value) (hg : w.heap[g]? = some (.cells cur e (0, 0))) (hfit : q * size + size ≤ cur.size) :
  ∃ W cur', (∀ ty c, (Builtin.clear_ #[t] ty #[.slice (some ⟨g, q * size, none⟩) 1 c]).run P w = .ok (.tuple #[]) W) ∧ W.heap[g]? = some (.cells cur' e (0, 0)) ∧ cur'.size = cur.size ∧ cur'.toList.take (q * size) = cur.toList.take (q * size) ∧ Chg w W [g] := by
 have hst := run_storeCells_at P g (q * size) e (Builtin.zeroCells z.cells 1).toList 0 cur w hg (by rw [hzc]; omega) hzo
 have hv : (zeroValue e).run P w = .ok z w := by simp [zeroValue, typeInfo, hi, hz, go_sem]
 have h1 : (cur.toList.take (q * size)).length = q * size := by rw [List.length_take, Array.length_toList]; omega
 refine ⟨w.setRow g (cur.toList.take (q * size + 0) ++ (Builtin.zeroCells z.cells 1).toList ++ cur.toList.drop (q * size + 0 + (Builtin.zeroCells z.cells 1).toList.length)).toArray, _, fun ty c => ?_, setRow_heap w g cur _ e (0, 0) hg, ?_, ?_, chg_setRow w g _⟩
 ·simp only [Builtin.clear_, List.getElem?_toArray, List.getElem?_cons_zero, Sem.run_bind, run_underlying ht, Result.andThen_ok, hv, hst]
  rfl
 ·simp only [List.size_toArray, List.length_append, List.length_take, List.length_drop, Array.length_toList, hzc, Nat.add_zero]
  omega
 ·rw [Nat.add_zero]
  have h2 : (cur.toList.take (q * size) ++ (Builtin.zeroCells z.cells 1).toList ++ cur.toList.drop (q * size + (Builtin.zeroCells z.cells 1).toList.length)).take (q * size) = cur.toList.take (q * size) := by
   rw [List.append_assoc]
   have h3 := List.take_left (l₁ := cur.toList.take (q * size)) (l₂ := (Builtin.zeroCells z.cells 1).toList ++ cur.toList.drop (q * size + (Builtin.zeroCells z.cells 1).toList.length))
   rw [h1] at h3
   exact h3
  exact h2
end
set_option maxRecDepth 100000 in
set_option maxHeartbeats 4000000 in
theorem c_delCell (g c : Nat) (l : List Cel) (k B : Nat) (w : World) (ho : Ow Cel.enc 112 2 w B (.slice (some ⟨g, 0, none⟩) l.length c) l) (hk : k < l.length) (hn : l.length ≤ 1000) :
  Calls Tryz.prog 152 #[.slice (some ⟨g, 0, none⟩) l.length c, .int .i64 k, .int .i64 (k + 1)] w fun e w' => e = .returned (.slice (some ⟨g, 0, none⟩) (l.take k ++ l.drop (k + 1)).length c) ∧ Ow Cel.enc 112 2 w' B (.slice (some ⟨g, 0, none⟩) (l.take k ++ l.drop (k + 1)).length c) (l.take k ++ l.drop (k + 1)) ∧ Chg w w' [g] := by
 obtain ⟨i0, hi, hz0, hz1, hz2⟩ := info_parts Tryz.infoCel
 obtain ⟨g', cap, cur0, he, hbg, hgg, hnc, hcm, hcs, htake⟩ : ∃ (g' cap : Nat) (cur : Array Value), Value.slice (some ⟨g, 0, none⟩) l.length c = .slice (some ⟨g', 0, none⟩) l.length cap ∧ B ≤ g' ∧ w.heap[g']? = some (.cells cur 112 (0, 0)) ∧ l.length ≤ cap ∧ cap ≤ maxLen ∧ cur.size = cap * 2 ∧ cur.toList.take (l.length * 2) = l.flatMap Cel.enc := by
  rcases ho.2 with ⟨he, _⟩ | h
  ·simp at he
  ·exact h
 simp only [Value.slice.injEq, Option.some.injEq, Addr.mk.injEq, and_true, true_and] at he
 obtain ⟨rfl, rfl⟩ := he
 unfold maxLen at hcm
 have q1 : ((k : Int) == (k : Int) + 1) = false := by simp; omega
 have HO := Hd ho
 have HL := Hd (show (l.take k ++ l.drop (k + 1)).length = l.length - 1 by simp; omega)
 have hlt := bx_lt hgg
 clear ho hcs htake
 by_cases hck : c = k + 1
 ·subst hck
  have HAd := Hd (show DelAt (some ⟨g, 0, none⟩) 0 g ((k + 1) * 2) from ⟨_, rfl, .inl rfl⟩)
  have HM := Hd (show 0 = l.length - (k + 1) by omega)
  go_enter Tryz.func152, Tryz.ntmps152
  go_wp2
  (refine Rm.wp_region_mix' (R := relE w.heap.size) (fun _ _ _ => True) (fun _ _ _ _ _ hq => hq) 6 (by first | exact Nat.le_refl _ | omega | (simp; omega)) (by kernel_rfl) (by kernel_rfl) ?_; simp only [Tc, Tz, Dc, Dz])
  (iterate 6 (refine Rm.wpMix_plain rfl rfl ?_; go_big_quiet_step (fail); refine wpQuiet_nil ?_))
  refine Rm.wpMix_nil ?_
  rintro w2 hW
  have x : Ext w w2 := hW
  have HO2 := Hd (HO.out.kept x)
  have HX := Hd x
  clear x hW HO
  go_wp2_with (at_builtin; refine wl_appDel (enc := Cel.enc) rfl _ _ 47 112 i0 2 rfl Tryz.underlying47 hi hz1 (by decide) Cel.enc_len Cel.one B g _ l k hk HO2.out rfl _ _ _ rfl HAd.out HM.out ?_)
  intro w3 cur hg3 hs3 ht3 hc3
  have HG3 := Hd hg3
  have HT3 := Hd (show cur.toList.take ((l.length - 1) * 2) = (l.take k ++ l.drop (k + 1)).flatMap Cel.enc from by first | exact ht3 | (rw [List.flatMap_append]; exact ht3))
  have HS3 := Hd hs3
  have HC3 := Hd hc3
  have hlt3 := bx_lt hg3
  clear hg3 ht3 hs3 hc3
  obtain ⟨w4, cur', hrun, hg4, hs4, ht4, hc4⟩ := run_clear1 (P := Tryz.prog) (w := w3) 47 112 i0 (.agg #[.int .i64 0, .int .i64 0]) 2 Tryz.underlying47 hi hz0 (by decide +kernel) (by decide +kernel) g (l.length - 1) cur HG3.out (by rw [HS3.out]; omega)
  have HG4 := Hd hg4
  have HT4 := Hd (ht4.trans HT3.out)
  have HS4 := Hd (hs4.trans HS3.out)
  have HC4 := Hd ((chg_ext [g] HX.out).trans (HC3.out.trans hc4))
  have hcne : ¬ k + 1 = l.length - 1 := by omega
  have h1 : l.length - (l.length - 1) = 1 := by omega
  clear hg4 ht4 hs4 hc4
  go_wp2
  go_ret
  refine ⟨?_, ?_, HC4.out⟩
  ·rw [HL.out]; rfl
  ·refine ⟨?_, .inr ⟨g, _, cur', rfl, hbg, HG4.out, by rw [HL.out]; omega, by unfold maxLen; omega, HS4.out, ?_⟩⟩
   ·rw [flat_length Cel.enc_len]
   ·rw [HL.out]; exact HT4.out
 ·have HAd := Hd (show DelAt (some ⟨g, (k + 1) * 2, none⟩) (l.length - (k + 1)) g ((k + 1) * 2) from ⟨_, rfl, .inr rfl⟩)
  go_enter Tryz.func152, Tryz.ntmps152
  go_wp2
  (refine Rm.wp_region_mix' (R := relE w.heap.size) (fun _ _ _ => True) (fun _ _ _ _ _ hq => hq) 6 (by first | exact Nat.le_refl _ | omega | (simp; omega)) (by kernel_rfl) (by kernel_rfl) ?_; simp only [Tc, Tz, Dc, Dz])
  (iterate 6 (refine Rm.wpMix_plain rfl rfl ?_; go_big_quiet_step (fail); refine wpQuiet_nil ?_))
  refine Rm.wpMix_nil ?_
  rintro w2 hW
  have x : Ext w w2 := hW
  have HO2 := Hd (HO.out.kept x)
  have HX := Hd x
  clear x hW HO
  go_wp2_with (at_builtin; refine wl_appDel (enc := Cel.enc) rfl _ _ 47 112 i0 2 rfl Tryz.underlying47 hi hz1 (by decide) Cel.enc_len Cel.one B g _ l k hk HO2.out rfl _ _ _ rfl HAd.out rfl ?_)
  intro w3 cur hg3 hs3 ht3 hc3
  have HG3 := Hd hg3
  have HT3 := Hd (show cur.toList.take ((l.length - 1) * 2) = (l.take k ++ l.drop (k + 1)).flatMap Cel.enc from by first | exact ht3 | (rw [List.flatMap_append]; exact ht3))
  have HS3 := Hd hs3
  have HC3 := Hd hc3
  have hlt3 := bx_lt hg3
  clear hg3 ht3 hs3 hc3
  obtain ⟨w4, cur', hrun, hg4, hs4, ht4, hc4⟩ := run_clear1 (P := Tryz.prog) (w := w3) 47 112 i0 (.agg #[.int .i64 0, .int .i64 0]) 2 Tryz.underlying47 hi hz0 (by decide +kernel) (by decide +kernel) g (l.length - 1) cur HG3.out (by rw [HS3.out]; omega)
  have HG4 := Hd hg4
  have HT4 := Hd (ht4.trans HT3.out)
  have HS4 := Hd (hs4.trans HS3.out)
  have HC4 := Hd ((chg_ext [g] HX.out).trans (HC3.out.trans hc4))
  have hcne : ¬ c = l.length - 1 := by omega
  have h1 : l.length - (l.length - 1) = 1 := by omega
  clear hg4 ht4 hs4 hc4
  go_wp2
  go_ret
  refine ⟨?_, ?_, HC4.out⟩
  ·rw [HL.out]; rfl
  ·refine ⟨?_, .inr ⟨g, _, cur', rfl, hbg, HG4.out, by rw [HL.out]; omega, by unfold maxLen; omega, HS4.out, ?_⟩⟩
   ·rw [flat_length Cel.enc_len]
   ·rw [HL.out]; exact HT4.out
set_option maxRecDepth 100000 in
set_option maxHeartbeats 4000000 in
theorem c_insNilCel (x0 x1 : Int) (p B : Nat) (w : World) (hv : w.heap[p]? = some (.cells #[.int .i64 x0, .int .i64 x1] 112 (0, 0))) (hB : B ≤ w.heap.size) :
  Calls Tryz.prog 153 #[.slice none 0 0, .int .i64 0, .slice (some ⟨p, 0, none⟩) 1 1] w fun e w' => ∃ v', e = .returned v' ∧ Ow Cel.enc 112 2 w' B v' [⟨x0, x1⟩] ∧ Ext w w' := by
 obtain ⟨i0, hi, hz0, hz1, hz2⟩ := info_parts Tryz.infoCel
 have HV := Hd hv
 clear hv
 go_enter Tryz.func153, Tryz.ntmps153
 go_wp2_with (at_builtin; refine wl_app (enc := Cel.enc) rfl _ _ 47 rfl B 112 i0 (.agg #[.int .i64 0, .int .i64 0]) 2 16 Tryz.underlying47 hi hz0 hz1 hz2 rfl (by decide) Cel.enc_len Cel.one (.slice none 0 0) [] rfl (World.ownsRow_nil _ _ _ _) (some ⟨p, 0, none⟩) 1 [⟨x0, x1⟩] 1 rfl rfl (Rd.one HV.out rfl) ?c1 ?c2 ?c3 ?_)
 case c1 => unfold maxLen; simp
 case c2 => simp
 case c3 => exact hB
 intro v' w7 ho7 hg7
 have HO := Hd ho7
 have HX := Hd (show Ext w w7 from ext_chg (ext_refl w) (S := []) ⟨hg7.os, hg7.tape, hg7.output, hg7.size, fun k hk _ => hg7.block k hk (by simp [Value.ownBlock])⟩ (fun g hg => (List.not_mem_nil hg).elim))
 clear ho7 hg7
 go_wp2
 go_ret
 exact ⟨_, rfl, HO.out, HX.out⟩
theorem c_insAnyCel (A : Option Addr) (c : Nat) (l : List Cel) (i : Nat) (x0 x1 : Int) (p B : Nat) (w : World) (ho : Ow Cel.enc 112 2 w B (.slice A l.length c) l) (hv : w.heap[p]? = some (.cells #[.int .i64 x0, .int .i64 x1] 112 (0, 0))) (hp : p ∉ blk A) (hil : i ≤ l.length) (hn : l.length ≤ 1048576) (hB : B ≤ w.heap.size) :
  Calls Tryz.prog 153 #[.slice A l.length c, .int .i64 i, .slice (some ⟨p, 0, none⟩) 1 1] w fun e w' => ∃ A' c', e = .returned (.slice A' (l.take i ++ ([(⟨x0, x1⟩ : Cel)] ++ l.drop i)).length c') ∧ Ow Cel.enc 112 2 w' B (.slice A' (l.take i ++ ([(⟨x0, x1⟩ : Cel)] ++ l.drop i)).length c') (l.take i ++ ([(⟨x0, x1⟩ : Cel)] ++ l.drop i)) ∧ Chg w w' (blk A) := by
 rcases ho.2 with ⟨he, hl⟩ | ⟨g, cap, cur, he, hk⟩
 ·simp only [Value.slice.injEq] at he
  obtain ⟨rfl, _, rfl⟩ := he
  obtain rfl : l = [] := List.eq_nil_of_length_eq_zero hl
  obtain rfl : i = 0 := by simpa using hil
  refine (c_insNilCel x0 x1 p B w hv hB).mono fun e w' ⟨v', h1, h2, h3⟩ => ?_
  obtain ⟨A', c', rfl⟩ := h2.form
  exact ⟨A', c', h1, h2, chg_ext _ h3⟩
 ·simp only [Value.slice.injEq] at he
  obtain ⟨rfl, _, rfl⟩ := he
  refine (c_insCel g c l i x0 x1 p B w ho hv (fun e => hp (by simp [blk, e])) hil hn hB).mono fun e w' ⟨v', h1, h2, h3⟩ => ?_
  obtain ⟨A', c', rfl⟩ := h2.form
  exact ⟨A', c', h1, h2, chg_grown (A := some ⟨g, 0, none⟩) (n := l.length) (c := c) h3⟩
set_option maxRecDepth 100000 in
set_option maxHeartbeats 4000000 in
theorem c_insNilSea (x0 x1 x2 : Int) (p B : Nat) (w : World) (hv : w.heap[p]? = some (.cells #[.int .i64 x0, .int .i64 x1, .int .i64 x2] 113 (0, 0))) (hB : B ≤ w.heap.size) :
  Calls Tryz.prog 124 #[.slice none 0 0, .int .i64 0, .slice (some ⟨p, 0, none⟩) 1 1] w fun e w' => ∃ v', e = .returned v' ∧ Ow Sea.enc 113 3 w' B v' [⟨x0, x1, x2⟩] ∧ Ext w w' := by
 obtain ⟨i0, hi, hz0, hz1, hz2⟩ := info_parts Tryz.infoSea
 have HV := Hd hv
 clear hv
 go_enter Tryz.func124, Tryz.ntmps124
 go_wp2_with (at_builtin; refine wl_app (enc := Sea.enc) rfl _ _ 48 rfl B 113 i0 (.agg #[.int .i64 0, .int .i64 0, .int .i64 0]) 3 24 Tryz.underlying48 hi hz0 hz1 hz2 rfl (by decide) Sea.enc_len Sea.one (.slice none 0 0) [] rfl (World.ownsRow_nil _ _ _ _) (some ⟨p, 0, none⟩) 1 [⟨x0, x1, x2⟩] 1 rfl rfl (Rd.one HV.out rfl) ?c1 ?c2 ?c3 ?_)
 case c1 => unfold maxLen; simp
 case c2 => simp
 case c3 => exact hB
 intro v' w7 ho7 hg7
 have HO := Hd ho7
 have HX := Hd (show Ext w w7 from ext_chg (ext_refl w) (S := []) ⟨hg7.os, hg7.tape, hg7.output, hg7.size, fun k hk _ => hg7.block k hk (by simp [Value.ownBlock])⟩ (fun g hg => (List.not_mem_nil hg).elim))
 clear ho7 hg7
 go_wp2
 go_ret
 exact ⟨_, rfl, HO.out, HX.out⟩
theorem c_insAnySea (A : Option Addr) (c : Nat) (l : List Sea) (i : Nat) (x0 x1 x2 : Int) (p B : Nat) (w : World) (ho : Ow Sea.enc 113 3 w B (.slice A l.length c) l) (hv : w.heap[p]? = some (.cells #[.int .i64 x0, .int .i64 x1, .int .i64 x2] 113 (0, 0))) (hp : p ∉ blk A) (hil : i ≤ l.length) (hn : l.length ≤ 1048576) (hB : B ≤ w.heap.size) :
  Calls Tryz.prog 124 #[.slice A l.length c, .int .i64 i, .slice (some ⟨p, 0, none⟩) 1 1] w fun e w' => ∃ A' c', e = .returned (.slice A' (l.take i ++ ([(⟨x0, x1, x2⟩ : Sea)] ++ l.drop i)).length c') ∧ Ow Sea.enc 113 3 w' B (.slice A' (l.take i ++ ([(⟨x0, x1, x2⟩ : Sea)] ++ l.drop i)).length c') (l.take i ++ ([(⟨x0, x1, x2⟩ : Sea)] ++ l.drop i)) ∧ Chg w w' (blk A) := by
 rcases ho.2 with ⟨he, hl⟩ | ⟨g, cap, cur, he, hk⟩
 ·simp only [Value.slice.injEq] at he
  obtain ⟨rfl, _, rfl⟩ := he
  obtain rfl : l = [] := List.eq_nil_of_length_eq_zero hl
  obtain rfl : i = 0 := by simpa using hil
  refine (c_insNilSea x0 x1 x2 p B w hv hB).mono fun e w' ⟨v', h1, h2, h3⟩ => ?_
  obtain ⟨A', c', rfl⟩ := h2.form
  exact ⟨A', c', h1, h2, chg_ext _ h3⟩
 ·simp only [Value.slice.injEq] at he
  obtain ⟨rfl, _, rfl⟩ := he
  refine (c_insSea g c l i x0 x1 x2 p B w ho hv (fun e => hp (by simp [blk, e])) hil hn hB).mono fun e w' ⟨v', h1, h2, h3⟩ => ?_
  obtain ⟨A', c', rfl⟩ := h2.form
  exact ⟨A', c', h1, h2, chg_grown (A := some ⟨g, 0, none⟩) (n := l.length) (c := c) h3⟩
theorem put_set {l : List Cel} {t v : Int} (h : hasC l t = true) : ∃ h : lbC l t < l.length, l[lbC l t].key = t ∧ putC l t v = l.set (lbC l t) ⟨t, v⟩ := by
 have hl : lbC l t < l.length := by
  rcases Nat.lt_or_ge (lbC l t) l.length with h3 | h3
  ·exact h3
  ·unfold hasC at h; rw [List.getElem?_eq_none h3] at h; simp at h
 refine ⟨hl, ?_, ?_⟩
 ·unfold hasC at h
  rw [List.getElem?_eq_getElem hl] at h
  simp only [beq_iff_eq] at h
  omega
 ·unfold putC
  rw [if_pos h, List.set_eq_take_append_cons_drop, if_pos hl]
  rfl
theorem val_row (l : List Cel) (k : Nat) (hk : k < l.length) (t v : Int) (ht : l[k].key = t) : (l.flatMap Cel.enc).set (k * 2 + 1) (.int .i64 v) = (l.set k ⟨t, v⟩).flatMap Cel.enc := by
 have h := setAll_one Cel.enc_len l k hk ⟨t, v⟩
 rw [← h]
 have g0 := flat_get Cel.enc_len l k hk 0 (by omega)
 have e0 : (l.flatMap Cel.enc).set (k * 2) (.int .i64 t) = l.flatMap Cel.enc := list_set_self (by simpa [hk, Cel.enc, ht] using g0)
 simp only [Cel.enc, setAll]
 rw [e0]
set_option maxRecDepth 100000 in
set_option maxHeartbeats 4000000 in
theorem c_putDel (A : Option Addr) (c : Nat) (l : List Cel) (t : Int) (w : World) (ha : Rd Cel.enc 2 w A c l) (hok : CsOk l) (h2 : 0 ≤ t) (h3 : t ≤ 1000000000) :
  Calls Tryz.prog 142 #[.slice A l.length c, .int .i64 t, .int .i64 (-1)] w fun e w' => ∃ A' c', e = .returned (.slice A' (delC l t).length c') ∧ Ow Cel.enc 112 2 w' w.heap.size (.slice A' (delC l t).length c') (delC l t) ∧ Ext w w' := by
 have hl := hok.len
 have hcon := c_cellFor A c l t w ha hok h2 h3
 have hle := lbC_le l t
 obtain ⟨n, hn⟩ : ∃ n, lbC l t = n := ⟨_, rfl⟩
 obtain ⟨b, hb⟩ : ∃ b, hasC l t = b := ⟨_, rfl⟩
 have hin : b = true → n < l.length := fun h => by rw [← hn]; exact (put_set (v := 0) (hb.trans h)).1
 have HD := Hd (show delC l t = if b = true then l.take n ++ l.drop (n + 1) else l by unfold delC; rw [hb, hn])
 rw [hn, hb] at hcon
 rw [hn] at hle
 have HA := Hd ha
 have HC := Hd hcon
 clear ha hok hcon hn hb
 cases b
 ·have HD2 := Hd (HD.out.trans (if_neg (by simp)))
  clear hin
  go_enter Tryz.func142, Tryz.ntmps142
  go_wp2_with fail
  refine HC.out.mono ?_
  rintro e w1 ⟨rfl, x1⟩
  have HX := Hd x1
  clear x1
  go_wp2_with fail
  refine (c_cloneCellS A c l w1 (HA.out.keep HX.out) (by omega)).mono ?_
  rintro e w2 ⟨v, rfl, o2, x2⟩
  obtain ⟨A2, c2, rfl⟩ := o2.form
  have HO := Hd (o2.less HX.out.size)
  have HX2 := Hd (Ext.trans HX.out x2)
  clear o2 x2
  go_wp2
  go_ret
  rw [HD2.out]
  exact ⟨A2, c2, rfl, HO.out, HX2.out⟩
 ·have HD2 := Hd (HD.out.trans (if_pos rfl))
  have hnl := hin rfl
  clear hin
  go_enter Tryz.func142, Tryz.ntmps142
  go_wp2_with fail
  refine HC.out.mono ?_
  rintro e w1 ⟨rfl, x1⟩
  have HX := Hd x1
  clear x1
  go_wp2_with fail
  refine (c_cloneCellS A c l w1 (HA.out.keep HX.out) (by omega)).mono ?_
  rintro e w2 ⟨v, rfl, o2, x2⟩
  obtain ⟨g, c2, rfl, hgB, hgl⟩ := o2.base (by omega)
  have HO := Hd o2
  have HX2 := Hd (Ext.trans HX.out x2)
  have hsz := HX.out.size
  clear o2 x2
  go_wp2_with fail
  refine (c_delCell g c2 l n w1.heap.size w2 HO.out hnl (by omega)).mono ?_
  rintro e w3 ⟨rfl, o3, c3⟩
  have HO3 := Hd (o3.less hsz)
  have HX3 := Hd (ext_chg HX2.out c3 (fun k hk => by rw [Mi] at hk; omega))
  obtain ⟨L, hL⟩ : ∃ L, l.take n ++ l.drop (n + 1) = L := ⟨_, rfl⟩
  rw [hL] at HO3 HD2
  rw [hL]
  clear o3 c3 hL
  go_wp2
  go_ret
  rw [HD2.out]
  exact ⟨_, _, rfl, HO3.out, HX3.out⟩
set_option maxRecDepth 100000 in
set_option maxHeartbeats 4000000 in
theorem c_putSet (A : Option Addr) (c : Nat) (l : List Cel) (t v : Int) (w : World) (ha : Rd Cel.enc 2 w A c l) (hok : CsOk l) (h2 : 0 ≤ t) (h3 : t ≤ 1000000000) (hv : 0 ≤ v) :
  Calls Tryz.prog 142 #[.slice A l.length c, .int .i64 t, .int .i64 v] w fun e w' => ∃ A' c', e = .returned (.slice A' (putC l t v).length c') ∧ Ow Cel.enc 112 2 w' w.heap.size (.slice A' (putC l t v).length c') (putC l t v) ∧ Ext w w' := by
 have hl := hok.len
 have hcon := c_cellFor A c l t w ha hok h2 h3
 have hle := lbC_le l t
 have q1 : (v == (-1 : Int)) = false := by simp; omega
 obtain ⟨n, hn⟩ : ∃ n, lbC l t = n := ⟨_, rfl⟩
 cases hb : hasC l t
 ·have HD := Hd (show putC l t v = l.take n ++ ([⟨t, v⟩] ++ l.drop n) by unfold putC; rw [hb, hn]; rfl)
  rw [hn, hb] at hcon
  rw [hn] at hle
  have HA := Hd ha
  have HC := Hd hcon
  clear ha hok hcon hn hb
  go_enter Tryz.func142, Tryz.ntmps142
  go_wp2_with fail
  refine HC.out.mono ?_
  rintro e w1 ⟨rfl, x1⟩
  have HX := Hd x1
  clear x1
  go_wp2_with fail
  refine (c_cloneCellS A c l w1 (HA.out.keep HX.out) (by omega)).mono ?_
  rintro e w2 ⟨u, rfl, o2, x2⟩
  obtain ⟨A2, c2, rfl⟩ := o2.form
  have XA := ext_alloc w2 (.cells #[.int .i64 t, .int .i64 v] 112)
  have HP := Hd (hNew (w := w2) (o := .cells #[.int .i64 t, .int .i64 v] 112) rfl)
  have hnp : w2.heap.size ∉ blk A2 := fun hm => by have := (o2.inB _ hm).2; omega
  have HB := Hd (fun k (hk : k ∈ blk A2) => (o2.inB k hk).1)
  have HO := Hd (o2.kept XA)
  have HX2 := Hd (Ext.trans HX.out (Ext.trans x2 XA))
  have hsz := HX.out.size
  have hsz2 := x2.size
  have HIns := Hd (c_insAnyCel A2 c2 l n t v w2.heap.size w1.heap.size _ HO.out HP.out hnp hle (by omega) (by simp; omega))
  clear o2 x2 XA hnp HP
  go_wp2_with fail
  refine HIns.out.mono ?_
  rintro e w3 ⟨A3, c3, rfl, o3, k3⟩
  have HO3 := Hd (o3.less hsz)
  have HX3 := Hd (ext_chg HX2.out k3 (fun k hk => by have := HB.out k hk; omega))
  obtain ⟨L, hL⟩ : ∃ L, l.take n ++ ([(⟨t, v⟩ : Cel)] ++ l.drop n) = L := ⟨_, rfl⟩
  rw [hL] at HO3 HD
  rw [hL]
  clear o3 k3 hL HIns
  go_wp2
  go_ret
  rw [HD.out]
  exact ⟨_, _, rfl, HO3.out, HX3.out⟩
 ·obtain ⟨hin, hkey, hset⟩ := put_set (v := v) hb
  have HD := Hd (show putC l t v = l.set n ⟨t, v⟩ by rw [hset, hn])
  have hnl : n < l.length := by rw [← hn]; exact hin
  have HK := Hd (show l[n].key = t by simp only [hn] at hkey; exact hkey)
  rw [hn, hb] at hcon
  have HA := Hd ha
  have HC := Hd hcon
  clear ha hok hcon hb hin hkey hset
  clear hn
  go_enter Tryz.func142, Tryz.ntmps142
  go_wp2_with fail
  refine HC.out.mono ?_
  rintro e w1 ⟨rfl, x1⟩
  have HX := Hd x1
  clear x1
  go_wp2_with fail
  refine (c_cloneCellS A c l w1 (HA.out.keep HX.out) (by omega)).mono ?_
  rintro e w2 ⟨u, rfl, o2, x2⟩
  obtain ⟨g, c2, rfl, hgB, hgl⟩ := o2.base (by omega)
  obtain ⟨x, e2⟩ : ∃ x, w2.cell? ⟨g, n * 2 + 1, none⟩ = some x := ⟨_, (World.ownsRow.cellAt o2 (n * 2 + 1) (by omega)).trans (List.getElem?_eq_getElem (by rw [flat_length Cel.enc_len]; omega))⟩
  have hfz := World.ownsRow.frozenAt o2
  have HO := Hd o2
  have HX2 := Hd (Ext.trans HX.out x2)
  have hsz := HX.out.size
  clear o2 x2
  go_wp2
  have s2 := World.ownsRow.stored HO.out (n * 2 + 1) (.int .i64 v)
  go_ret
  rw [HD.out]
  refine ⟨some ⟨g, 0, none⟩, c2, by rw [List.length_set]; rfl, ?_, ext_set HX2.out (by show w.heap.size ≤ g; omega) _⟩
  refine Ow.less ?_ hsz
  have h5 := s2.1
  rw [val_row l n hnl t v HK.out] at h5
  unfold Ow
  rw [List.length_set]
  exact h5
end Go.Proofs.YtmphedkbdlckhaaGreat
