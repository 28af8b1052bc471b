/- LogPut of the reference and of the program. -/
import Derived.Test.YtkenlhdiehaemaaGreatPk46
namespace Go.Proofs.YtkenlhdiehaemaaGreat
open Go.ChangeShapes Go.WideShapes Go.ChangeAt Go.RowKit Go.Sort
set_option linter.unusedVariables false
set_option linter.unusedSimpArgs false
theorem wl_app0 {P : Program} {α : Type} {enc : α → List Value} {ops : Array Oper} {rest : List Oper} {o : Oper} {a : Act} {w : World} {Q : Exit → Act → World → Prop} (hgd : o.guard = none) (s x : Operand) (t : TypeId)
  (ho : o.op = .call { callee := .builtin .append, args := #[s, x], argTypes := #[t, t] })
  (e : TypeId) (i : TypeInfo) (z : Value) (size bytes : Nat) (ht : P.underlying t = some (.slice e)) (hi : P.info? e = some i) (hz : i.zero = some z)
  (hsize : i.size = size) (hby : i.bytes = bytes) (hzs : z.cells.size = size) (hsz : 0 < size) (hlen : ∀ x, (enc x).length = size) (p : Nat) (hs : a.eval s = .slice (some ⟨p, 0, none⟩) 0 0)
  (A : Option Addr) (c : Nat) (l : List α) (n : Nat) (hn : n = l.length) (hx : a.eval x = .slice A n c) (hr : Rd enc size w A c l) (hl : 0 < l.length)
  (h63 : l.length ≤ maxLen) (hbytes : l.length * bytes ≤ 140737488355328)
  (h : ∀ A' c' w', Ow enc e size w' w.heap.size (.slice A' l.length c') l → Ext w w' → wpList P ops Q rest (a.put o.dst (.slice A' l.length c')) w') : wpList P ops Q (o :: rest) a w := by
 subst hn
 refine wpList_plain hgd fun _ hK => ?_
 obtain ⟨v', w', hrun, ⟨A', c', rfl, _, hown⟩, hx'⟩ := run_app0 (P := P) (w := w) p t o.type e i z size bytes ht hi hz hsize hby hzs hsz hlen hr h63 hbytes w.heap.size (Nat.le_refl _)
 unfold Oper.wp execOp
 simp only [ho, resolve, invoke, builtin, Sem.run_bind, Sem.run_pure, Result.andThen_ok, List.map_toArray, List.map_cons, List.map_nil, hs, hx, hrun]
 exact hK _ _ (h A' c' w' (hown hl) hx')
def putOk (l : Lg) (e : Ent) : Bool := e.ok && (!((l.ents.length : Int) == 60) && !(l.fin == 1000000000))
def putL (l : Lg) (e : Ent) : Lg := if putOk l e = true then ⟨l.base, l.cells, l.seats, l.ents ++ [e]⟩ else l
theorem put_no {l : Lg} {e : Ent} (h : putOk l e = false) : putL l e = l := by unfold putL; rw [h]; rfl
theorem put_yes {l : Lg} {e : Ent} (h : putOk l e = true) : putL l e = ⟨l.base, l.cells, l.seats, l.ents ++ [e]⟩ := by unfold putL; rw [if_pos h]
set_option maxRecDepth 100000 in
set_option maxHeartbeats 8000000 in
theorem c_sLogPut (a : LAd) (l : Lg) (e : Ent) (w : World) (hr : LgR w a l) (hok : logOk l = true) :
  Calls Tryz.prog 163 #[Lg.val a l, e.val] w fun e9 w' => (∃ a', e9 = .returned (.tuple #[Lg.val a' (putL l e), .bool (putOk l e)]) ∧ LgF w' w.heap.size a' (putL l e)) ∧ Ext w w' := by
 obtain ⟨hb0, hb1, h60, hIm, hAll⟩ := log_b hok
 obtain ⟨i0, hi, hz0, hz1, hz2⟩ := info_parts Tryz.infoEnt
 have hsm := logOk_sm hok
 obtain ⟨w1, hw1⟩ : ∃ w1, (((w.alloc (Lg.obj a l)).alloc e.box).alloc Lg.zobj) = w1 := ⟨_, rfl⟩
 have X0 : Ext w w1 := by rw [← hw1]; exact ext_to (ext_to (ext_alloc _ _) _) _
 have E1 := Lib.hid (show w1.heap[w.heap.size]? = some (Lg.obj a l) by rw [← hw1]; exact hOld (o := Lg.zobj) (hOld (o := e.box) (hNew (w := w) (o := Lg.obj a l) rfl)))
 have E2 := Lib.hid (show w1.heap[w.heap.size + 1]? = some e.box by rw [← hw1]; exact hOld (o := Lg.zobj) (hNew (w := w.alloc (Lg.obj a l)) (o := e.box) (k := w.heap.size + 1) (by simp)))
 have E3 := Lib.hid (show w1.heap[w.heap.size + 1 + 1]? = some Lg.zobj by rw [← hw1]; exact hNew (w := (w.alloc (Lg.obj a l)).alloc e.box) (o := Lg.zobj) (k := w.heap.size + 1 + 1) (by simp))
 have HR := Lib.hid hr
 have X := Lib.hid X0
 have hz1_ := bx_lt E3.out
 have HW0 := Lib.hid hw1
 have HOk := Lib.hid hok
 have HSm := Lib.hid hsm
 have hcon := c_sLogOk a l hsm.1 hsm.2.1 hsm.2.2 w1 (hr.keep X0)
 rw [hok] at hcon
 have HCon := Lib.hid hcon
 clear hr hok hw1 X0 hIm hAll hcon hsm
 go_enter Tryz.func163, Tryz.ntmps163
 go_wp2_with (with_reducible refine wl_stop 7 ?_)
 refine stop_go (F := fun W => W = w1) HW0.out ?_
 intro W1 hW1
 subst hW1
 clear HW0
 (go_wp2_with (with_reducible refine wl_stop 7 ?_); refine stop_load (E1.out) rfl Tryz.underlying40 (by kernel_rfl) ?_; simp only [Act.put, List.setIfInBounds_toArray, List.set_cons_zero, List.set_cons_succ])
 go_wp2_with fail
 refine HCon.out.mono ?_
 rintro e9 w2 ⟨rfl, x⟩
 obtain ⟨E1, E2, E3, X⟩ : Hid _ ∧ Hid _ ∧ Hid _ ∧ Hid _ := ⟨Lib.hid (x.box E1.out), Lib.hid (x.box E2.out), Lib.hid (x.box E3.out), Lib.hid (Ext.trans X.out x)⟩
 have hz_w2 := x.size
 clear x
 clear HCon
 (go_wp2_with (with_reducible refine wl_stop 11 ?_); refine stop_load (E1.out) rfl Tryz.underlying40 (by kernel_rfl) ?_; simp only [Act.put, List.setIfInBounds_toArray, List.set_cons_zero, List.set_cons_succ])
 go_wp2_with fail
 refine (c_l3CopyZ a l HSm.out w2 (HR.out.keep X.out)).mono ?_
 rintro e9 w3 ⟨a4, rfl, f4, hze, x⟩
 obtain ⟨E1, E2, E3, X⟩ : Hid _ ∧ Hid _ ∧ Hid _ ∧ Hid _ := ⟨Lib.hid (x.box E1.out), Lib.hid (x.box E2.out), Lib.hid (x.box E3.out), Lib.hid (Ext.trans X.out x)⟩
 have hz_w3 := x.size
 obtain ⟨CF, SF, EF⟩ : Hid _ ∧ Hid _ ∧ Hid _ := ⟨Lib.hid (f4.c.less (B' := w.heap.size + 1 + 1 + 1) (by omega)), Lib.hid (f4.s.less (B' := w.heap.size + 1 + 1 + 1) (by omega)), Lib.hid (f4.e.less (B' := w.heap.size + 1 + 1 + 1) (by omega))⟩
 clear x f4
 have HZe := Lib.hid hze
 clear hze
 have EQ := Lib.hid (hNew (w := w3) (o := Lg.zobj) rfl)
 (go_wp2_with (with_reducible refine wl_stopS 40 ?_); refine stop_store (w3.heap.size) (#[.int .i64 l.base, .slice a4.cA l.cells.length a4.cc, .slice a4.sA l.seats.length a4.sc, .slice a4.eA l.ents.length a4.ec] : Array Value) rfl rfl (EQ.out) (by kernel_rfl) rfl (by simp [Value.oneCell']) ?_)
 intro w4 e4 k4
 have x4 := chg_new (ext_alloc w3 Lg.zobj) k4 (Nat.le_refl _)
 obtain ⟨E1, E2, E3, X⟩ : Hid _ ∧ Hid _ ∧ Hid _ ∧ Hid _ := ⟨Lib.hid (x4.box E1.out), Lib.hid (x4.box E2.out), Lib.hid (x4.box E3.out), Lib.hid (Ext.trans X.out x4)⟩
 obtain ⟨CF, SF, EF⟩ : Hid _ ∧ Hid _ ∧ Hid _ := ⟨Lib.hid (CF.out.keep x4), Lib.hid (SF.out.keep x4), Lib.hid (EF.out.keep x4)⟩
 have E6 := Lib.hid e4
 have hz_w4 := x4.size
 have hlt6 := bx_lt e4
 clear e4 k4 x4 EQ
 (go_wp2_with (with_reducible refine wl_stop 13 ?_); refine stop_load (E2.out) rfl Tryz.underlying119 (by kernel_rfl) ?_; simp only [Act.put, List.setIfInBounds_toArray, List.set_cons_zero, List.set_cons_succ])
 go_wp2_with fail
 refine (c_sEntryOk e w4).mono ?_
 rintro e9 w5 ⟨rfl, x⟩
 obtain ⟨E1, E2, E3, X, E6⟩ : Hid _ ∧ Hid _ ∧ Hid _ ∧ Hid _ ∧ Hid _ := ⟨Lib.hid (x.box E1.out), Lib.hid (x.box E2.out), Lib.hid (x.box E3.out), Lib.hid (Ext.trans X.out x), Lib.hid (x.box E6.out)⟩
 obtain ⟨CF, SF, EF⟩ : Hid _ ∧ Hid _ ∧ Hid _ := ⟨Lib.hid (CF.out.keep x), Lib.hid (SF.out.keep x), Lib.hid (EF.out.keep x)⟩
 have hz_w5 := x.size
 clear x
 cases g1 : e.ok
 ·have HP := Lib.hid (show putOk l e = false by unfold putOk; rw [g1]; rfl)
  (go_wp2_with (with_reducible refine wl_stop 27 ?_); refine stop_load (E6.out) rfl Tryz.underlying40 (by kernel_rfl) ?_; simp only [Act.put, List.setIfInBounds_toArray, List.set_cons_zero, List.set_cons_succ])
  (go_wp2_with (with_reducible refine wl_stopS 40 ?_); refine stop_store ((w.heap.size + 1 + 1)) (#[.int .i64 l.base, .slice a4.cA l.cells.length a4.cc, .slice a4.sA l.seats.length a4.sc, .slice a4.eA l.ents.length a4.ec] : Array Value) rfl rfl (E3.out) (by kernel_rfl) rfl (by simp [Value.oneCell']) ?_)
  intro W9 e8 k9
  have HE9 := Lib.hid e8
  have HX9 := Lib.hid (chg_new X.out k9 (by omega))
  have HC9 := Lib.hid (CF.out.boxed Cel.enc_len E3.out (by decide) k9)
  have HS9 := Lib.hid (SF.out.boxed Sea.enc_len E3.out (by decide) k9)
  have HT9 := Lib.hid (EF.out.boxed Ent.len E3.out (by decide) k9)
  clear e8 k9
  go_wp2
  exact bodyPost_ret (results_two Tryz.results163 rfl rfl Tryz.underlying40 (by kernel_rfl) HE9.out) rfl ⟨⟨a4, by rw [HP.out, put_no HP.out] <;> rfl, by rw [put_no HP.out]; exact ⟨HC9.out.less (by omega), HS9.out.less (by omega), HT9.out.less (by omega)⟩⟩, HX9.out⟩
 ·have d1 := bx_cell E1.out
  have z1 := bx_lt E1.out
  cases g2 : ((l.ents.length : Int) == 60)
  ·(go_wp2_with (with_reducible refine wl_stop 23 ?_); refine stop_loadG (E1.out) rfl rfl Tryz.underlying40 (by kernel_rfl) ?_; simp only [Act.put, List.setIfInBounds_toArray, List.set_cons_zero, List.set_cons_succ])
   go_wp2_with fail
   refine (c_sLogEnd a l HSm.out.1 HSm.out.2.1 HSm.out.2.2 w5 (HR.out.keep X.out) HOk.out).mono ?_
   rintro e9 w6 ⟨rfl, x⟩
   obtain ⟨E1, E2, E3, X, E6⟩ : Hid _ ∧ Hid _ ∧ Hid _ ∧ Hid _ ∧ Hid _ := ⟨Lib.hid (x.box E1.out), Lib.hid (x.box E2.out), Lib.hid (x.box E3.out), Lib.hid (Ext.trans X.out x), Lib.hid (x.box E6.out)⟩
   obtain ⟨CF, SF, EF⟩ : Hid _ ∧ Hid _ ∧ Hid _ := ⟨Lib.hid (CF.out.keep x), Lib.hid (SF.out.keep x), Lib.hid (EF.out.keep x)⟩
   have hz_w6 := x.size
   clear x
   clear d1 z1
   cases g3 : (l.fin == 1000000000)
   ·have HP := Lib.hid (show putOk l e = true by unfold putOk; rw [g1, g2, g3]; rfl)
    have hlen60 : l.ents.length ≤ 60 := h60
    by_cases hl0 : l.ents.length = 0
    ·obtain ⟨p, hA, hc⟩ := HZe.out hl0
     have E6 := Lib.hid (show w6.heap[w3.heap.size]? = some (.cells #[.int .i64 l.base, .slice a4.cA l.cells.length a4.cc, .slice a4.sA l.seats.length a4.sc, .slice (some ⟨p, 0, none⟩) 0 0] 40 (0, 0)) by have h := E6.out; rw [hA, hc, hl0] at h; exact h)
     have HL0 := Lib.hid (List.eq_nil_of_length_eq_zero hl0)
     clear hA hc hl0 hlen60
     have x3 := ext_alloc w6 (.cells #[.int .i64 e.client, .int .i64 e.req, .int .i64 e.kind, .int .i64 e.key, .int .i64 e.value] 119)
     have d6 := bx_cell E6.out
     have z6 := bx_lt E6.out
     (go_wp2_with (with_reducible refine wl_stop 30 ?_); refine stop_load (E2.out) rfl Tryz.underlying119 (by kernel_rfl) ?_; simp only [Act.put, List.setIfInBounds_toArray, List.set_cons_zero, List.set_cons_succ])
     go_wp2_with (at_builtin; refine wl_app0 (enc := Ent.enc) rfl _ _ 38 rfl 119 i0 (.agg #[.int .i64 0, .int .i64 0, .int .i64 0, .int .i64 0, .int .i64 0]) 5 40 Tryz.underlying38 hi hz0 hz1 hz2 rfl (by decide) Ent.len p rfl (some ⟨w6.heap.size, 0, none⟩) 1 [e] 1 rfl rfl (Rd.one (hNew rfl) rfl) ?c0 ?c1 ?c2 ?_)
     case c0 => simp
     case c1 => unfold maxLen; simp
     case c2 => simp
     intro A8 c8 w7 ho7 hx7
     have x := Ext.trans x3 hx7
     obtain ⟨L5, hL5⟩ : ∃ L, l.ents ++ [e] = L := ⟨_, rfl⟩
     have HPL := Lib.hid (show putL l e = ⟨l.base, l.cells, l.seats, L5⟩ by rw [← hL5]; exact put_yes HP.out)
     have hL6 : [e] = L5 := by rw [← hL5, HL0.out]; rfl
     have hL1 : L5.length = 1 := by rw [← hL6]; rfl
     rw [hL6] at ho7
     first | rw [hL6] | rw [show Value.slice A8 1 c8 = .slice A8 L5.length c8 by rw [hL1]] | rw [show Value.slice A8 (0 + 1) c8 = .slice A8 L5.length c8 by rw [hL1]]
     have O5 := Lib.hid (show Ow Ent.enc 119 5 w7 (w.heap.size + 1 + 1 + 1) (.slice A8 L5.length c8) L5 by rw [hL1]; exact ho7.less (by simp; omega))
     clear hL1
     obtain ⟨E3, E6, X⟩ : Hid _ ∧ Hid _ ∧ Hid _ := ⟨Lib.hid (x.box E3.out), Lib.hid (x.box E6.out), Lib.hid (Ext.trans X.out x)⟩
     obtain ⟨CF, SF⟩ : Hid _ ∧ Hid _ := ⟨Lib.hid (CF.out.keep x), Lib.hid (SF.out.keep x)⟩
     have hz_w7 := x.size
     clear ho7 hx7 x x3 hL5 hL6 d6 z6
     have b6 := bx_cell E6.out
     have g6 := bx_frozen E6.out
     have z6 := bx_lt E6.out
     have P6 := box_put E6.out 3 (.slice A8 L5.length c8)
     simp only [List.setIfInBounds_toArray, List.set_cons_zero, List.set_cons_succ] at P6
     have c6_ := chg_set (Chg.refl w7 [w3.heap.size]) (p := ⟨w3.heap.size, 3, none⟩) (by simp) (.slice A8 L5.length c8)
     have HP6 := Lib.hid P6
     have HE3 := Lib.hid (box_chg E3.out c6_ (by omega))
     have HX6 := Lib.hid (ext_chg X.out c6_ (fun k hk => by rw [List.mem_singleton] at hk; omega))
     have HC6 := Lib.hid (CF.out.boxed Cel.enc_len E6.out (by decide) c6_)
     have HS6 := Lib.hid (SF.out.boxed Sea.enc_len E6.out (by decide) c6_)
     have HT6 := Lib.hid (O5.out.boxed E6.out (by decide) c6_)
     clear P6 c6_ CF SF O5 E3 E6 X
     go_wp2_with (with_reducible refine wl_stop 34 ?_)
     refine stop_go (F := fun W => W.heap[w3.heap.size]? = some (.cells #[.int .i64 l.base, .slice a4.cA l.cells.length a4.cc, .slice a4.sA l.seats.length a4.sc, .slice A8 L5.length c8] 40 (0, 0)) ∧ W.heap[w.heap.size + 1 + 1]? = some Lg.zobj ∧ RdF Cel.enc 146 2 W (w.heap.size + 1 + 1 + 1) a4.cA a4.cc l.cells ∧ RdF Sea.enc 149 3 W (w.heap.size + 1 + 1 + 1) a4.sA a4.sc l.seats ∧ Ow Ent.enc 119 5 W (w.heap.size + 1 + 1 + 1) (.slice A8 L5.length c8) L5 ∧ Ext w W) ⟨HP6.out, HE3.out, HC6.out, HS6.out, HT6.out, HX6.out⟩ ?_
     intro W8 ⟨q1, q2, q3, q4, q5, q6⟩
     have E6 := Lib.hid q1
     have E3 := Lib.hid q2
     have CF := Lib.hid q3
     have SF := Lib.hid q4
     have O5 := Lib.hid q5
     have X := Lib.hid q6
     clear q1 q2 q3 q4 q5 q6 HP6 HE3 HX6 HC6 HS6 HT6 b6 g6 z6
     (go_wp2_with (with_reducible refine wl_stop 34 ?_); refine stop_load (E6.out) rfl Tryz.underlying40 (by kernel_rfl) ?_; simp only [Act.put, List.setIfInBounds_toArray, List.set_cons_zero, List.set_cons_succ])
     (go_wp2_with (with_reducible refine wl_stopS 40 ?_); refine stop_store ((w.heap.size + 1 + 1)) (#[.int .i64 l.base, .slice a4.cA l.cells.length a4.cc, .slice a4.sA l.seats.length a4.sc, .slice A8 L5.length c8] : Array Value) rfl rfl (E3.out) (by kernel_rfl) rfl (by simp [Value.oneCell']) ?_)
     intro W9 e8 k9
     have HE9 := Lib.hid e8
     have HX9 := Lib.hid (chg_new X.out k9 (by omega))
     have HC9 := Lib.hid (CF.out.boxed Cel.enc_len E3.out (by decide) k9)
     have HS9 := Lib.hid (SF.out.boxed Sea.enc_len E3.out (by decide) k9)
     have HT9 := Lib.hid (O5.out.boxed E3.out (by decide) k9)
     clear e8 k9
     go_wp2
     exact bodyPost_ret (results_two Tryz.results163 rfl rfl Tryz.underlying40 (by kernel_rfl) HE9.out) rfl ⟨⟨⟨a4.cA, a4.cc, a4.sA, a4.sc, A8, c8⟩, by rw [HP.out, HPL.out] <;> rfl, by rw [HPL.out]; exact ⟨HC9.out.less (by omega), HS9.out.less (by omega), (Ow.rdF Ent.len HT9.out).less (by omega)⟩⟩, HX9.out⟩
    ·have hpos : 0 < l.ents.length := by omega
     have x3 := ext_alloc w6 (.cells #[.int .i64 e.client, .int .i64 e.req, .int .i64 e.kind, .int .i64 e.key, .int .i64 e.value] 119)
     have d6 := bx_cell E6.out
     have z6 := bx_lt E6.out
     (go_wp2_with (with_reducible refine wl_stop 30 ?_); refine stop_load (E2.out) rfl Tryz.underlying119 (by kernel_rfl) ?_; simp only [Act.put, List.setIfInBounds_toArray, List.set_cons_zero, List.set_cons_succ])
     have hH3 := (EF.out.2 hpos).kept x3
     go_wp2_with (at_builtin; refine wl_app (enc := Ent.enc) rfl _ _ 38 rfl (w.heap.size + 1 + 1 + 1) 119 i0 (.agg #[.int .i64 0, .int .i64 0, .int .i64 0, .int .i64 0, .int .i64 0]) 5 40 Tryz.underlying38 hi hz0 hz1 hz2 rfl (by decide) Ent.len Ent.one' (.slice a4.eA l.ents.length a4.ec) l.ents rfl hH3 (some ⟨w6.heap.size, 0, none⟩) 1 [e] 1 rfl rfl (Rd.one (hNew rfl) rfl) ?c1 ?c2 ?c3 ?_)
     case c1 => unfold maxLen; simp; omega
     case c2 => simp; omega
     case c3 => simp; omega
     intro v' w7 ho7 hg7
     obtain ⟨A8, c8, rfl⟩ := ho7.form
     have hch := chg_grown hg7
     obtain ⟨L5, hL5⟩ : ∃ L, l.ents ++ [e] = L := ⟨_, rfl⟩
     have HPL := Lib.hid (show putL l e = ⟨l.base, l.cells, l.seats, L5⟩ by rw [← hL5]; exact put_yes HP.out)
     rw [hL5] at ho7
     rw [hL5]
     have O5 := Lib.hid ho7
     have HE3a := Lib.hid (box_stay (x3.box E3.out) hch (box_apart (x3.box E3.out) hH3 (by decide)))
     have HE6a := Lib.hid (box_stay (x3.box E6.out) hch (box_apart (x3.box E6.out) hH3 (by decide)))
     have HXa := Lib.hid (ext_chg (Ext.trans X.out x3) hch (fun g hg => by have := (hH3.inB g hg).1; omega))
     have HCa := Lib.hid ((CF.out.keep x3).chg Cel.enc_len hch (fun hl x hx => ((CF.out.keep x3).2 hl).apart hH3 (by decide) x hx))
     have HSa := Lib.hid ((SF.out.keep x3).chg Sea.enc_len hch (fun hl x hx => ((SF.out.keep x3).2 hl).apart hH3 (by decide) x hx))
     have hz_w7 := hch.size
     simp only [sz_alloc] at hz_w7
     obtain ⟨E3, E6, X, CF, SF⟩ : Hid _ ∧ Hid _ ∧ Hid _ ∧ Hid _ ∧ Hid _ := ⟨HE3a, HE6a, HXa, HCa, HSa⟩
     clear ho7 hg7 hch x3 hH3 hL5 HE3a HE6a HXa HCa HSa d6 z6
     have b6 := bx_cell E6.out
     have g6 := bx_frozen E6.out
     have z6 := bx_lt E6.out
     have P6 := box_put E6.out 3 (.slice A8 L5.length c8)
     simp only [List.setIfInBounds_toArray, List.set_cons_zero, List.set_cons_succ] at P6
     have c6_ := chg_set (Chg.refl w7 [w3.heap.size]) (p := ⟨w3.heap.size, 3, none⟩) (by simp) (.slice A8 L5.length c8)
     have HP6 := Lib.hid P6
     have HE3 := Lib.hid (box_chg E3.out c6_ (by omega))
     have HX6 := Lib.hid (ext_chg X.out c6_ (fun k hk => by rw [List.mem_singleton] at hk; omega))
     have HC6 := Lib.hid (CF.out.boxed Cel.enc_len E6.out (by decide) c6_)
     have HS6 := Lib.hid (SF.out.boxed Sea.enc_len E6.out (by decide) c6_)
     have HT6 := Lib.hid (O5.out.boxed E6.out (by decide) c6_)
     clear P6 c6_ CF SF O5 E3 E6 X
     go_wp2_with (with_reducible refine wl_stop 34 ?_)
     refine stop_go (F := fun W => W.heap[w3.heap.size]? = some (.cells #[.int .i64 l.base, .slice a4.cA l.cells.length a4.cc, .slice a4.sA l.seats.length a4.sc, .slice A8 L5.length c8] 40 (0, 0)) ∧ W.heap[w.heap.size + 1 + 1]? = some Lg.zobj ∧ RdF Cel.enc 146 2 W (w.heap.size + 1 + 1 + 1) a4.cA a4.cc l.cells ∧ RdF Sea.enc 149 3 W (w.heap.size + 1 + 1 + 1) a4.sA a4.sc l.seats ∧ Ow Ent.enc 119 5 W (w.heap.size + 1 + 1 + 1) (.slice A8 L5.length c8) L5 ∧ Ext w W) ⟨HP6.out, HE3.out, HC6.out, HS6.out, HT6.out, HX6.out⟩ ?_
     intro W8 ⟨q1, q2, q3, q4, q5, q6⟩
     have E6 := Lib.hid q1
     have E3 := Lib.hid q2
     have CF := Lib.hid q3
     have SF := Lib.hid q4
     have O5 := Lib.hid q5
     have X := Lib.hid q6
     clear q1 q2 q3 q4 q5 q6 HP6 HE3 HX6 HC6 HS6 HT6 b6 g6 z6
     (go_wp2_with (with_reducible refine wl_stop 34 ?_); refine stop_load (E6.out) rfl Tryz.underlying40 (by kernel_rfl) ?_; simp only [Act.put, List.setIfInBounds_toArray, List.set_cons_zero, List.set_cons_succ])
     (go_wp2_with (with_reducible refine wl_stopS 40 ?_); refine stop_store ((w.heap.size + 1 + 1)) (#[.int .i64 l.base, .slice a4.cA l.cells.length a4.cc, .slice a4.sA l.seats.length a4.sc, .slice A8 L5.length c8] : Array Value) rfl rfl (E3.out) (by kernel_rfl) rfl (by simp [Value.oneCell']) ?_)
     intro W9 e8 k9
     have HE9 := Lib.hid e8
     have HX9 := Lib.hid (chg_new X.out k9 (by omega))
     have HC9 := Lib.hid (CF.out.boxed Cel.enc_len E3.out (by decide) k9)
     have HS9 := Lib.hid (SF.out.boxed Sea.enc_len E3.out (by decide) k9)
     have HT9 := Lib.hid (O5.out.boxed E3.out (by decide) k9)
     clear e8 k9
     go_wp2
     exact bodyPost_ret (results_two Tryz.results163 rfl rfl Tryz.underlying40 (by kernel_rfl) HE9.out) rfl ⟨⟨⟨a4.cA, a4.cc, a4.sA, a4.sc, A8, c8⟩, by rw [HP.out, HPL.out] <;> rfl, by rw [HPL.out]; exact ⟨HC9.out.less (by omega), HS9.out.less (by omega), (Ow.rdF Ent.len HT9.out).less (by omega)⟩⟩, HX9.out⟩
   ·have HP := Lib.hid (show putOk l e = false by unfold putOk; rw [g1, g2, g3]; rfl)
    (go_wp2_with (with_reducible refine wl_stop 27 ?_); refine stop_load (E6.out) rfl Tryz.underlying40 (by kernel_rfl) ?_; simp only [Act.put, List.setIfInBounds_toArray, List.set_cons_zero, List.set_cons_succ])
    (go_wp2_with (with_reducible refine wl_stopS 40 ?_); refine stop_store ((w.heap.size + 1 + 1)) (#[.int .i64 l.base, .slice a4.cA l.cells.length a4.cc, .slice a4.sA l.seats.length a4.sc, .slice a4.eA l.ents.length a4.ec] : Array Value) rfl rfl (E3.out) (by kernel_rfl) rfl (by simp [Value.oneCell']) ?_)
    intro W9 e8 k9
    have HE9 := Lib.hid e8
    have HX9 := Lib.hid (chg_new X.out k9 (by omega))
    have HC9 := Lib.hid (CF.out.boxed Cel.enc_len E3.out (by decide) k9)
    have HS9 := Lib.hid (SF.out.boxed Sea.enc_len E3.out (by decide) k9)
    have HT9 := Lib.hid (EF.out.boxed Ent.len E3.out (by decide) k9)
    clear e8 k9
    go_wp2
    exact bodyPost_ret (results_two Tryz.results163 rfl rfl Tryz.underlying40 (by kernel_rfl) HE9.out) rfl ⟨⟨a4, by rw [HP.out, put_no HP.out] <;> rfl, by rw [put_no HP.out]; exact ⟨HC9.out.less (by omega), HS9.out.less (by omega), HT9.out.less (by omega)⟩⟩, HX9.out⟩
  ·have HP := Lib.hid (show putOk l e = false by unfold putOk; rw [g1, g2]; rfl)
   (go_wp2_with (with_reducible refine wl_stop 27 ?_); refine stop_load (E6.out) rfl Tryz.underlying40 (by kernel_rfl) ?_; simp only [Act.put, List.setIfInBounds_toArray, List.set_cons_zero, List.set_cons_succ])
   (go_wp2_with (with_reducible refine wl_stopS 40 ?_); refine stop_store ((w.heap.size + 1 + 1)) (#[.int .i64 l.base, .slice a4.cA l.cells.length a4.cc, .slice a4.sA l.seats.length a4.sc, .slice a4.eA l.ents.length a4.ec] : Array Value) rfl rfl (E3.out) (by kernel_rfl) rfl (by simp [Value.oneCell']) ?_)
   intro W9 e8 k9
   have HE9 := Lib.hid e8
   have HX9 := Lib.hid (chg_new X.out k9 (by omega))
   have HC9 := Lib.hid (CF.out.boxed Cel.enc_len E3.out (by decide) k9)
   have HS9 := Lib.hid (SF.out.boxed Sea.enc_len E3.out (by decide) k9)
   have HT9 := Lib.hid (EF.out.boxed Ent.len E3.out (by decide) k9)
   clear e8 k9
   go_wp2
   exact bodyPost_ret (results_two Tryz.results163 rfl rfl Tryz.underlying40 (by kernel_rfl) HE9.out) rfl ⟨⟨a4, by rw [HP.out, put_no HP.out] <;> rfl, by rw [put_no HP.out]; exact ⟨HC9.out.less (by omega), HS9.out.less (by omega), HT9.out.less (by omega)⟩⟩, HX9.out⟩
set_option maxRecDepth 100000 in
set_option maxHeartbeats 8000000 in
theorem c_iLogPut (a : LAd) (l : Lg) (e : Ent) (w : World) (hr : LgR w a l) (hok : logOk l = true) :
  Calls Tryz.prog 165 #[Lg.val a l, e.val] w fun e9 w' => (∃ a', e9 = .returned (.tuple #[Lg.val a' (putL l e), .bool (putOk l e)]) ∧ LgO w' w.heap.size w'.heap.size a' (putL l e)) ∧ Ext w w' := by
 obtain ⟨hb0, hb1, h60, hIm, hAll⟩ := log_b hok
 obtain ⟨i0, hi, hz0, hz1, hz2⟩ := info_parts Tryz.infoEnt
 have hsm := logOk_sm hok
 obtain ⟨w1, hw1⟩ : ∃ w1, (((w.alloc (Lg.obj a l)).alloc e.box).alloc Lg.zobj) = w1 := ⟨_, rfl⟩
 have X0 : Ext w w1 := by rw [← hw1]; exact ext_to (ext_to (ext_alloc _ _) _) _
 have E1 := Lib.hid (show w1.heap[w.heap.size]? = some (Lg.obj a l) by rw [← hw1]; exact hOld (o := Lg.zobj) (hOld (o := e.box) (hNew (w := w) (o := Lg.obj a l) rfl)))
 have E2 := Lib.hid (show w1.heap[w.heap.size + 1]? = some e.box by rw [← hw1]; exact hOld (o := Lg.zobj) (hNew (w := w.alloc (Lg.obj a l)) (o := e.box) (k := w.heap.size + 1) (by simp)))
 have E3 := Lib.hid (show w1.heap[w.heap.size + 1 + 1]? = some Lg.zobj by rw [← hw1]; exact hNew (w := (w.alloc (Lg.obj a l)).alloc e.box) (o := Lg.zobj) (k := w.heap.size + 1 + 1) (by simp))
 have HR := Lib.hid hr
 have X := Lib.hid X0
 have hz1_ := bx_lt E3.out
 have HW0 := Lib.hid hw1
 have HOk := Lib.hid hok
 have HSm := Lib.hid hsm
 have hcon := c_iLogOk a l hsm.1 hsm.2.1 hsm.2.2 w1 (hr.keep X0)
 rw [hok] at hcon
 have HCon := Lib.hid hcon
 clear hr hok hw1 X0 hIm hAll hcon hsm
 go_enter Tryz.func165, Tryz.ntmps165
 go_wp2_with (with_reducible refine wl_stop 7 ?_)
 refine stop_go (F := fun W => W = w1) HW0.out ?_
 intro W1 hW1
 subst hW1
 clear HW0
 (go_wp2_with (with_reducible refine wl_stop 7 ?_); refine stop_load (E1.out) rfl Tryz.underlying40 (by kernel_rfl) ?_; simp only [Act.put, List.setIfInBounds_toArray, List.set_cons_zero, List.set_cons_succ])
 go_wp2_with fail
 refine HCon.out.mono ?_
 rintro e9 w2 ⟨rfl, x⟩
 obtain ⟨E1, E2, E3, X⟩ : Hid _ ∧ Hid _ ∧ Hid _ ∧ Hid _ := ⟨Lib.hid (x.box E1.out), Lib.hid (x.box E2.out), Lib.hid (x.box E3.out), Lib.hid (Ext.trans X.out x)⟩
 have hz_w2 := x.size
 clear x
 clear HCon
 (go_wp2_with (with_reducible refine wl_stop 11 ?_); refine stop_load (E1.out) rfl Tryz.underlying40 (by kernel_rfl) ?_; simp only [Act.put, List.setIfInBounds_toArray, List.set_cons_zero, List.set_cons_succ])
 go_wp2_with fail
 refine (c_copyLog a l HSm.out w2 (HR.out.keep X.out)).mono ?_
 rintro e9 w3 ⟨a4, rfl, f4, x⟩
 obtain ⟨E1, E2, E3, X⟩ : Hid _ ∧ Hid _ ∧ Hid _ ∧ Hid _ := ⟨Lib.hid (x.box E1.out), Lib.hid (x.box E2.out), Lib.hid (x.box E3.out), Lib.hid (Ext.trans X.out x)⟩
 have hz_w3 := x.size
 obtain ⟨CF, SF, EF⟩ : Hid _ ∧ Hid _ ∧ Hid _ := ⟨Lib.hid (f4.c.less (B' := w.heap.size + 1 + 1 + 1) (by omega)), Lib.hid (f4.s.less (B' := w.heap.size + 1 + 1 + 1) (by omega)), Lib.hid (f4.e.less (B' := w.heap.size + 1 + 1 + 1) (by omega))⟩
 clear x f4
 have EQ := Lib.hid (hNew (w := w3) (o := Lg.zobj) rfl)
 (go_wp2_with (with_reducible refine wl_stopS 40 ?_); refine stop_store (w3.heap.size) (#[.int .i64 l.base, .slice a4.cA l.cells.length a4.cc, .slice a4.sA l.seats.length a4.sc, .slice a4.eA l.ents.length a4.ec] : Array Value) rfl rfl (EQ.out) (by kernel_rfl) rfl (by simp [Value.oneCell']) ?_)
 intro w4 e4 k4
 have x4 := chg_new (ext_alloc w3 Lg.zobj) k4 (Nat.le_refl _)
 obtain ⟨E1, E2, E3, X⟩ : Hid _ ∧ Hid _ ∧ Hid _ ∧ Hid _ := ⟨Lib.hid (x4.box E1.out), Lib.hid (x4.box E2.out), Lib.hid (x4.box E3.out), Lib.hid (Ext.trans X.out x4)⟩
 obtain ⟨CF, SF, EF⟩ : Hid _ ∧ Hid _ ∧ Hid _ := ⟨Lib.hid (CF.out.kept x4), Lib.hid (SF.out.kept x4), Lib.hid (EF.out.kept x4)⟩
 have E6 := Lib.hid e4
 have hz_w4 := x4.size
 have hlt6 := bx_lt e4
 clear e4 k4 x4 EQ
 (go_wp2_with (with_reducible refine wl_stop 13 ?_); refine stop_load (E2.out) rfl Tryz.underlying119 (by kernel_rfl) ?_; simp only [Act.put, List.setIfInBounds_toArray, List.set_cons_zero, List.set_cons_succ])
 go_wp2_with fail
 refine (c_iEntryOk e w4).mono ?_
 rintro e9 w5 ⟨rfl, x⟩
 obtain ⟨E1, E2, E3, X, E6⟩ : Hid _ ∧ Hid _ ∧ Hid _ ∧ Hid _ ∧ Hid _ := ⟨Lib.hid (x.box E1.out), Lib.hid (x.box E2.out), Lib.hid (x.box E3.out), Lib.hid (Ext.trans X.out x), Lib.hid (x.box E6.out)⟩
 obtain ⟨CF, SF, EF⟩ : Hid _ ∧ Hid _ ∧ Hid _ := ⟨Lib.hid (CF.out.kept x), Lib.hid (SF.out.kept x), Lib.hid (EF.out.kept x)⟩
 have hz_w5 := x.size
 clear x
 cases g1 : e.ok
 ·have HP := Lib.hid (show putOk l e = false by unfold putOk; rw [g1]; rfl)
  (go_wp2_with (with_reducible refine wl_stop 27 ?_); refine stop_load (E6.out) rfl Tryz.underlying40 (by kernel_rfl) ?_; simp only [Act.put, List.setIfInBounds_toArray, List.set_cons_zero, List.set_cons_succ])
  (go_wp2_with (with_reducible refine wl_stopS 40 ?_); refine stop_store ((w.heap.size + 1 + 1)) (#[.int .i64 l.base, .slice a4.cA l.cells.length a4.cc, .slice a4.sA l.seats.length a4.sc, .slice a4.eA l.ents.length a4.ec] : Array Value) rfl rfl (E3.out) (by kernel_rfl) rfl (by simp [Value.oneCell']) ?_)
  intro W9 e8 k9
  have HE9 := Lib.hid e8
  have HX9 := Lib.hid (chg_new X.out k9 (by omega))
  have HC9 := Lib.hid (CF.out.boxed E3.out (by decide) k9)
  have HS9 := Lib.hid (SF.out.boxed E3.out (by decide) k9)
  have HT9 := Lib.hid (EF.out.boxed E3.out (by decide) k9)
  clear e8 k9
  go_wp2
  exact bodyPost_ret (results_two Tryz.results165 rfl rfl Tryz.underlying40 (by kernel_rfl) HE9.out) rfl ⟨⟨a4, by rw [HP.out, put_no HP.out] <;> rfl, by rw [put_no HP.out]; exact (lgO_of HC9.out HS9.out HT9.out).wide (by omega) (Nat.le_refl _)⟩, HX9.out⟩
 ·have d1 := bx_cell E1.out
  have z1 := bx_lt E1.out
  cases g2 : ((l.ents.length : Int) == 60)
  ·(go_wp2_with (with_reducible refine wl_stop 23 ?_); refine stop_loadG (E1.out) rfl rfl Tryz.underlying40 (by kernel_rfl) ?_; simp only [Act.put, List.setIfInBounds_toArray, List.set_cons_zero, List.set_cons_succ])
   go_wp2_with fail
   refine (c_end a l w5 (by omega) (by omega) HSm.out.2.2).mono ?_
   rintro e9 w6 ⟨rfl, x⟩
   obtain ⟨E1, E2, E3, X, E6⟩ : Hid _ ∧ Hid _ ∧ Hid _ ∧ Hid _ ∧ Hid _ := ⟨Lib.hid (x.box E1.out), Lib.hid (x.box E2.out), Lib.hid (x.box E3.out), Lib.hid (Ext.trans X.out x), Lib.hid (x.box E6.out)⟩
   obtain ⟨CF, SF, EF⟩ : Hid _ ∧ Hid _ ∧ Hid _ := ⟨Lib.hid (CF.out.kept x), Lib.hid (SF.out.kept x), Lib.hid (EF.out.kept x)⟩
   have hz_w6 := x.size
   clear x
   clear d1 z1
   cases g3 : (l.fin == 1000000000)
   ·have HP := Lib.hid (show putOk l e = true by unfold putOk; rw [g1, g2, g3]; rfl)
    have hlen60 : l.ents.length ≤ 60 := h60
    have x3 := ext_alloc w6 (.cells #[.int .i64 e.client, .int .i64 e.req, .int .i64 e.kind, .int .i64 e.key, .int .i64 e.value] 119)
    have d6 := bx_cell E6.out
    have z6 := bx_lt E6.out
    (go_wp2_with (with_reducible refine wl_stop 30 ?_); refine stop_load (E2.out) rfl Tryz.underlying119 (by kernel_rfl) ?_; simp only [Act.put, List.setIfInBounds_toArray, List.set_cons_zero, List.set_cons_succ])
    have hH3 := EF.out.kept x3
    go_wp2_with (at_builtin; refine wl_app (enc := Ent.enc) rfl _ _ 38 rfl (w.heap.size + 1 + 1 + 1) 119 i0 (.agg #[.int .i64 0, .int .i64 0, .int .i64 0, .int .i64 0, .int .i64 0]) 5 40 Tryz.underlying38 hi hz0 hz1 hz2 rfl (by decide) Ent.len Ent.one' (.slice a4.eA l.ents.length a4.ec) l.ents rfl hH3 (some ⟨w6.heap.size, 0, none⟩) 1 [e] 1 rfl rfl (Rd.one (hNew rfl) rfl) ?c1 ?c2 ?c3 ?_)
    case c1 => unfold maxLen; simp; omega
    case c2 => simp; omega
    case c3 => simp; omega
    intro v' w7 ho7 hg7
    obtain ⟨A8, c8, rfl⟩ := ho7.form
    have hch := chg_grown hg7
    obtain ⟨L5, hL5⟩ : ∃ L, l.ents ++ [e] = L := ⟨_, rfl⟩
    have HPL := Lib.hid (show putL l e = ⟨l.base, l.cells, l.seats, L5⟩ by rw [← hL5]; exact put_yes HP.out)
    rw [hL5] at ho7
    rw [hL5]
    have O5 := Lib.hid ho7
    have HE3a := Lib.hid (box_stay (x3.box E3.out) hch (box_apart (x3.box E3.out) hH3 (by decide)))
    have HE6a := Lib.hid (box_stay (x3.box E6.out) hch (box_apart (x3.box E6.out) hH3 (by decide)))
    have HXa := Lib.hid (ext_chg (Ext.trans X.out x3) hch (fun g hg => by have := (hH3.inB g hg).1; omega))
    have HCa := Lib.hid ((CF.out.kept x3).chg hch (fun x hx => (CF.out.kept x3).apart hH3 (by decide) x hx))
    have HSa := Lib.hid ((SF.out.kept x3).chg hch (fun x hx => (SF.out.kept x3).apart hH3 (by decide) x hx))
    have hz_w7 := hch.size
    simp only [sz_alloc] at hz_w7
    obtain ⟨E3, E6, X, CF, SF⟩ : Hid _ ∧ Hid _ ∧ Hid _ ∧ Hid _ ∧ Hid _ := ⟨HE3a, HE6a, HXa, HCa, HSa⟩
    clear ho7 hg7 hch x3 hH3 hL5 HE3a HE6a HXa HCa HSa d6 z6
    have b6 := bx_cell E6.out
    have g6 := bx_frozen E6.out
    have z6 := bx_lt E6.out
    have P6 := box_put E6.out 3 (.slice A8 L5.length c8)
    simp only [List.setIfInBounds_toArray, List.set_cons_zero, List.set_cons_succ] at P6
    have c6_ := chg_set (Chg.refl w7 [w3.heap.size]) (p := ⟨w3.heap.size, 3, none⟩) (by simp) (.slice A8 L5.length c8)
    have HP6 := Lib.hid P6
    have HE3 := Lib.hid (box_chg E3.out c6_ (by omega))
    have HX6 := Lib.hid (ext_chg X.out c6_ (fun k hk => by rw [List.mem_singleton] at hk; omega))
    have HC6 := Lib.hid (CF.out.boxed E6.out (by decide) c6_)
    have HS6 := Lib.hid (SF.out.boxed E6.out (by decide) c6_)
    have HT6 := Lib.hid (O5.out.boxed E6.out (by decide) c6_)
    clear P6 c6_ CF SF O5 E3 E6 X
    go_wp2_with (with_reducible refine wl_stop 34 ?_)
    refine stop_go (F := fun W => W.heap[w3.heap.size]? = some (.cells #[.int .i64 l.base, .slice a4.cA l.cells.length a4.cc, .slice a4.sA l.seats.length a4.sc, .slice A8 L5.length c8] 40 (0, 0)) ∧ W.heap[w.heap.size + 1 + 1]? = some Lg.zobj ∧ Ow Cel.enc 146 2 W (w.heap.size + 1 + 1 + 1) (.slice a4.cA l.cells.length a4.cc) l.cells ∧ Ow Sea.enc 149 3 W (w.heap.size + 1 + 1 + 1) (.slice a4.sA l.seats.length a4.sc) l.seats ∧ Ow Ent.enc 119 5 W (w.heap.size + 1 + 1 + 1) (.slice A8 L5.length c8) L5 ∧ Ext w W) ⟨HP6.out, HE3.out, HC6.out, HS6.out, HT6.out, HX6.out⟩ ?_
    intro W8 ⟨q1, q2, q3, q4, q5, q6⟩
    have E6 := Lib.hid q1
    have E3 := Lib.hid q2
    have CF := Lib.hid q3
    have SF := Lib.hid q4
    have O5 := Lib.hid q5
    have X := Lib.hid q6
    clear q1 q2 q3 q4 q5 q6 HP6 HE3 HX6 HC6 HS6 HT6 b6 g6 z6
    (go_wp2_with (with_reducible refine wl_stop 34 ?_); refine stop_load (E6.out) rfl Tryz.underlying40 (by kernel_rfl) ?_; simp only [Act.put, List.setIfInBounds_toArray, List.set_cons_zero, List.set_cons_succ])
    (go_wp2_with (with_reducible refine wl_stopS 40 ?_); refine stop_store ((w.heap.size + 1 + 1)) (#[.int .i64 l.base, .slice a4.cA l.cells.length a4.cc, .slice a4.sA l.seats.length a4.sc, .slice A8 L5.length c8] : Array Value) rfl rfl (E3.out) (by kernel_rfl) rfl (by simp [Value.oneCell']) ?_)
    intro W9 e8 k9
    have HE9 := Lib.hid e8
    have HX9 := Lib.hid (chg_new X.out k9 (by omega))
    have HC9 := Lib.hid (CF.out.boxed E3.out (by decide) k9)
    have HS9 := Lib.hid (SF.out.boxed E3.out (by decide) k9)
    have HT9 := Lib.hid (O5.out.boxed E3.out (by decide) k9)
    clear e8 k9
    go_wp2
    exact bodyPost_ret (results_two Tryz.results165 rfl rfl Tryz.underlying40 (by kernel_rfl) HE9.out) rfl ⟨⟨⟨a4.cA, a4.cc, a4.sA, a4.sc, A8, c8⟩, by rw [HP.out, HPL.out] <;> rfl, by rw [HPL.out]; exact (lgO_of (l := ⟨l.base, l.cells, l.seats, L5⟩) HC9.out HS9.out HT9.out).wide (by omega) (Nat.le_refl _)⟩, HX9.out⟩
   ·have HP := Lib.hid (show putOk l e = false by unfold putOk; rw [g1, g2, g3]; rfl)
    (go_wp2_with (with_reducible refine wl_stop 27 ?_); refine stop_load (E6.out) rfl Tryz.underlying40 (by kernel_rfl) ?_; simp only [Act.put, List.setIfInBounds_toArray, List.set_cons_zero, List.set_cons_succ])
    (go_wp2_with (with_reducible refine wl_stopS 40 ?_); refine stop_store ((w.heap.size + 1 + 1)) (#[.int .i64 l.base, .slice a4.cA l.cells.length a4.cc, .slice a4.sA l.seats.length a4.sc, .slice a4.eA l.ents.length a4.ec] : Array Value) rfl rfl (E3.out) (by kernel_rfl) rfl (by simp [Value.oneCell']) ?_)
    intro W9 e8 k9
    have HE9 := Lib.hid e8
    have HX9 := Lib.hid (chg_new X.out k9 (by omega))
    have HC9 := Lib.hid (CF.out.boxed E3.out (by decide) k9)
    have HS9 := Lib.hid (SF.out.boxed E3.out (by decide) k9)
    have HT9 := Lib.hid (EF.out.boxed E3.out (by decide) k9)
    clear e8 k9
    go_wp2
    exact bodyPost_ret (results_two Tryz.results165 rfl rfl Tryz.underlying40 (by kernel_rfl) HE9.out) rfl ⟨⟨a4, by rw [HP.out, put_no HP.out] <;> rfl, by rw [put_no HP.out]; exact (lgO_of HC9.out HS9.out HT9.out).wide (by omega) (Nat.le_refl _)⟩, HX9.out⟩
  ·have HP := Lib.hid (show putOk l e = false by unfold putOk; rw [g1, g2]; rfl)
   (go_wp2_with (with_reducible refine wl_stop 27 ?_); refine stop_load (E6.out) rfl Tryz.underlying40 (by kernel_rfl) ?_; simp only [Act.put, List.setIfInBounds_toArray, List.set_cons_zero, List.set_cons_succ])
   (go_wp2_with (with_reducible refine wl_stopS 40 ?_); refine stop_store ((w.heap.size + 1 + 1)) (#[.int .i64 l.base, .slice a4.cA l.cells.length a4.cc, .slice a4.sA l.seats.length a4.sc, .slice a4.eA l.ents.length a4.ec] : Array Value) rfl rfl (E3.out) (by kernel_rfl) rfl (by simp [Value.oneCell']) ?_)
   intro W9 e8 k9
   have HE9 := Lib.hid e8
   have HX9 := Lib.hid (chg_new X.out k9 (by omega))
   have HC9 := Lib.hid (CF.out.boxed E3.out (by decide) k9)
   have HS9 := Lib.hid (SF.out.boxed E3.out (by decide) k9)
   have HT9 := Lib.hid (EF.out.boxed E3.out (by decide) k9)
   clear e8 k9
   go_wp2
   exact bodyPost_ret (results_two Tryz.results165 rfl rfl Tryz.underlying40 (by kernel_rfl) HE9.out) rfl ⟨⟨a4, by rw [HP.out, put_no HP.out] <;> rfl, by rw [put_no HP.out]; exact (lgO_of HC9.out HS9.out HT9.out).wide (by omega) (Nat.le_refl _)⟩, HX9.out⟩
end Go.Proofs.YtkenlhdiehaemaaGreat
