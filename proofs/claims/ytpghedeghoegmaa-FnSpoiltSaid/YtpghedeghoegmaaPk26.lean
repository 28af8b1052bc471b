/- Logs as bytes: PackLog of the reference and of the program, of a right log. -/
import Derived.Test.YtpghedeghoegmaaPk24
import Derived.Test.YtpghedeghoegmaaPk4
import Derived.Test.YtpghedeghoegmaaPk8
import Derived.Test.YtpghedeghoegmaaPk3
import Derived.Test.YtpghedeghoegmaaPk25
namespace Go.Proofs.Ytpghedeghoegmaa
open Go.ChangeShapes Go.WideShapes Go.ChangeAt Go.RowKit Go.Sort
set_option linter.unusedVariables false
set_option linter.unusedSimpArgs false
theorem ow_box {α : Type} {enc : α → List Value} {sz : Nat} {w : World} {p B : Nat} {cs : Array Value} {e : TypeId} {l : List α} (h : w.heap[p]? = some (.cells cs e (0, 0))) (hB : B ≤ p) (hlen : ∀ x, (enc x).length = sz) (hc : cs.toList = l.flatMap enc) (hm : l.length ≤ maxLen) : Ow enc e sz w B (.slice (some ⟨p, 0, none⟩) l.length l.length) l := by
 have hf := flat_length hlen l
 have hs : cs.size = l.length * sz := by rw [← Array.length_toList, hc, hf]
 exact ⟨hf, .inr ⟨p, l.length, cs, rfl, hB, h, Nat.le_refl _, hm, hs, by rw [List.take_of_length_le (by rw [Array.length_toList, hs]; exact Nat.le_refl _), hc]⟩⟩
theorem rd_boxZ {w : World} {p : Nat} {cs : Array Value} {e : TypeId} {l : List Int} (h : w.heap[p]? = some (.cells cs e (0, 0))) (hc : cs.toList = l.flatMap zEnc) (hm : l.length ≤ maxLen) : Rd zEnc 1 w (some ⟨p, 0, none⟩) l.length l := ((ow_box h (Nat.zero_le _) zEnc_len hc hm).rd zEnc_len).2
theorem celN_next {l : List Cel} {k : Nat} (hk : k < l.length) : celN (l.take (k + 1)) = celN (l.take k) ++ [l[k].key, l[k].value] := by
 unfold celN
 rw [List.take_succ_eq_append_getElem hk, List.flatMap_append, List.flatMap_cons, List.flatMap_nil, List.append_nil]
theorem seaN_next {l : List Sea} {k : Nat} (hk : k < l.length) : seaN (l.take (k + 1)) = seaN (l.take k) ++ [l[k].client, l[k].req, l[k].answer + 1] := by
 unfold seaN
 rw [List.take_succ_eq_append_getElem hk, List.flatMap_append, List.flatMap_cons, List.flatMap_nil, List.append_nil]
theorem entN_next {l : List Ent} {k : Nat} (hk : k < l.length) : entN (l.take (k + 1)) = entN (l.take k) ++ [l[k].client, l[k].req, l[k].kind, l[k].key, l[k].value] := by
 unfold entN
 rw [List.take_succ_eq_append_getElem hk, List.flatMap_append, List.flatMap_cons, List.flatMap_nil, List.append_nil]
theorem celN_le (l : List Cel) (k : Nat) : (celN (l.take k)).length ≤ l.length * 2 := by rw [celN_len, List.length_take]; omega
theorem seaN_le (l : List Sea) (k : Nat) : (seaN (l.take k)).length ≤ l.length * 3 := by rw [seaN_len, List.length_take]; omega
theorem entN_le (l : List Ent) (k : Nat) : (entN (l.take k)).length ≤ l.length * 5 := by rw [entN_len, List.length_take]; omega
theorem log_lens {l : Lg} (h : logOk l = true) : l.cells.length ≤ 40 ∧ l.seats.length ≤ 10 ∧ l.ents.length ≤ 60 := by
 have h1 := of_decide_eq_true h
 have h2 := imgP_of h1.2.1
 exact ⟨h2.c.len, h2.s.len, h1.2.2.1⟩
theorem log_ans {l : Lg} (h : logOk l = true) : ∀ s ∈ l.seats, -1 ≤ s.answer ∧ s.answer ≤ 1000000000 := fun s hs => by
 have hm : s.answer + 1 ∈ seaN l.seats := List.mem_flatMap.2 ⟨s, hs, by simp⟩
 have := logNums_b h (s.answer + 1) (List.mem_cons_of_mem _ (List.mem_append.2 (.inr (List.mem_append.2 (.inl (List.mem_cons_of_mem _ hm))))))
 omega
theorem ext_app3 {w w' w0 : World} {B : Nat} {α : Type} {enc : α → List Value} {e : TypeId} {sz : Nat} {v : Value} {l : List α} (hx : Ext w0 w) (hg : w.grownBy w' v.ownBlock) (ho : Ow enc e sz w B v l) (hB : w0.heap.size ≤ B) : Ext w0 w' := ext_grown hx hg (fun g he => by have := ho.lt g he; omega)
theorem box_own {w w' : World} {B p : Nat} {α : Type} {enc : α → List Value} {e T : TypeId} {sz : Nat} {A : Option Addr} {n c : Nat} {l : List α} {cs : Array Value} (h : w.heap[p]? = some (.cells cs T (0, 0))) (ho : Ow enc e sz w B (.slice A n c) l) (hg : w.grownBy w' (Value.slice A n c).ownBlock) (hne : T ≠ e) : w'.heap[p]? = some (.cells cs T (0, 0)) :=
 box_beside h hg (fun he => box_apart h ho hne ((ownBlock_blk _ _ _ _).1 he))
set_option maxRecDepth 100000 in
set_option maxHeartbeats 8000000 in
theorem c_sPackLog (a : LAd) (l : Lg) (w : World) (hr : LgR w a l) (hok : logOk l = true) : Calls Try.prog 31 #[Lg.val a l] w fun e w' => (∃ A' c', e = .returned (.tuple #[.slice A' (packZ (logNums l)).length c', .bool true]) ∧ Ow bEnc 5 1 w' w.heap.size (.slice A' (packZ (logNums l)).length c') (packZ (logNums l))) ∧ Ext w w' := by
 obtain ⟨i0, hi, hz0, hz1, hz2⟩ := info_parts Try.infoZ
 have hnn := logNums_b hok
 have HNN := Hd (show Nn (logNums l) from fun x hx => by have := hnn x hx; omega)
 obtain ⟨h40, h10, h60⟩ : l.cells.length ≤ 40 ∧ l.seats.length ≤ 10 ∧ l.ents.length ≤ 60 := log_lens hok
 have X0 := ext_alloc w (Lg.obj a l)
 have HL := Hd hr
 have HNNs := Hd (log_ans hok)
 have HCon := Hd (c_sLogOk a l (by omega) (by omega) (by omega) _ (hr.keep X0))
 rw [hok] at HCon
 clear hr hok hnn
 go_enter Try.func31, Try.ntmps31
 go_wp2_with fail
 refine HCon.out.mono ?_
 rintro e w1 ⟨rfl, x1⟩
 have HE := Hd (x1.box (hNew (w := w) (o := Lg.obj a l) rfl))
 have HX := Hd (Ext.trans X0 x1)
 clear HCon X0 x1
 obtain ⟨cA, cc, sA, sc, eA, ec⟩ := a
 have d1 := bx_cell HE.out
 have z1 := bx_lt HE.out
 obtain ⟨P0, hP0⟩ : ∃ P, [l.base, (l.cells.length : Int)] = P := ⟨_, rfl⟩
 have hl0 : P0.length ≤ 2 := by rw [← hP0]; simp
 have HP0 := Hd hP0
 have HO0 := Hd (show Ow zEnc 3 1 (w1.alloc (.cells #[.int .i64 l.base, .int .i64 l.cells.length] 3)) w.heap.size (.slice (some ⟨w1.heap.size, 0, none⟩) 2 2) (P0 ++ celN (l.cells.take 0)) from by rw [← hP0]; exact ow_box (l := [l.base, (l.cells.length : Int)]) (hNew rfl) (by omega) zEnc_len rfl (by unfold maxLen; simp))
 clear hP0
 have HX0 := Hd (ext_to HX.out (.cells #[.int .i64 l.base, .int .i64 l.cells.length] 3))
 have HE0 := Hd (hOld (o := .cells #[.int .i64 l.base, .int .i64 l.cells.length] 3) HE.out)
 go_wp2
 go_loopw [4, 5] (fun v i wr => ∃ k : Nat, k ≤ l.cells.length ∧ i = .int .i64 k ∧ Ow zEnc 3 1 wr w.heap.size v (P0 ++ celN (l.cells.take k)) ∧ Hid (wr.heap[w.heap.size]? = some (Lg.obj ⟨cA, cc, sA, sc, eA, ec⟩ l)) ∧ Hid (Ext w wr)) (fun _ i _ => l.cells.length - (intOf i).toNat)
 case atStart => exact ⟨0, Nat.zero_le _, rfl, HO0.out, HE0, HX0⟩
 case round =>
  clear HO0 HX0 HE0 HE d1 z1 HX
  obtain ⟨k, hk, rfl, ho, HE, HX⟩ := hrel
  obtain ⟨Ao, co, rfl⟩ := ho.form
  have HO := Hd ho
  have d1 := bx_cell HE.out
  have z1 := bx_lt HE.out
  have hle := celN_le l.cells k
  have hs := HX.out.size
  clear ho
  by_cases hlt : k < l.cells.length
  ·obtain ⟨zb, zo, hA, hzb, k0, k1⟩ := (HL.out.keep HX.out).1.atCel hlt
   have HN := Hd (show (P0 ++ celN (l.cells.take k)) ++ _ = P0 ++ celN (l.cells.take (k + 1)) by rw [List.append_assoc, ← celN_next hlt])
   obtain ⟨Q, hQ⟩ : ∃ Q, P0 ++ celN (l.cells.take k) = Q := ⟨_, rfl⟩
   have hlq : Q.length ≤ 82 := by rw [← hQ, List.length_append]; omega
   rw [hQ] at HO HN ⊢
   simp only at hA
   subst hA
   go_wp2
   (refine wp_region_mix' (fun _ _ _ _ _ hq => hq) 15 (by kernel_rfl) (by kernel_rfl) (fun hg => ?_); simp only [headOps, Tc, Tz, List.filter_cons, List.filter_nil, isAlloc, Bool.not_false, Bf, if_true, if_false, List.append_nil, Dc, Dz])
   (repeat (first | (refine wpMix_plain rfl rfl ?_; go_big_quiet_step (fail); refine wpQuiet_nil ?_) | (refine wpMix_skip rfl rfl ?_; simp only [Act.put, Sa, Sz, Ss])))
   (refine wpMix_nil ?_; intro w3 hw3)
   have HE3 := Hd (hw3.box HE.out)
   have HX3 := Hd (Ext.trans HX.out hw3)
   have HO3 := Hd (HO.out.kept hw3)
   have hs3 := HX3.out.size
   clear hw3 HE HX HO d1 z1 k0 k1
   go_wp2_with (at_builtin; refine wl_app (enc := zEnc) rfl _ _ 65 rfl w.heap.size 3 i0 (.int .i64 0) 1 8 Try.underlying65 hi hz0 hz1 hz2 rfl (by decide) zEnc_len zEnc_one (.slice Ao Q.length co) Q rfl (HO3.out.kept (ext_alloc _ _)) (some ⟨w3.heap.size, 0, none⟩) 2 [l.cells[k].key, l.cells[k].value] 2 rfl rfl (rd_boxZ (hNew rfl) rfl (by unfold maxLen; simp)) (by unfold maxLen; simp; omega) (by simp; omega) (by simp; omega) ?_)
   intro v' w4 ho4 hg4
   have X4 := Hd (ext_app3 (ext_to HX3.out _) hg4 (HO3.out.kept (ext_alloc _ _)) (Nat.le_refl _))
   have E4 := Hd (box_own (hOld HE3.out) (HO3.out.kept (ext_alloc _ _)) hg4 (by decide))
   rw [HN.out] at ho4
   clear hg4 HE3 HX3 HO3
   go_wp2
   go_roundw
   case rel => exact ⟨k + 1, by omega, by go_num, ho4, E4, X4⟩
   case measure => simp [intOf] <;> omega
  ·obtain rfl : k = l.cells.length := by omega
   rw [List.take_length] at HO hle ⊢
   obtain ⟨Q0, hQ⟩ : ∃ Q0, P0 ++ celN l.cells = Q0 := ⟨_, rfl⟩
   have hlq : Q0.length ≤ 82 := by rw [← hQ, List.length_append]; omega
   have HQ0 := Hd hQ
   rw [hQ] at HO ⊢
   clear hQ hle
   go_wp2_with (at_builtin; refine wl_app (enc := zEnc) rfl _ _ 65 rfl w.heap.size 3 i0 (.int .i64 0) 1 8 Try.underlying65 hi hz0 hz1 hz2 rfl (by decide) zEnc_len zEnc_one (.slice Ao Q0.length co) Q0 rfl (HO.out.kept (ext_alloc _ _)) (some ⟨wr.heap.size, 0, none⟩) 1 [(l.seats.length : Int)] 1 rfl rfl (rd_boxZ (hNew rfl) rfl (by unfold maxLen; simp)) (by unfold maxLen; simp; omega) (by simp; omega) (by simp; omega) ?_)
   intro v' w5 ho5 hg5
   have HX5 := Hd (ext_app3 (ext_to HX.out _) hg5 (HO.out.kept (ext_alloc _ _)) (Nat.le_refl _))
   have HE5 := Hd (box_own (hOld HE.out) (HO.out.kept (ext_alloc _ _)) hg5 (by decide))
   obtain ⟨P1, hP1⟩ : ∃ P, Q0 ++ [(l.seats.length : Int)] = P := ⟨_, rfl⟩
   have HP1 := Hd hP1
   have hl1 : P1.length ≤ 83 := by rw [← hP1]; simp; omega
   rw [hP1] at ho5
   have HO5 := Hd (show Ow zEnc 3 1 w5 w.heap.size v' (P1 ++ seaN (l.seats.take 0)) by rw [Tz]; show Ow _ _ _ _ _ _ (P1 ++ []); rw [List.append_nil]; exact ho5)
   obtain ⟨A5, c5, rfl⟩ := ho5.form
   have d5 := bx_cell HE5.out
   have z5 := bx_lt HE5.out
   clear hg5 ho5 HO HE HX d1 z1 hP1 hlq
   go_wp2
   clear d5 z5
   go_loopw [4, 6] (fun v i wr => ∃ k : Nat, k ≤ l.seats.length ∧ i = .int .i64 k ∧ Ow zEnc 3 1 wr w.heap.size v (P1 ++ seaN (l.seats.take k)) ∧ Hid (wr.heap[w.heap.size]? = some (Lg.obj ⟨cA, cc, sA, sc, eA, ec⟩ l)) ∧ Hid (Ext w wr)) (fun _ i _ => l.seats.length - (intOf i).toNat)
   case atStart => exact ⟨0, Nat.zero_le _, rfl, HO5.out, HE5, HX5⟩
   case round =>
    clear HE5 HO5 HX5
    obtain ⟨k, hk, rfl, ho, HE, HX⟩ := hrel
    obtain ⟨Ao, co, rfl⟩ := ho.form
    have HO := Hd ho
    have d1 := bx_cell HE.out
    have z1 := bx_lt HE.out
    have hle := seaN_le l.seats k
    have hs := HX.out.size
    clear ho
    by_cases hlt : k < l.seats.length
    ·obtain ⟨zb, zo, hA, hzb, k0, k1, k2⟩ := (HL.out.keep HX.out).2.1.atSea hlt
     have HN := Hd (show (P1 ++ seaN (l.seats.take k)) ++ _ = P1 ++ seaN (l.seats.take (k + 1)) by rw [List.append_assoc, ← seaN_next hlt])
     obtain ⟨Q, hQ⟩ : ∃ Q, P1 ++ seaN (l.seats.take k) = Q := ⟨_, rfl⟩
     have hlq : Q.length ≤ 113 := by rw [← hQ, List.length_append]; omega
     rw [hQ] at HO HN ⊢
     simp only at hA
     subst hA
     have hans := HNNs.out _ (List.getElem_mem hlt)
     have hwa : IntKind.i64.wrap (l.seats[k].answer + 1) = l.seats[k].answer + 1 := by rw [IntKind.wrap_i64]; omega
     obtain ⟨we, hwe⟩ : ∃ W, wr.alloc (.cells #[.int .i64 l.seats[k].client, .int .i64 l.seats[k].req, .int .i64 l.seats[k].answer] 103) = W := ⟨_, rfl⟩
     have xe : Ext wr we := by rw [← hwe]; exact ext_alloc _ _
     have HEe := Hd (xe.box HE.out)
     have HXe := Hd (Ext.trans HX.out xe)
     have HOe := Hd (HO.out.kept xe)
     have hse := HXe.out.size
     subst hwe
     go_wp2_with (at_builtin; refine wl_app (enc := zEnc) rfl _ _ 65 rfl w.heap.size 3 i0 (.int .i64 0) 1 8 Try.underlying65 hi hz0 hz1 hz2 rfl (by decide) zEnc_len zEnc_one (.slice Ao Q.length co) Q rfl (HOe.out.kept (ext_alloc _ _)) (some ⟨wr.heap.size + 1, 0, none⟩) 3 [l.seats[k].client, l.seats[k].req, l.seats[k].answer + 1] 3 rfl rfl (rd_boxZ (hNew (k := wr.heap.size + 1) (by simp)) rfl (by unfold maxLen; simp)) (by unfold maxLen; simp; omega) (by simp; omega) (by simp; omega) ?_)
     intro v' w4 ho4 hg4
     have X4 := Hd (ext_app3 (ext_to HXe.out _) hg4 (HOe.out.kept (ext_alloc _ _)) (Nat.le_refl _))
     have E4 := Hd (box_own (hOld HEe.out) (HOe.out.kept (ext_alloc _ _)) hg4 (by decide))
     rw [HN.out] at ho4
     clear hg4 HEe HXe HOe
     go_wp2
     go_roundw
     case rel => exact ⟨k + 1, by omega, by go_num, ho4, E4, X4⟩
     case measure => simp [intOf] <;> omega
    ·obtain rfl : k = l.seats.length := by omega
     rw [List.take_length] at HO hle ⊢
     obtain ⟨Q1, hQ⟩ : ∃ Q1, P1 ++ seaN l.seats = Q1 := ⟨_, rfl⟩
     have hlq : Q1.length ≤ 113 := by rw [← hQ, List.length_append]; omega
     have HQ1 := Hd hQ
     rw [hQ] at HO ⊢
     clear hQ hle
     go_wp2_with (at_builtin; refine wl_app (enc := zEnc) rfl _ _ 65 rfl w.heap.size 3 i0 (.int .i64 0) 1 8 Try.underlying65 hi hz0 hz1 hz2 rfl (by decide) zEnc_len zEnc_one (.slice Ao Q1.length co) Q1 rfl (HO.out.kept (ext_alloc _ _)) (some ⟨wr.heap.size, 0, none⟩) 1 [(l.ents.length : Int)] 1 rfl rfl (rd_boxZ (hNew rfl) rfl (by unfold maxLen; simp)) (by unfold maxLen; simp; omega) (by simp; omega) (by simp; omega) ?_)
     intro v' w5 ho5 hg5
     have HX5 := Hd (ext_app3 (ext_to HX.out _) hg5 (HO.out.kept (ext_alloc _ _)) (Nat.le_refl _))
     have HE5 := Hd (box_own (hOld HE.out) (HO.out.kept (ext_alloc _ _)) hg5 (by decide))
     obtain ⟨P2, hP2⟩ : ∃ P, Q1 ++ [(l.ents.length : Int)] = P := ⟨_, rfl⟩
     have HP2 := Hd hP2
     have hl2 : P2.length ≤ 114 := by rw [← hP2]; simp; omega
     rw [hP2] at ho5
     have HO5 := Hd (show Ow zEnc 3 1 w5 w.heap.size v' (P2 ++ entN (l.ents.take 0)) by rw [Tz]; show Ow _ _ _ _ _ _ (P2 ++ []); rw [List.append_nil]; exact ho5)
     obtain ⟨A5, c5, rfl⟩ := ho5.form
     have d5 := bx_cell HE5.out
     have z5 := bx_lt HE5.out
     clear hg5 ho5 HO HE HX d1 z1 hP2 hlq
     go_wp2
     clear d5 z5
     go_loopw [4, 8] (fun v i wr => ∃ k : Nat, k ≤ l.ents.length ∧ i = .int .i64 k ∧ Ow zEnc 3 1 wr w.heap.size v (P2 ++ entN (l.ents.take k)) ∧ Hid (wr.heap[w.heap.size]? = some (Lg.obj ⟨cA, cc, sA, sc, eA, ec⟩ l)) ∧ Hid (Ext w wr)) (fun _ i _ => l.ents.length - (intOf i).toNat)
     case atStart => exact ⟨0, Nat.zero_le _, rfl, HO5.out, HE5, HX5⟩
     case round =>
      clear HE5 HO5 HX5
      obtain ⟨k, hk, rfl, ho, HE, HX⟩ := hrel
      obtain ⟨Ao, co, rfl⟩ := ho.form
      have HO := Hd ho
      have d1 := bx_cell HE.out
      have z1 := bx_lt HE.out
      have hle := entN_le l.ents k
      have hs := HX.out.size
      clear ho
      by_cases hlt : k < l.ents.length
      ·obtain ⟨zb, zo, hA, hzb, k0, k1, k2, k3, k4⟩ := (HL.out.keep HX.out).2.2.atEnt hlt
       have HN := Hd (show (P2 ++ entN (l.ents.take k)) ++ _ = P2 ++ entN (l.ents.take (k + 1)) by rw [List.append_assoc, ← entN_next hlt])
       obtain ⟨Q, hQ⟩ : ∃ Q, P2 ++ entN (l.ents.take k) = Q := ⟨_, rfl⟩
       have hlq : Q.length ≤ 414 := by rw [← hQ, List.length_append]; omega
       rw [hQ] at HO HN ⊢
       simp only at hA
       subst hA
       obtain ⟨we, hwe⟩ : ∃ W, wr.alloc (.cells #[.int .i64 l.ents[k].client, .int .i64 l.ents[k].req, .int .i64 l.ents[k].kind, .int .i64 l.ents[k].key, .int .i64 l.ents[k].value] 105) = W := ⟨_, rfl⟩
       have xe : Ext wr we := by rw [← hwe]; exact ext_alloc _ _
       have HEe := Hd (xe.box HE.out)
       have HXe := Hd (Ext.trans HX.out xe)
       have HOe := Hd (HO.out.kept xe)
       have hse := HXe.out.size
       subst hwe
       go_wp2_with (at_builtin; refine wl_app (enc := zEnc) rfl _ _ 65 rfl w.heap.size 3 i0 (.int .i64 0) 1 8 Try.underlying65 hi hz0 hz1 hz2 rfl (by decide) zEnc_len zEnc_one (.slice Ao Q.length co) Q rfl (HOe.out.kept (ext_alloc _ _)) (some ⟨wr.heap.size + 1, 0, none⟩) 5 [l.ents[k].client, l.ents[k].req, l.ents[k].kind, l.ents[k].key, l.ents[k].value] 5 rfl rfl (rd_boxZ (hNew (k := wr.heap.size + 1) (by simp)) rfl (by unfold maxLen; simp)) (by unfold maxLen; simp; omega) (by simp; omega) (by simp; omega) ?_)
       intro v' w4 ho4 hg4
       have X4 := Hd (ext_app3 (ext_to HXe.out _) hg4 (HOe.out.kept (ext_alloc _ _)) (Nat.le_refl _))
       have E4 := Hd (box_own (hOld HEe.out) (HOe.out.kept (ext_alloc _ _)) hg4 (by decide))
       rw [HN.out] at ho4
       clear hg4 HEe HXe HOe
       go_wp2
       go_roundw
       case rel => exact ⟨k + 1, by omega, by go_num, ho4, E4, X4⟩
       case measure => simp [intOf] <;> omega
      ·obtain rfl : k = l.ents.length := by omega
       rw [List.take_length] at HO hle ⊢
       obtain ⟨Q2, hQ⟩ : ∃ Q2, P2 ++ entN l.ents = Q2 := ⟨_, rfl⟩
       have hlq : Q2.length ≤ 414 := by rw [← hQ, List.length_append]; omega
       have HQ2 := Hd hQ
       rw [hQ] at HO ⊢
       clear hQ hle
       have HQl := Hd (show Q2 = logNums l by rw [← HQ2.out, ← HP2.out, ← HQ1.out, ← HP1.out, ← HQ0.out, ← HP0.out]; simp [logNums])
       have hs9 := HX.out.size
       go_wp2_with fail
       refine (c_sPutNums Ao co Q2 wr (HO.out.rd zEnc_len).2 (by rw [HQl.out]; exact HNN.out) (by omega)).mono ?_
       rintro e w9 ⟨⟨A9, c9, rfl, o9⟩, x9⟩
       rw [HQl.out] at o9 ⊢
       have HO9 := Hd (o9.less hs9)
       clear o9
       go_wp2
       exact bodyPost_ret (v := .tuple #[.slice A9 (packZ (logNums l)).length c9, .bool true]) (by simp [results, Try.results31, go_sem]) rfl ⟨⟨A9, c9, rfl, HO9.out⟩, Ext.trans HX.out x9⟩
set_option maxRecDepth 100000 in
set_option maxHeartbeats 8000000 in
theorem c_iPackLog (a : LAd) (l : Lg) (w : World) (hr : LgR w a l) (hok : logOk l = true) : Calls Try.prog 39 #[Lg.val a l] w fun e w' => (∃ A' c', e = .returned (.tuple #[.slice A' (packZ (logNums l)).length c', .bool true]) ∧ Ow bEnc 5 1 w' w.heap.size (.slice A' (packZ (logNums l)).length c') (packZ (logNums l))) ∧ Ext w w' := by
 obtain ⟨i0, hi, hz0, hz1, hz2⟩ := info_parts Try.infoZ
 have hnn := logNums_b hok
 have HNN := Hd (show Nn (logNums l) from fun x hx => by have := hnn x hx; omega)
 obtain ⟨h40, h10, h60⟩ : l.cells.length ≤ 40 ∧ l.seats.length ≤ 10 ∧ l.ents.length ≤ 60 := log_lens hok
 have X0 := ext_alloc w (Lg.obj a l)
 have HL := Hd hr
 have HNNs := Hd (log_ans hok)
 have HCon := Hd (c_iLogOk a l (by omega) (by omega) (by omega) _ (hr.keep X0))
 rw [hok] at HCon
 clear hr hok hnn
 go_enter Try.func39, Try.ntmps39
 go_wp2_with fail
 refine HCon.out.mono ?_
 rintro e w1 ⟨rfl, x1⟩
 have HE := Hd (x1.box (hNew (w := w) (o := Lg.obj a l) rfl))
 have HX := Hd (Ext.trans X0 x1)
 clear HCon X0 x1
 obtain ⟨cA, cc, sA, sc, eA, ec⟩ := a
 have d1 := bx_cell HE.out
 have z1 := bx_lt HE.out
 obtain ⟨P0, hP0⟩ : ∃ P, [l.base, (l.cells.length : Int)] = P := ⟨_, rfl⟩
 have hl0 : P0.length ≤ 2 := by rw [← hP0]; simp
 have HP0 := Hd hP0
 have HO0 := Hd (show Ow zEnc 3 1 (w1.alloc (.cells #[.int .i64 l.base, .int .i64 l.cells.length] 3)) w.heap.size (.slice (some ⟨w1.heap.size, 0, none⟩) 2 2) (P0 ++ celN (l.cells.take 0)) from by rw [← hP0]; exact ow_box (l := [l.base, (l.cells.length : Int)]) (hNew rfl) (by omega) zEnc_len rfl (by unfold maxLen; simp))
 clear hP0
 have HX0 := Hd (ext_to HX.out (.cells #[.int .i64 l.base, .int .i64 l.cells.length] 3))
 have HE0 := Hd (hOld (o := .cells #[.int .i64 l.base, .int .i64 l.cells.length] 3) HE.out)
 go_wp2
 go_loopw [4, 25] (fun v i wr => ∃ k : Nat, k ≤ l.cells.length ∧ i = .int .i64 k ∧ Ow zEnc 3 1 wr w.heap.size v (P0 ++ celN (l.cells.take k)) ∧ Hid (wr.heap[w.heap.size]? = some (Lg.obj ⟨cA, cc, sA, sc, eA, ec⟩ l)) ∧ Hid (Ext w wr)) (fun _ i _ => l.cells.length - (intOf i).toNat)
 case atStart => exact ⟨0, Nat.zero_le _, rfl, HO0.out, HE0, HX0⟩
 case round =>
  clear HO0 HX0 HE0 HE d1 z1 HX
  obtain ⟨k, hk, rfl, ho, HE, HX⟩ := hrel
  obtain ⟨Ao, co, rfl⟩ := ho.form
  have HO := Hd ho
  have d1 := bx_cell HE.out
  have z1 := bx_lt HE.out
  have hle := celN_le l.cells k
  have hs := HX.out.size
  clear ho
  by_cases hlt : k < l.cells.length
  ·obtain ⟨zb, zo, hA, hzb, k0, k1⟩ := (HL.out.keep HX.out).1.atCel hlt
   have HN := Hd (show (P0 ++ celN (l.cells.take k)) ++ _ = P0 ++ celN (l.cells.take (k + 1)) by rw [List.append_assoc, ← celN_next hlt])
   obtain ⟨Q, hQ⟩ : ∃ Q, P0 ++ celN (l.cells.take k) = Q := ⟨_, rfl⟩
   have hlq : Q.length ≤ 82 := by rw [← hQ, List.length_append]; omega
   rw [hQ] at HO HN ⊢
   simp only at hA
   subst hA
   obtain ⟨we, hwe⟩ : ∃ W, wr.alloc (.cells #[.int .i64 l.cells[k].key, .int .i64 l.cells[k].value] 101) = W := ⟨_, rfl⟩
   have xe : Ext wr we := by rw [← hwe]; exact ext_alloc _ _
   have HEe := Hd (xe.box HE.out)
   have HXe := Hd (Ext.trans HX.out xe)
   have HOe := Hd (HO.out.kept xe)
   have hse := HXe.out.size
   subst hwe
   go_wp2_with (at_builtin; refine wl_app (enc := zEnc) rfl _ _ 65 rfl w.heap.size 3 i0 (.int .i64 0) 1 8 Try.underlying65 hi hz0 hz1 hz2 rfl (by decide) zEnc_len zEnc_one (.slice Ao Q.length co) Q rfl (HOe.out.kept (ext_alloc _ _)) (some ⟨wr.heap.size + 1, 0, none⟩) 2 [l.cells[k].key, l.cells[k].value] 2 rfl rfl (rd_boxZ (hNew (k := wr.heap.size + 1) (by simp)) rfl (by unfold maxLen; simp)) (by unfold maxLen; simp; omega) (by simp; omega) (by simp; omega) ?_)
   intro v' w4 ho4 hg4
   have X4 := Hd (ext_app3 (ext_to HXe.out _) hg4 (HOe.out.kept (ext_alloc _ _)) (Nat.le_refl _))
   have E4 := Hd (box_own (hOld HEe.out) (HOe.out.kept (ext_alloc _ _)) hg4 (by decide))
   rw [HN.out] at ho4
   clear hg4 HEe HXe HOe
   go_wp2
   go_roundw
   case rel => exact ⟨k + 1, by omega, by go_num, ho4, E4, X4⟩
   case measure => simp [intOf] <;> omega
  ·obtain rfl : k = l.cells.length := by omega
   rw [List.take_length] at HO hle ⊢
   obtain ⟨Q0, hQ⟩ : ∃ Q0, P0 ++ celN l.cells = Q0 := ⟨_, rfl⟩
   have hlq : Q0.length ≤ 82 := by rw [← hQ, List.length_append]; omega
   have HQ0 := Hd hQ
   rw [hQ] at HO ⊢
   clear hQ hle
   go_wp2_with (at_builtin; refine wl_app (enc := zEnc) rfl _ _ 65 rfl w.heap.size 3 i0 (.int .i64 0) 1 8 Try.underlying65 hi hz0 hz1 hz2 rfl (by decide) zEnc_len zEnc_one (.slice Ao Q0.length co) Q0 rfl (HO.out.kept (ext_alloc _ _)) (some ⟨wr.heap.size, 0, none⟩) 1 [(l.seats.length : Int)] 1 rfl rfl (rd_boxZ (hNew rfl) rfl (by unfold maxLen; simp)) (by unfold maxLen; simp; omega) (by simp; omega) (by simp; omega) ?_)
   intro v' w5 ho5 hg5
   have HX5 := Hd (ext_app3 (ext_to HX.out _) hg5 (HO.out.kept (ext_alloc _ _)) (Nat.le_refl _))
   have HE5 := Hd (box_own (hOld HE.out) (HO.out.kept (ext_alloc _ _)) hg5 (by decide))
   obtain ⟨P1, hP1⟩ : ∃ P, Q0 ++ [(l.seats.length : Int)] = P := ⟨_, rfl⟩
   have HP1 := Hd hP1
   have hl1 : P1.length ≤ 83 := by rw [← hP1]; simp; omega
   rw [hP1] at ho5
   have HO5 := Hd (show Ow zEnc 3 1 w5 w.heap.size v' (P1 ++ seaN (l.seats.take 0)) by rw [Tz]; show Ow _ _ _ _ _ _ (P1 ++ []); rw [List.append_nil]; exact ho5)
   obtain ⟨A5, c5, rfl⟩ := ho5.form
   have d5 := bx_cell HE5.out
   have z5 := bx_lt HE5.out
   clear hg5 ho5 HO HE HX d1 z1 hP1 hlq
   go_wp2
   clear d5 z5
   go_loopw [4, 48] (fun v i wr => ∃ k : Nat, k ≤ l.seats.length ∧ i = .int .i64 k ∧ Ow zEnc 3 1 wr w.heap.size v (P1 ++ seaN (l.seats.take k)) ∧ Hid (wr.heap[w.heap.size]? = some (Lg.obj ⟨cA, cc, sA, sc, eA, ec⟩ l)) ∧ Hid (Ext w wr)) (fun _ i _ => l.seats.length - (intOf i).toNat)
   case atStart => exact ⟨0, Nat.zero_le _, rfl, HO5.out, HE5, HX5⟩
   case round =>
    clear HE5 HO5 HX5
    obtain ⟨k, hk, rfl, ho, HE, HX⟩ := hrel
    obtain ⟨Ao, co, rfl⟩ := ho.form
    have HO := Hd ho
    have d1 := bx_cell HE.out
    have z1 := bx_lt HE.out
    have hle := seaN_le l.seats k
    have hs := HX.out.size
    clear ho
    by_cases hlt : k < l.seats.length
    ·obtain ⟨zb, zo, hA, hzb, k0, k1, k2⟩ := (HL.out.keep HX.out).2.1.atSea hlt
     have HN := Hd (show (P1 ++ seaN (l.seats.take k)) ++ _ = P1 ++ seaN (l.seats.take (k + 1)) by rw [List.append_assoc, ← seaN_next hlt])
     obtain ⟨Q, hQ⟩ : ∃ Q, P1 ++ seaN (l.seats.take k) = Q := ⟨_, rfl⟩
     have hlq : Q.length ≤ 113 := by rw [← hQ, List.length_append]; omega
     rw [hQ] at HO HN ⊢
     simp only at hA
     subst hA
     have hans := HNNs.out _ (List.getElem_mem hlt)
     have hwa : IntKind.i64.wrap (l.seats[k].answer + 1) = l.seats[k].answer + 1 := by rw [IntKind.wrap_i64]; omega
     obtain ⟨we, hwe⟩ : ∃ W, wr.alloc (.cells #[.int .i64 l.seats[k].client, .int .i64 l.seats[k].req, .int .i64 l.seats[k].answer] 103) = W := ⟨_, rfl⟩
     have xe : Ext wr we := by rw [← hwe]; exact ext_alloc _ _
     have HEe := Hd (xe.box HE.out)
     have HXe := Hd (Ext.trans HX.out xe)
     have HOe := Hd (HO.out.kept xe)
     have hse := HXe.out.size
     subst hwe
     go_wp2_with (at_builtin; refine wl_app (enc := zEnc) rfl _ _ 65 rfl w.heap.size 3 i0 (.int .i64 0) 1 8 Try.underlying65 hi hz0 hz1 hz2 rfl (by decide) zEnc_len zEnc_one (.slice Ao Q.length co) Q rfl (HOe.out.kept (ext_alloc _ _)) (some ⟨wr.heap.size + 1, 0, none⟩) 3 [l.seats[k].client, l.seats[k].req, l.seats[k].answer + 1] 3 rfl rfl (rd_boxZ (hNew (k := wr.heap.size + 1) (by simp)) rfl (by unfold maxLen; simp)) (by unfold maxLen; simp; omega) (by simp; omega) (by simp; omega) ?_)
     intro v' w4 ho4 hg4
     have X4 := Hd (ext_app3 (ext_to HXe.out _) hg4 (HOe.out.kept (ext_alloc _ _)) (Nat.le_refl _))
     have E4 := Hd (box_own (hOld HEe.out) (HOe.out.kept (ext_alloc _ _)) hg4 (by decide))
     rw [HN.out] at ho4
     clear hg4 HEe HXe HOe
     go_wp2
     go_roundw
     case rel => exact ⟨k + 1, by omega, by go_num, ho4, E4, X4⟩
     case measure => simp [intOf] <;> omega
    ·obtain rfl : k = l.seats.length := by omega
     rw [List.take_length] at HO hle ⊢
     obtain ⟨Q1, hQ⟩ : ∃ Q1, P1 ++ seaN l.seats = Q1 := ⟨_, rfl⟩
     have hlq : Q1.length ≤ 113 := by rw [← hQ, List.length_append]; omega
     have HQ1 := Hd hQ
     rw [hQ] at HO ⊢
     clear hQ hle
     go_wp2_with (at_builtin; refine wl_app (enc := zEnc) rfl _ _ 65 rfl w.heap.size 3 i0 (.int .i64 0) 1 8 Try.underlying65 hi hz0 hz1 hz2 rfl (by decide) zEnc_len zEnc_one (.slice Ao Q1.length co) Q1 rfl (HO.out.kept (ext_alloc _ _)) (some ⟨wr.heap.size, 0, none⟩) 1 [(l.ents.length : Int)] 1 rfl rfl (rd_boxZ (hNew rfl) rfl (by unfold maxLen; simp)) (by unfold maxLen; simp; omega) (by simp; omega) (by simp; omega) ?_)
     intro v' w5 ho5 hg5
     have HX5 := Hd (ext_app3 (ext_to HX.out _) hg5 (HO.out.kept (ext_alloc _ _)) (Nat.le_refl _))
     have HE5 := Hd (box_own (hOld HE.out) (HO.out.kept (ext_alloc _ _)) hg5 (by decide))
     obtain ⟨P2, hP2⟩ : ∃ P, Q1 ++ [(l.ents.length : Int)] = P := ⟨_, rfl⟩
     have HP2 := Hd hP2
     have hl2 : P2.length ≤ 114 := by rw [← hP2]; simp; omega
     rw [hP2] at ho5
     have HO5 := Hd (show Ow zEnc 3 1 w5 w.heap.size v' (P2 ++ entN (l.ents.take 0)) by rw [Tz]; show Ow _ _ _ _ _ _ (P2 ++ []); rw [List.append_nil]; exact ho5)
     obtain ⟨A5, c5, rfl⟩ := ho5.form
     have d5 := bx_cell HE5.out
     have z5 := bx_lt HE5.out
     clear hg5 ho5 HO HE HX d1 z1 hP2 hlq
     go_wp2
     clear d5 z5
     go_loopw [4, 72] (fun v i wr => ∃ k : Nat, k ≤ l.ents.length ∧ i = .int .i64 k ∧ Ow zEnc 3 1 wr w.heap.size v (P2 ++ entN (l.ents.take k)) ∧ Hid (wr.heap[w.heap.size]? = some (Lg.obj ⟨cA, cc, sA, sc, eA, ec⟩ l)) ∧ Hid (Ext w wr)) (fun _ i _ => l.ents.length - (intOf i).toNat)
     case atStart => exact ⟨0, Nat.zero_le _, rfl, HO5.out, HE5, HX5⟩
     case round =>
      clear HE5 HO5 HX5
      obtain ⟨k, hk, rfl, ho, HE, HX⟩ := hrel
      obtain ⟨Ao, co, rfl⟩ := ho.form
      have HO := Hd ho
      have d1 := bx_cell HE.out
      have z1 := bx_lt HE.out
      have hle := entN_le l.ents k
      have hs := HX.out.size
      clear ho
      by_cases hlt : k < l.ents.length
      ·obtain ⟨zb, zo, hA, hzb, k0, k1, k2, k3, k4⟩ := (HL.out.keep HX.out).2.2.atEnt hlt
       have HN := Hd (show (P2 ++ entN (l.ents.take k)) ++ _ = P2 ++ entN (l.ents.take (k + 1)) by rw [List.append_assoc, ← entN_next hlt])
       obtain ⟨Q, hQ⟩ : ∃ Q, P2 ++ entN (l.ents.take k) = Q := ⟨_, rfl⟩
       have hlq : Q.length ≤ 414 := by rw [← hQ, List.length_append]; omega
       rw [hQ] at HO HN ⊢
       simp only at hA
       subst hA
       obtain ⟨we, hwe⟩ : ∃ W, wr.alloc (.cells #[.int .i64 l.ents[k].client, .int .i64 l.ents[k].req, .int .i64 l.ents[k].kind, .int .i64 l.ents[k].key, .int .i64 l.ents[k].value] 105) = W := ⟨_, rfl⟩
       have xe : Ext wr we := by rw [← hwe]; exact ext_alloc _ _
       have HEe := Hd (xe.box HE.out)
       have HXe := Hd (Ext.trans HX.out xe)
       have HOe := Hd (HO.out.kept xe)
       have hse := HXe.out.size
       subst hwe
       go_wp2_with (at_builtin; refine wl_app (enc := zEnc) rfl _ _ 65 rfl w.heap.size 3 i0 (.int .i64 0) 1 8 Try.underlying65 hi hz0 hz1 hz2 rfl (by decide) zEnc_len zEnc_one (.slice Ao Q.length co) Q rfl (HOe.out.kept (ext_alloc _ _)) (some ⟨wr.heap.size + 1, 0, none⟩) 5 [l.ents[k].client, l.ents[k].req, l.ents[k].kind, l.ents[k].key, l.ents[k].value] 5 rfl rfl (rd_boxZ (hNew (k := wr.heap.size + 1) (by simp)) rfl (by unfold maxLen; simp)) (by unfold maxLen; simp; omega) (by simp; omega) (by simp; omega) ?_)
       intro v' w4 ho4 hg4
       have X4 := Hd (ext_app3 (ext_to HXe.out _) hg4 (HOe.out.kept (ext_alloc _ _)) (Nat.le_refl _))
       have E4 := Hd (box_own (hOld HEe.out) (HOe.out.kept (ext_alloc _ _)) hg4 (by decide))
       rw [HN.out] at ho4
       clear hg4 HEe HXe HOe
       go_wp2
       go_roundw
       case rel => exact ⟨k + 1, by omega, by go_num, ho4, E4, X4⟩
       case measure => simp [intOf] <;> omega
      ·obtain rfl : k = l.ents.length := by omega
       rw [List.take_length] at HO hle ⊢
       obtain ⟨Q2, hQ⟩ : ∃ Q2, P2 ++ entN l.ents = Q2 := ⟨_, rfl⟩
       have hlq : Q2.length ≤ 414 := by rw [← hQ, List.length_append]; omega
       have HQ2 := Hd hQ
       rw [hQ] at HO ⊢
       clear hQ hle
       have HQl := Hd (show Q2 = logNums l by rw [← HQ2.out, ← HP2.out, ← HQ1.out, ← HP1.out, ← HQ0.out, ← HP0.out]; simp [logNums])
       have hs9 := HX.out.size
       go_wp2_with fail
       refine (c_iPutNums Ao co Q2 wr (HO.out.rd zEnc_len).2 (by rw [HQl.out]; exact HNN.out) (by omega)).mono ?_
       rintro e w9 ⟨⟨A9, c9, rfl, o9⟩, x9⟩
       rw [HQl.out] at o9 ⊢
       have HO9 := Hd (o9.less hs9)
       clear o9
       go_wp2
       exact bodyPost_ret (v := .tuple #[.slice A9 (packZ (logNums l)).length c9, .bool true]) (by simp [results, Try.results39, go_sem]) rfl ⟨⟨A9, c9, rfl, HO9.out⟩, Ext.trans HX.out x9⟩
def ZsV (B : Nat) (o : Option (List Int × Nat)) (v : Value) (W : World) : Prop := match o with
 | none => ∃ A c, v = .tuple #[.slice A 0 c, .int .i64 0, .bool false]
 | some p => ∃ A c, v = .tuple #[.slice A p.1.length c, .int .i64 p.2, .bool true] ∧ Ow zEnc 3 1 W B (.slice A p.1.length c) p.1
theorem getZs_next {b : List Nat} {e n : Nat} {x : Int} {f : Nat} (h : getZ b e = some (x, f)) : getZs b e (n + 1) = (getZs b f n).map (fun q => (x :: q.1, q.2)) := by rw [getZs, h]
theorem getZs_none {b : List Nat} {e n : Nat} (h : getZ b e = none) : getZs b e (n + 1) = none := by rw [getZs, h]
theorem getZ_le {b : List Nat} (hb : Byt b) {e : Nat} {x : Int} {f : Nat} (h : getZ b e = some (x, f)) : f ≤ b.length ∧ 0 ≤ x ∧ x < 9223372036854775808 := by
 obtain ⟨_, h1, h2, _, h3⟩ := getZ_of hb h
 exact ⟨h3, h1, h2⟩
set_option maxRecDepth 100000 in
set_option maxHeartbeats 8000000 in
theorem c_sGetNums (A : Option Addr) (c : Nat) (b : List Nat) (at_ many : Nat) (w : World) (hr : Rd bEnc 1 w A c b) (hb : Byt b) (hn : b.length ≤ 1048576) (ha : at_ ≤ 1048576) (hm0 : 1 ≤ many) (hm1 : many ≤ 4000) : Calls Try.prog 46 #[.slice A b.length c, .int .i64 at_, .int .i64 many] w fun e w' => (∃ v, e = .returned v ∧ ZsV w.heap.size (getZs b at_ many) v w') ∧ Ext w w' := by
 obtain ⟨i0, hi, hz0, hz1, hz2⟩ := info_parts Try.infoZ
 have HR := Hd hr
 have HB := Hd hb
 clear hr hb
 have hcon := c_l1In many 1 4000 (w.alloc (.cells #[] 3))
 rw [show inB (many : Int) 1 4000 = true from (inB_yes _ _ _).2 ⟨by omega, by omega⟩] at hcon
 have HO0 := Hd (show Ow zEnc 3 1 (w.alloc (.cells #[] 3)) w.heap.size (.slice (some ⟨w.heap.size, 0, none⟩) 0 0) ([] : List Int) from own_empty (hNew rfl) (Nat.le_refl _))
 go_enter Try.func46, Try.ntmps46
 go_wp2_with fail
 refine hcon.mono ?_
 rintro e w1 ⟨rfl, x1⟩
 have HO1 := Hd (HO0.out.kept x1)
 have HX1 := Hd (Ext.trans (ext_alloc w (.cells #[] 3)) x1)
 clear hcon x1 HO0
 go_wp2
 go_loopw [1, 9, 10, 11, 12, 13] (fun av o i _ _ _ wr => ∃ (k e : Nat) (l : List Int), k ≤ many ∧ i = .int .i64 k ∧ av = .int .i64 e ∧ e ≤ 1048576 ∧ Hid (l.length = k) ∧ Hid (getZs b at_ many = (getZs b e (many - k)).map (fun q => (l ++ q.1, q.2))) ∧ Ow zEnc 3 1 wr w.heap.size o l ∧ Hid (Ext w wr)) (fun _ _ i _ _ _ _ => many - (intOf i).toNat)
 case atStart => exact ⟨0, at_, [], by omega, rfl, rfl, ha, Hd rfl, Hd (by cases getZs b at_ many <;> simp), HO1.out, HX1⟩
 case round =>
  clear HO1 HX1
  obtain ⟨k, e, l, hk, rfl, rfl, he, HLk, HG, ho, HX⟩ := hrel
  obtain ⟨Ao, co, rfl⟩ := ho.form
  have HO := Hd ho
  have hs := HX.out.size
  have hll : l.length ≤ 4000 := by have := HLk.out; omega
  clear ho
  by_cases hlt : k < many
  ·have HC := Hd (c_sGetNum A c b e wr (HR.out.keep HX.out) HB.out hn he)
   obtain ⟨n, hnn⟩ : ∃ n, many - k = n + 1 := ⟨many - k - 1, by omega⟩
   cases hz : getZ b e with
   | none =>
    rw [hz] at HC
    have HN := Hd (show getZs b at_ many = none by rw [HG.out, hnn, getZs_none hz]; rfl)
    clear hz
    go_wp2_with fail
    refine HC.out.mono ?_
    rintro e2 w2 ⟨rfl, x2⟩
    simp only [gT]
    go_wp2
    exact bodyPost_ret (v := .tuple #[.slice (some ⟨w2.heap.size, 0, none⟩) 0 0, .int .i64 0, .bool false]) (by simp [results, Try.results46, go_sem]) rfl ⟨⟨_, rfl, by rw [HN.out]; exact ⟨_, _, rfl⟩⟩, ext_to (Ext.trans HX.out x2) _⟩
   | some p =>
    obtain ⟨x, f⟩ := p
    rw [hz] at HC
    obtain ⟨hf, hx0, hx1⟩ := getZ_le HB.out hz
    have HN := Hd (show getZs b at_ many = (getZs b f (many - (k + 1))).map (fun q => ((l ++ [x]) ++ q.1, q.2)) by
     rw [HG.out, hnn, getZs_next hz, show many - (k + 1) = n by omega, Option.map_map]
     congr 1
     funext q
     simp)
    clear hz
    go_wp2_with fail
    refine HC.out.mono ?_
    rintro e2 w2 ⟨rfl, x2⟩
    have HO2 := Hd (HO.out.kept x2)
    have HX2 := Hd (Ext.trans HX.out x2)
    have hs2 := HX2.out.size
    simp only [gT]
    clear x2 HO HX HC HG
    go_wp2_with (at_builtin; refine wl_app (enc := zEnc) rfl _ _ 65 rfl w.heap.size 3 i0 (.int .i64 0) 1 8 Try.underlying65 hi hz0 hz1 hz2 rfl (by decide) zEnc_len zEnc_one (.slice Ao l.length co) l rfl (HO2.out.kept (ext_alloc _ _)) (some ⟨w2.heap.size, 0, none⟩) 1 [x] 1 rfl rfl (rd_boxZ (hNew rfl) rfl (by unfold maxLen; simp)) (by unfold maxLen; simp; omega) (by simp; omega) (by simp; omega) ?_)
    intro v' w4 ho4 hg4
    have X4 := Hd (ext_app3 (ext_to HX2.out _) hg4 (HO2.out.kept (ext_alloc _ _)) (Nat.le_refl _))
    clear hg4 HO2 HX2
    go_wp2
    go_roundw
    case rel => exact ⟨k + 1, f, l ++ [x], by omega, by go_num, rfl, by omega, Hd (by rw [List.length_append, HLk.out]; rfl), HN, ho4, X4⟩
    case measure => simp [intOf] <;> omega
  ·obtain rfl : k = many := by omega
   have HN := Hd (show getZs b at_ k = some (l, e) by rw [HG.out, Nat.sub_self]; simp [getZs])
   go_wp2
   exact bodyPost_ret (v := .tuple #[.slice Ao l.length co, .int .i64 e, .bool true]) (by simp [results, Try.results46, go_sem]) rfl ⟨⟨_, rfl, by rw [HN.out]; exact ⟨_, _, rfl, HO.out⟩⟩, HX.out⟩
set_option maxRecDepth 100000 in
set_option maxHeartbeats 8000000 in
theorem c_l4Rows (A : Option Addr) (c : Nat) (b : List Nat) (at_ wide most : Nat) (w : World) (hr : Rd bEnc 1 w A c b) (hb : Byt b) (hn : b.length ≤ 1048576) (ha : at_ ≤ 1048576) (hw0 : 1 ≤ wide) (hwm : most * wide ≤ 4000) (hw9 : wide ≤ 10) (hm9 : most ≤ 100) : Calls Try.prog 87 #[.slice A b.length c, .int .i64 at_, .int .i64 wide, .int .i64 most] w fun e w' => (∃ v, e = .returned v ∧ ZsV w.heap.size (rdRows b at_ wide most) v w') ∧ Ext w w' := by
 have HR := Hd hr
 have HB := Hd hb
 have HC := Hd (c_sGetNum A c b at_ w hr hb hn ha)
 clear hr hb
 cases hz : getZ b at_ with
 | none =>
  rw [hz] at HC
  have HN := Hd (show rdRows b at_ wide most = none by unfold rdRows; rw [hz])
  clear hz
  go_enter Try.func87, Try.ntmps87
  go_wp2_with fail
  refine HC.out.mono ?_
  rintro e2 w2 ⟨rfl, x2⟩
  simp only [gT]
  go_wp2
  exact bodyPost_ret (v := .tuple #[.slice (some ⟨w2.heap.size, 0, none⟩) 0 0, .int .i64 0, .bool false]) (by simp [results, Try.results87, go_sem]) rfl ⟨⟨_, rfl, by rw [HN.out]; exact ⟨_, _, rfl⟩⟩, ext_to x2 _⟩
 | some p =>
  obtain ⟨x, f⟩ := p
  rw [hz] at HC
  obtain ⟨hf, hx0, hx1⟩ := getZ_le HB.out hz
  obtain ⟨n, rfl⟩ : ∃ n : Nat, x = (n : Int) := ⟨x.toNat, by omega⟩
  by_cases hg : most < n
  ·have HN := Hd (show rdRows b at_ wide most = none by unfold rdRows; rw [hz]; show (if (most : Int) < (n : Int) then none else _) = none; rw [if_pos (by omega)])
   have hgi : decide ((most : Int) < (n : Int)) = true := by simp; omega
   clear hz
   go_enter Try.func87, Try.ntmps87
   go_wp2_with fail
   refine HC.out.mono ?_
   rintro e2 w2 ⟨rfl, x2⟩
   simp only [gT]
   go_wp2
   exact bodyPost_ret (v := .tuple #[.slice (some ⟨w2.heap.size, 0, none⟩) 0 0, .int .i64 0, .bool false]) (by simp [results, Try.results87, go_sem]) rfl ⟨⟨_, rfl, by rw [HN.out]; exact ⟨_, _, rfl⟩⟩, ext_to x2 _⟩
  ·have hgi : decide ((most : Int) < (n : Int)) = false := by simp; omega
   have hrd : rdRows b at_ wide most = getZs b f (n * wide) := by
    unfold rdRows
    rw [hz]
    show (if (most : Int) < (n : Int) then none else getZs b f ((n : Int).toNat * wide)) = _
    rw [if_neg (by omega), show ((n : Int)).toNat = n by omega]
   clear hz
   by_cases hn0 : n = 0
   ·subst hn0
    have HN := Hd (show rdRows b at_ wide most = some ([], f) by rw [hrd, Nat.zero_mul, getZs])
    clear hrd
    go_enter Try.func87, Try.ntmps87
    go_wp2_with fail
    refine HC.out.mono ?_
    rintro e2 w2 ⟨rfl, x2⟩
    have hs2 := x2.size
    simp only [gT]
    go_wp2
    exact bodyPost_ret (v := .tuple #[.slice (some ⟨w2.heap.size, 0, none⟩) 0 0, .int .i64 f, .bool true]) (by simp [results, Try.results87, go_sem]) rfl ⟨⟨_, rfl, by rw [HN.out]; exact ⟨_, _, rfl, own_empty (hNew rfl) hs2⟩⟩, ext_to x2 _⟩
   ·have hn0i : ((n : Int) == 0) = false := by simp; omega
    have hnw : n * wide ≤ 4000 := Nat.le_trans (Nat.mul_le_mul_right _ (by omega)) hwm
    have hnw1 : 1 ≤ n * wide := Nat.mul_pos (by omega) hw0
    have hmul : (n : Int) * (wide : Int) = ((n * wide : Nat) : Int) := by rw [Int.natCast_mul]
    obtain ⟨q, hq⟩ : ∃ q, n * wide = q := ⟨_, rfl⟩
    rw [hq] at hmul hnw hnw1 hrd
    have hwr : IntKind.i64.wrap ((n : Int) * (wide : Int)) = (q : Int) := by rw [hmul, IntKind.wrap_i64]; omega
    have HRd := Hd hrd
    clear hrd hq
    go_enter Try.func87, Try.ntmps87
    go_wp2_with fail
    refine HC.out.mono ?_
    rintro e2 w2 ⟨rfl, x2⟩
    simp only [gT]
    have HC2 := Hd (c_sGetNums A c b f q w2 (HR.out.keep x2) HB.out hn (by omega) hnw1 hnw)
    go_wp2_with fail
    refine HC2.out.mono ?_
    rintro e3 w3 ⟨⟨v3, rfl, hv3⟩, x3⟩
    have hs2 := x2.size
    rw [← HRd.out] at hv3
    cases ho : rdRows b at_ wide most with
    | none =>
     rw [ho] at hv3
     obtain ⟨A3, c3, rfl⟩ := hv3
     go_wp2
     exact bodyPost_ret (v := .tuple #[.slice A3 0 c3, .int .i64 0, .bool false]) (by simp [results, Try.results87, go_sem]) rfl ⟨⟨_, rfl, by rw [ho]; exact ⟨_, _, rfl⟩⟩, Ext.trans x2 x3⟩
    | some p =>
     rw [ho] at hv3
     obtain ⟨A3, c3, rfl, o3⟩ := hv3
     have HO3 := Hd o3
     clear o3
     go_wp2
     exact bodyPost_ret (v := .tuple #[.slice A3 p.1.length c3, .int .i64 p.2, .bool true]) (by simp [results, Try.results87, go_sem]) rfl ⟨⟨_, rfl, by rw [ho]; exact ⟨_, _, rfl, HO3.out.less hs2⟩⟩, Ext.trans x2 x3⟩
end Go.Proofs.Ytpghedeghoegmaa
