/- Frames: read, written, spoilt: plain lists, no program in sight. -/
import Derived.Test.YtpghedeghoegmaaPk29
import Derived.Test.YtpghedeghoegmaaPk24
import Derived.Lib.AppendZeros
namespace Go.Proofs.Ytpghedeghoegmaa
open Go.ChangeShapes Go.WideShapes Go.ChangeAt Go.RowKit Go.Sort
set_option linter.unusedVariables false
set_option linter.unusedSimpArgs false
def unfr (b : List Nat) : List Nat × Nat × Int := match getZ b 0 with
 | none => ([], 0, 1)
 | some p => if (4000 : Int) < p.1 then ([], 0, 1)
  else if (b.length : Int) - p.2 < p.1 + 4 then ([], 0, 2)
  else if ((b.drop (p.2 + p.1.toNat)).take 4 == le4 (crc ((b.drop p.2).take p.1.toNat))) = true then ((b.drop p.2).take p.1.toNat, p.2 + p.1.toNat + 4, 0)
  else ([], 0, 3)
def unpackM (b : List Nat) : Mg × Int := if ((unfr b).2.2 == 0 && ((unfr b).2.1 == b.length)) = true then rdBody (unfr b).1 else (Mg.z, 1)
def packM (m : Mg) : List Nat := frame (packZ (msgNums m))
theorem packZ_bytes (l : List Int) : ∀ y ∈ packZ l, y < 256 := fun y hy => by
 obtain ⟨x, _, hx⟩ := List.mem_flatMap.1 hy
 exact putN_bytes x.toNat x.toNat (Nat.le_refl _) y hx
theorem le4_bytes (n : Nat) : ∀ y ∈ le4 n, y < 256 := fun y hy => by
 simp only [le4, List.mem_cons, List.not_mem_nil, or_false] at hy
 omega
theorem frame_bytes {b : List Nat} (hb : ∀ y ∈ b, y < 256) : ∀ y ∈ frame b, y < 256 := fun y hy => by
 unfold frame at hy
 rcases List.mem_append.1 hy with hy | hy
 ·exact putN_bytes _ _ (Nat.le_refl _) y hy
 ·rcases List.mem_append.1 hy with hy | hy
  ·exact hb y hy
  ·exact le4_bytes _ y hy
theorem le4_len (n : Nat) : (le4 n).length = 4 := rfl
theorem le4_inj {a b : Nat} (ha : a < 4294967296) (hb : b < 4294967296) (h : le4 a = le4 b) : a = b := by
 simp only [le4, List.cons.injEq, and_true] at h
 omega
theorem unfr_at {b r : List Nat} {n : Nat} (hn : n ≤ 4000) (h : b = putN n ++ r) : getZ b 0 = some ((n : Int), (putN n).length) := by
 have h1 := getZ_put (b := b) (at_ := 0) (x := (n : Int)) (r := r) (by rw [Dz, show ((n : Int)).toNat = n by omega]; exact h) (by omega) (by omega)
 rw [show ((n : Int)).toNat = n by omega, Nat.zero_add] at h1
 exact h1
theorem unfr_eq {body c4 : List Nat} (hn : body.length ≤ 4000) (h4 : c4.length = 4) : unfr (putN body.length ++ (body ++ c4)) = if (c4 == le4 (crc body)) = true then (body, (putN body.length ++ (body ++ c4)).length, 0) else ([], 0, 3) := by
 have hl := putN_pos body.length
 have e1 : (putN body.length ++ (body ++ c4)).drop (putN body.length).length = body ++ c4 := List.drop_left
 have e2 : (putN body.length ++ (body ++ c4)).drop ((putN body.length).length + body.length) = c4 := by
  rw [← List.drop_drop, e1]; exact List.drop_left
 unfold unfr
 rw [unfr_at hn rfl]
 simp only
 rw [if_neg (by omega), if_neg (by simp only [List.length_append, h4]; omega), show ((body.length : Int)).toNat = body.length by omega, e1, e2]
 have e3 : (body ++ c4).take body.length = body := List.take_left
 have e4 : c4.take 4 = c4 := List.take_of_length_le (by omega)
 rw [e3, e4]
 split
 ·simp only [List.length_append, h4, Prod.mk.injEq, true_and, and_true]
  omega
 ·rfl
theorem unfr_frame {body : List Nat} (hn : body.length ≤ 4000) : unfr (frame body) = (body, (frame body).length, 0) := by
 unfold frame
 rw [unfr_eq hn (le4_len _), if_pos (by simp)]
theorem unfr_of {b body : List Nat} (hb : ∀ y ∈ b, y < 256) (h : unfr b = (body, b.length, 0)) : b = frame body ∧ body.length ≤ 4000 := by
 unfold unfr at h
 cases hz : getZ b 0 with
 | none => rw [hz] at h; simp at h
 | some p =>
  rw [hz] at h
  simp only at h
  split at h
  ·simp at h
  ·rename_i h40
   split at h
   ·simp at h
   ·rename_i hsh
    split at h
    ·rename_i hcr
     simp only [Prod.mk.injEq, and_true] at h
     obtain ⟨rfl, he⟩ := h
     obtain ⟨z1, z2, z3, z4, z5⟩ := getZ_of hb (x := p.1) (e := p.2) hz
     rw [Dz] at z1
     have hc := beq_iff_eq.1 hcr
     have hlb : ((b.drop p.2).take p.1.toNat).length = p.1.toNat := by rw [List.length_take, List.length_drop]; omega
     refine ⟨?_, by omega⟩
     unfold frame
     rw [hlb, ← hc]
     have e4 : (b.drop (p.2 + p.1.toNat)).take 4 = b.drop (p.2 + p.1.toNat) := List.take_of_length_le (by rw [List.length_drop]; omega)
     rw [e4, ← List.drop_drop, List.take_append_drop]
     exact z1
    ·simp at h
theorem unpack_pack {m : Mg} (h : iFits m = true) : unpackM (packM m) = (m, 0) := by
 obtain ⟨h1, h2⟩ := body_put h
 unfold unpackM packM
 rw [unfr_frame h2]
 simp [h1]
theorem pack_unpack {b : List Nat} (hb : ∀ y ∈ b, y < 256) {m : Mg} (h : unpackM b = (m, 0)) : b = packM m ∧ iFits m = true := by
 unfold unpackM at h
 split at h
 ·rename_i hc
  simp only [Bool.and_eq_true, beq_iff_eq] at hc
  have hu : unfr b = ((unfr b).1, b.length, 0) := by
   rw [← hc.1, ← hc.2]
  obtain ⟨h1, h2⟩ := unfr_of hb hu
  have hbb : ∀ y ∈ (unfr b).1, y < 256 := fun y hy => hb y (by
   rw [h1]
   unfold frame
   exact List.mem_append_right _ (List.mem_append_left _ hy))
  obtain ⟨k1, k2⟩ := body_of hbb h
  refine ⟨?_, k2⟩
  unfold packM
  rw [← k1]
  exact h1
 ·cases h
theorem set_right {α : Type} {a b : List α} {i : Nat} (h : a.length ≤ i) (x : α) : (a ++ b).set i x = a ++ b.set (i - a.length) x := by
 rw [List.set_append, if_neg (by omega)]
theorem set_left {α : Type} {a b : List α} {i : Nat} (h : i < a.length) (x : α) : (a ++ b).set i x = a.set i x ++ b := by
 rw [List.set_append, if_pos h]
theorem spoilt {body : List Nat} (hb : ∀ y ∈ body, y < 256) (hn : body.length ≤ 4000) {i y : Nat} (h0 : (putN body.length).length ≤ i) (h1 : i < (frame body).length) (hy : y < 256) (hne : ∀ h : i < (frame body).length, y ≠ (frame body)[i]) :
  unfr ((frame body).set i y) = ([], 0, 3) := by
 have hne := hne h1
 have hcl := crc_lt hb
 unfold frame at h1 hne ⊢
 obtain ⟨j, rfl⟩ : ∃ j, i = (putN body.length).length + j := ⟨i - (putN body.length).length, by omega⟩
 rw [List.getElem_append_right (by omega)] at hne
 rw [set_right (by omega), show (putN body.length).length + j - (putN body.length).length = j by omega]
 simp only [show (putN body.length).length + j - (putN body.length).length = j by omega] at hne
 simp only [List.length_append, le4_len] at h1
 by_cases hj : j < body.length
 ·rw [List.getElem_append_left hj] at hne
  rw [set_left hj]
  have hl : (body.set j y).length = body.length := List.length_set
  have h2 := unfr_eq (body := body.set j y) (c4 := le4 (crc body)) (by rw [hl]; exact hn) (le4_len _)
  rw [hl] at h2
  rw [h2, if_neg]
  rw [beq_iff_eq]
  intro he
  have hbs : ∀ z ∈ body.set j y, z < 256 := fun z hz => by
   rcases List.mem_or_eq_of_mem_set hz with hz | rfl
   ·exact hb z hz
   ·exact hy
  exact crc_turned hb hj hy hne (le4_inj (crc_lt hbs) hcl he.symm)
 ·rw [List.getElem_append_right (by omega)] at hne
  rw [set_right (by omega)]
  have hl4 : ((le4 (crc body)).set (j - body.length) y).length = 4 := by rw [List.length_set]; rfl
  rw [unfr_eq hn hl4, if_neg]
  rw [beq_iff_eq]
  intro he
  have h5 := congrArg (fun l => l[j - body.length]?) he
  have hk : j - body.length < (le4 (crc body)).length := by rw [le4_len]; omega
  simp only [List.getElem?_set, if_true, hk, List.getElem?_eq_getElem hk, Option.some.injEq] at h5
  exact hne h5
theorem unpack_spoilt {b : List Nat} (h : unfr b = ([], 0, 3)) : unpackM b = (Mg.z, 1) := by
 unfold unpackM
 rw [h]
 rfl
theorem rd_box {α : Type} {enc : α → List Value} {sz : Nat} {w : World} {p : Nat} {cs : Array Value} {e : TypeId} {l : List α} (h : w.heap[p]? = some (.cells cs e (0, 0))) (hlen : ∀ x, (enc x).length = sz) (hc : cs.toList = l.flatMap enc) (hm : l.length ≤ maxLen) : Rd enc sz w (some ⟨p, 0, none⟩) l.length l := by
 have hf := flat_length hlen l
 have hs : cs.size = l.length * sz := by rw [← Array.length_toList, hc, hf]
 have ho : Ow enc e sz w 0 (.slice (some ⟨p, 0, none⟩) l.length l.length) l := ⟨hf, .inr ⟨p, l.length, cs, rfl, Nat.zero_le _, h, Nat.le_refl _, hm, hs, by rw [List.take_of_length_le (by rw [Array.length_toList, hs]; exact Nat.le_refl _), hc]⟩⟩
 exact (ho.rd hlen).2
theorem le4_row {n : Nat} (h : n < 4294967296) : (#[Value.int .u8 ((n : Int) % 256), .int .u8 ((n : Int) / 256 % 256), .int .u8 ((n : Int) / 65536 % 256), .int .u8 ((n : Int) / 16777216)] : Array Value).toList = (le4 n).flatMap bEnc := by
 have e : ((n : Int) / 16777216) = (n : Int) / 16777216 % 256 := by omega
 rw [e]
 simp [le4, bEnc]
set_option maxRecDepth 100000 in
set_option maxHeartbeats 4000000 in
theorem c_sFrame (A : Option Addr) (c : Nat) (l : List Nat) (w : World) (hr : Rd bEnc 1 w A c l) (hb : Byt l) (hn : l.length ≤ 4000) : Calls Try.prog 32 #[.slice A l.length c] w fun e w' => (∃ A' c', e = .returned (.tuple #[.slice A' (frame l).length c', .bool true]) ∧ Ow bEnc 5 1 w' w.heap.size (.slice A' (frame l).length c') (frame l)) ∧ Ext w w' := by
 obtain ⟨i0, hi, hz0, hz1, hz2⟩ := info_parts Try.infoU8
 have hcl := crc_lt hb
 have HCr := Hd (c_sCrc A c l w hr hb (by omega))
 obtain ⟨n, hne⟩ : ∃ n, crc l = n := ⟨_, rfl⟩
 have HF := Hd (show (putN l.length ++ l) ++ le4 n = frame l by rw [← hne, List.append_assoc]; rfl)
 rw [hne] at HCr hcl
 have HR := Hd hr
 have g1 : decide ((4000 : Int) < (l.length : Int)) = false := by simp; omega
 clear hr hb hne
 go_enter Try.func32, Try.ntmps32
 go_wp2_with fail
 refine HCr.out.mono ?_
 rintro e w1 ⟨rfl, x1⟩
 clear HCr
 go_wp2_with fail
 refine (c_sPutNum l.length (by omega) w1).mono ?_
 rintro e w2 ⟨⟨A2, c2, rfl, o2⟩, x2⟩
 have h9 := putN_len9 (x := l.length) (by omega)
 have HO2 := Hd (o2.less (B' := w.heap.size) x1.size)
 have X2 := Ext.trans x1 x2
 have HR2 := Hd (HR.out.keep X2)
 have hs2 := X2.size
 clear o2 x1 x2 HR
 generalize hQ : putN l.length = Q at HO2 HF h9 ⊢
 go_wp2_with (at_builtin; refine wl_app (enc := bEnc) rfl _ _ 34 rfl w.heap.size 5 i0 (.int .u8 0) 1 1 Try.underlying34 hi hz0 hz1 hz2 rfl (by decide) bEnc_len bEnc_one (.slice A2 Q.length c2) Q rfl HO2.out A c l l.length rfl rfl HR2.out (by unfold maxLen; omega) (by omega) (by omega) ?_)
 intro v3 w3 o3 hg3
 have X3 := ext_app2 X2 hg3 HO2.out (Nat.le_refl _)
 have hl3 : (Q ++ l).length ≤ 4009 := by rw [List.length_append]; omega
 generalize hP : Q ++ l = P at o3 HF hl3
 obtain ⟨A3, c3, rfl⟩ := o3.form
 have HO3 := Hd o3
 have hs3 := X3.size
 clear hg3 HO2 HR2 o3 hs2 X2 hP
 have HL := Hd (le4_row hcl)
 go_wp2_with (at_builtin; refine wl_app (enc := bEnc) rfl _ _ 34 rfl w.heap.size 5 i0 (.int .u8 0) 1 1 Try.underlying34 hi hz0 hz1 hz2 rfl (by decide) bEnc_len bEnc_one (.slice A3 P.length c3) P rfl (HO3.out.kept (ext_alloc _ _)) (some ⟨w3.heap.size, 0, none⟩) 4 (le4 n) 4 rfl rfl (rd_box (hNew rfl) bEnc_len HL.out (by unfold maxLen; simp [le4])) (by unfold maxLen; simp [le4]; omega) (by simp [le4]; omega) (by simp; omega) ?_)
 intro v4 w4 o4 hg4
 have X4 := ext_app2 (ext_to X3 _) hg4 (HO3.out.kept (ext_alloc _ _)) (Nat.le_refl _)
 rw [HF.out] at o4
 obtain ⟨A4, c4, rfl⟩ := o4.form
 have HO4 := Hd o4
 clear hg4 o4 HO3 X3 HL
 go_wp2
 exact bodyPost_ret (v := .tuple #[.slice A4 (frame l).length c4, .bool true]) (by simp [results, Try.results32, go_sem]) rfl ⟨⟨A4, c4, rfl, HO4.out⟩, X4⟩
theorem wl_zeros {P : Program} {ops : Array Oper} {rest : List Oper} {o : Oper} {a : Act} {w : World} {Q : Exit → Act → World → Prop} (hgd : o.guard = none) (s x : Operand) (t tn : TypeId)
  (ho : o.op = .call { callee := .builtin .append, args := #[s, x], argTypes := #[t, tn] })
  (e : TypeId) (i : TypeInfo) (z : Value) (k kn : IntKind) (ht : P.underlying t = some (.slice e)) (htn : P.underlying tn = some (.int kn)) (hi : P.info? e = some i) (hz : i.zero = some z)
  (n : Nat) (h0 : 0 < n) (hs0 : 0 < i.size) (hn : n ≤ 1048576) (h48 : n * i.bytes ≤ 281474976710656) (hs : a.eval s = .slice none 0 0) (hx : a.eval x = .int k n)
  (h : ∀ G, n ≤ G → G ≤ maxLen → wpList P ops Q rest (a.put o.dst (.slice (some ⟨w.heap.size, 0, none⟩) n G)) (w.drew.alloc (.cells (Builtin.zeroCells z.cells n ++ Builtin.zeroCells z.cells (G - n)) e))) : wpList P ops Q (o :: rest) a w := by
 refine wpList_plain hgd fun _ hK => ?_
 have hrun := Go.Lib.run_append_nil_zeros (P := P) w t tn o.type e i z k kn ht htn hi hz n h0 hs0 (by omega) h48
 have hge := grownCap_ge w n 0 e
 have hcm : grownCap w n 0 e ≤ maxLen := grownCap_le_maxLen w n 0 e (by unfold maxLen; omega)
 generalize grownCap w n 0 e = G at hrun hge hcm
 unfold Oper.wp execOp
 simp only [ho, resolve, invoke, builtin, Sem.run_bind, Sem.run_pure, Result.andThen_ok, List.map_toArray, List.map_cons, List.map_nil, hs, hx, hrun]
 exact hK _ _ (h G hge hcm)
set_option maxRecDepth 100000 in
set_option maxHeartbeats 4000000 in
theorem c_growB (n : Nat) (h0 : 0 < n) (hn : n ≤ 1048576) (w : World) : Calls Try.prog 117 #[.slice none 0 0, .int .i64 n] w fun e w' => (∃ A c, e = .returned (.slice A 0 c) ∧ Ow bEnc 5 1 w' w.heap.size (.slice A 0 c) []) ∧ Ext w w' := by
 obtain ⟨i0, hi, hz0, hz1, hz2⟩ := info_parts Try.infoU8
 have g0 : decide ((n : Int) < 0) = false := by simp
 have g1 : decide ((0 : Int) < (n : Int)) = true := by simp; omega
 go_enter Try.func117, Try.ntmps117
 go_wp2_with (at_builtin; refine wl_zeros rfl _ _ 34 3 rfl 5 i0 (.int .u8 0) .i64 .i64 Try.underlying34 Try.underlying3 hi hz0 n h0 (by omega) (by omega) (by rw [hz2]; omega) rfl rfl ?_)
 intro G hG hGm
 have HO := Hd (show Ow bEnc 5 1 (w.drew.alloc (.cells (Builtin.zeroCells (Value.int .u8 0).cells n ++ Builtin.zeroCells (Value.int .u8 0).cells (G - n)) 5)) w.heap.size (.slice (some ⟨w.heap.size, 0, none⟩) 0 G) ([] : List Nat) from ⟨by simp, .inr ⟨w.heap.size, G, _, rfl, Nat.le_refl _, heap_alloc_new w.drew _, Nat.zero_le _, hGm, by simp only [Array.size_append, size_zeroCells]; show n * 1 + (G - n) * 1 = G * 1; omega, by simp⟩⟩)
 go_wp2
 go_ret
 exact ⟨⟨_, G, rfl, HO.out⟩, ext_drew (ext_alloc _ _)⟩
abbrev SlB := (Option Addr × Nat) × List Nat
def slE (p : SlB) : List Value := [.slice p.1.1 p.2.length p.1.2]
theorem slE_len (p : SlB) : (slE p).length = 1 := rfl
def catL (ps : List SlB) : List Nat := ps.flatMap (·.2)
theorem catL_next {ps : List SlB} {k : Nat} (hk : k < ps.length) : catL (ps.take (k + 1)) = catL (ps.take k) ++ ps[k].2 := by
 unfold catL
 rw [List.take_succ_eq_append_getElem hk, List.flatMap_append, List.flatMap_cons, List.flatMap_nil, List.append_nil]
theorem catL_le (ps : List SlB) (k : Nat) : (catL (ps.take k)).length ≤ (catL ps).length := by
 have h : catL ps = catL (ps.take k) ++ catL (ps.drop k) := by
  unfold catL
  rw [← List.flatMap_append, List.take_append_drop]
 rw [h, List.length_append]
 omega
theorem Rd.atS {w : World} {A : Option Addr} {c : Nat} {l : List SlB} (h : Rd slE 1 w A c l) {k : Nat} (hk : k < l.length) : ∃ b o, A = some ⟨b, o, none⟩ ∧ b < w.heap.size ∧ w.cell? ⟨b, o + k, none⟩ = some (.slice l[k].1.1 l[k].2.length l[k].1.2) := by
 obtain ⟨b, o, e, hlt, hc⟩ := h.2.2 (by omega)
 exact ⟨b, o, e, hlt, by simpa using hc k hk 0 _ rfl⟩
set_option maxRecDepth 100000 in
set_option maxHeartbeats 4000000 in
theorem c_concatB (A : Option Addr) (c : Nat) (ps : List SlB) (w : World) (hr : Rd slE 1 w A c ps) (hb : ∀ p ∈ ps, Rd bEnc 1 w p.1.1 p.1.2 p.2) (hpos : 0 < (catL ps).length) (hn : (catL ps).length ≤ 1000000) (hm : ps.length ≤ 1000) : Calls Try.prog 82 #[.slice A ps.length c] w fun e w' => (∃ A' c', e = .returned (.slice A' (catL ps).length c') ∧ Ow bEnc 5 1 w' w.heap.size (.slice A' (catL ps).length c') (catL ps)) ∧ Ext w w' := by
 obtain ⟨i0, hi, hz0, hz1, hz2⟩ := info_parts Try.infoU8
 have HR := Hd hr
 have HB := Hd hb
 clear hr hb
 go_enter Try.func82, Try.ntmps82
 go_wp2
 go_loop [3, 5, 11] (fun z _ i => ∃ k : Nat, k ≤ ps.length ∧ i = .int .i64 k ∧ z = .int .i64 ((catL (ps.take k)).length : Nat)) (fun _ _ i => ps.length - (intOf i).toNat)
 case atStart => exact ⟨0, Nat.zero_le _, rfl, rfl⟩
 case round =>
  obtain ⟨k, hk, rfl, rfl⟩ := hrel
  have hle := catL_le ps k
  by_cases hlt : k < ps.length
  ·obtain ⟨zb, zo, hA, hzb, z0⟩ := HR.out.atS hlt
   subst hA
   have hle2 := catL_le ps (k + 1)
   have hnx := congrArg List.length (catL_next hlt)
   rw [List.length_append] at hnx
   have HN := Hd hnx
   have hsum : (catL (ps.take k)).length + ps[k].2.length ≤ 1000000 := by omega
   have hneg : decide (((catL (ps.take k)).length : Int) + (ps[k].2.length : Int) < 0) = false := by simp; omega
   clear hnx hle2
   go_wp2
   go_round
   case rel => exact ⟨k + 1, by omega, by go_num, by rw [HN.out]; go_num⟩
   case measure => simp [intOf] <;> omega
  ·obtain rfl : k = ps.length := by omega
   rw [List.take_length]
   clear hle
   go_wp2_with fail
   refine (c_growB (catL ps).length hpos (by omega) w).mono ?_
   rintro e w1 ⟨⟨A1, c1, rfl, o1⟩, x1⟩
   have HO1 := Hd o1
   clear o1
   go_wp2
   go_loopw [6, 8, 27] (fun o _ i wr => ∃ k : Nat, k ≤ ps.length ∧ i = .int .i64 k ∧ Ow bEnc 5 1 wr w.heap.size o (catL (ps.take k)) ∧ Ext w wr) (fun _ _ i _ => ps.length - (intOf i).toNat)
   case atStart => exact ⟨0, Nat.zero_le _, rfl, HO1.out, x1⟩
   case round =>
    clear HO1 x1
    obtain ⟨k, hk, rfl, ho, X⟩ := hrel
    obtain ⟨Ao, co, rfl⟩ := ho.form
    have HO := Hd ho
    have hs := X.size
    have hle := catL_le ps k
    clear ho
    by_cases hlt : k < ps.length
    ·obtain ⟨zb, zo, hA, hzb, z0⟩ := (HR.out.keep X).atS hlt
     have hle2 := catL_le ps (k + 1)
     have HN := Hd (catL_next hlt)
     rw [HN.out, List.length_append] at hle2
     have HP := Hd ((HB.out ps[k] (List.getElem_mem hlt)).keep X)
     subst hA
     generalize hP : catL (ps.take k) = P at HO HN hle hle2 ⊢
     go_wp2_with (at_builtin; refine wl_app (enc := bEnc) rfl _ _ 34 rfl w.heap.size 5 i0 (.int .u8 0) 1 1 Try.underlying34 hi hz0 hz1 hz2 rfl (by decide) bEnc_len bEnc_one (.slice Ao P.length co) P rfl HO.out ps[k].1.1 ps[k].1.2 ps[k].2 ps[k].2.length rfl rfl HP.out (by unfold maxLen; omega) (by omega) hs ?_)
     intro v' w4 ho4 hg4
     have X4 := ext_app2 X hg4 HO.out (Nat.le_refl _)
     clear hg4 HO z0 X HP
     go_wp2
     go_roundw
     case rel => exact ⟨k + 1, by omega, by go_num, by rw [HN.out]; exact ho4, X4⟩
     case measure => simp [intOf] <;> omega
    ·obtain rfl : k = ps.length := by omega
     rw [List.take_length] at HO ⊢
     go_wp2
     go_ret
     exact ⟨⟨Ao, co, rfl, HO.out⟩, X⟩
set_option maxRecDepth 100000 in
set_option maxHeartbeats 4000000 in
theorem c_iFrame (A : Option Addr) (c : Nat) (l : List Nat) (w : World) (hr : Rd bEnc 1 w A c l) (hb : Byt l) (hn : l.length ≤ 4000) : Calls Try.prog 41 #[.slice A l.length c] w fun e w' => (∃ A' c', e = .returned (.tuple #[.slice A' (frame l).length c', .bool true]) ∧ Ow bEnc 5 1 w' w.heap.size (.slice A' (frame l).length c') (frame l)) ∧ Ext w w' := by
 have hcl := crc_lt hb
 have HCr := Hd (c_iCrc A c l w hr hb (by omega))
 obtain ⟨n, hne⟩ : ∃ n, crc l = n := ⟨_, rfl⟩
 have HF := Hd (show putN l.length ++ (l ++ le4 n) = frame l by rw [← hne]; rfl)
 rw [hne] at HCr hcl
 have HR := Hd hr
 have HL := Hd (le4_row hcl)
 have g1 : decide ((4000 : Int) < (l.length : Int)) = false := by simp; omega
 clear hr hb hne
 go_enter Try.func41, Try.ntmps41
 go_wp2_with fail
 refine HCr.out.mono ?_
 rintro e w1 ⟨rfl, x1⟩
 clear HCr
 go_wp2_with fail
 refine (c_iPutNum l.length (by omega) w1).mono ?_
 rintro e w2 ⟨⟨A2, c2, rfl, o2⟩, x2⟩
 have h9 := putN_len9 (x := l.length) (by omega)
 have h0 := putN_pos l.length
 have HO2 := Hd (o2.rd bEnc_len).2
 have X2 := Ext.trans x1 x2
 have HR2 := Hd (HR.out.keep X2)
 have hs2 := X2.size
 clear o2 x1 x2 HR
 generalize hQ : putN l.length = Q at HO2 HF h9 h0 ⊢
 have x3 := ext_alloc w2 (.cells #[.int .u8 ((n : Int) % 256), .int .u8 ((n : Int) / 256 % 256), .int .u8 ((n : Int) / 65536 % 256), .int .u8 ((n : Int) / 16777216)] 5)
 have R3 := rd_box (l := le4 n) (hNew (w := w2) (o := .cells #[.int .u8 ((n : Int) % 256), .int .u8 ((n : Int) / 256 % 256), .int .u8 ((n : Int) / 65536 % 256), .int .u8 ((n : Int) / 16777216)] 5) rfl) bEnc_len HL.out (by unfold maxLen; simp [le4])
 obtain ⟨W3, hW3⟩ : ∃ W3, w2.alloc (.cells #[.int .u8 ((n : Int) % 256), .int .u8 ((n : Int) / 256 % 256), .int .u8 ((n : Int) / 65536 % 256), .int .u8 ((n : Int) / 16777216)] 5) = W3 := ⟨_, rfl⟩
 rw [hW3] at x3 R3
 have hs3 : W3.heap.size = w2.heap.size + 1 := by rw [← hW3]; simp
 have x4 := ext_alloc W3 (.cells #[.slice A2 Q.length c2, .slice A l.length c, .slice (some ⟨w2.heap.size, 0, none⟩) 4 4] 34)
 have hE4 := hNew (w := W3) (o := .cells #[.slice A2 Q.length c2, .slice A l.length c, .slice (some ⟨w2.heap.size, 0, none⟩) 4 4] 34) rfl
 have hcat : catL [((A2, c2), Q), ((A, c), l), ((some ⟨w2.heap.size, 0, none⟩, 4), le4 n)] = Q ++ (l ++ le4 n) := by simp [catL]
 have HCon := Hd (c_concatB (some ⟨W3.heap.size, 0, none⟩) 3 [((A2, c2), Q), ((A, c), l), ((some ⟨w2.heap.size, 0, none⟩, 4), le4 n)] (W3.alloc (.cells #[.slice A2 Q.length c2, .slice A l.length c, .slice (some ⟨w2.heap.size, 0, none⟩) 4 4] 34)) (rd_box hE4 slE_len rfl (by unfold maxLen; simp)) (fun p hp => by
  simp only [List.mem_cons, List.not_mem_nil, or_false] at hp
  rcases hp with rfl | rfl | rfl
  ·exact (HO2.out.keep x3).keep x4
  ·exact (HR2.out.keep x3).keep x4
  ·exact R3.keep x4) (by rw [hcat, List.length_append]; omega) (by rw [hcat]; simp [le4]; omega) (by simp))
 rw [hcat, HF.out, hs3] at HCon
 have X4 := Ext.trans X2 (Ext.trans x3 x4)
 subst hW3
 clear HO2 HR2 x3 x4 R3 hE4 hcat
 go_wp2_with fail
 refine HCon.out.mono ?_
 rintro e w5 ⟨⟨A5, c5, rfl, o5⟩, x5⟩
 have HO5 := Hd (o5.less (B' := w.heap.size) (by simp; omega))
 clear o5 HCon
 go_wp2
 exact bodyPost_ret (v := .tuple #[.slice A5 (frame l).length c5, .bool true]) (by simp [results, Try.results41, go_sem]) rfl ⟨⟨A5, c5, rfl, HO5.out⟩, Ext.trans X4 x5⟩
end Go.Proofs.Ytpghedeghoegmaa
