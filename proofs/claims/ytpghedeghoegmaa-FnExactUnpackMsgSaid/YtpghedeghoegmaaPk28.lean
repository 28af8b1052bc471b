/- Frames: Frame of the reference and of the program. -/
import Derived.Test.YtpghedeghoegmaaPk20
import Derived.Lib.AppendZeros
import Derived.Test.YtpghedeghoegmaaPk27
import Derived.Test.YtpghedeghoegmaaPk23
namespace Go.Proofs.Ytpghedeghoegmaa
open Go.ChangeShapes Go.WideShapes Go.ChangeAt Go.RowKit Go.Sort
set_option linter.unusedVariables false
set_option linter.unusedSimpArgs false

theorem rd_box {α : Type} {enc : α → List Value} {sz : Nat} {w : World} {p : Nat} {cs : Array Value} {e : TypeId} {l : List α} (h : w.heap[p]? = some (.cells cs e (0, 0))) (hlen : ∀ x, (enc x).length = sz) (hc : cs.toList = l.flatMap enc) (hm : l.length ≤ maxLen) : Rd enc sz w (some ⟨p, 0, none⟩) l.length l := by
  have hf := flat_length hlen l
  have hs : cs.size = l.length * sz := by rw [← Array.length_toList, hc, hf]
  have ho : Ow enc e sz w 0 (.slice (some ⟨p, 0, none⟩) l.length l.length) l := ⟨hf, .inr ⟨p, l.length, cs, rfl, Nat.zero_le _, h, Nat.le_refl _, hm, hs, by rw [List.take_of_length_le (by rw [Array.length_toList, hs]; exact Nat.le_refl _), hc]⟩⟩
  exact (ho.rd hlen).2
theorem le4_row {n : Nat} (h : n < 4294967296) : (#[Value.int .u8 ((n : Int) % 256), .int .u8 ((n : Int) / 256 % 256), .int .u8 ((n : Int) / 65536 % 256), .int .u8 ((n : Int) / 16777216)] : Array Value).toList = (le4 n).flatMap bEnc := by
  have e : ((n : Int) / 16777216) = (n : Int) / 16777216 % 256 := by omega
  rw [e]
  simp [le4, bEnc]

/-- append of so many zeros to nothing -/
theorem wl_zeros {P : Program} {ops : Array Oper} {rest : List Oper} {o : Oper} {a : Act} {w : World} {Q : Exit → Act → World → Prop} (hgd : o.guard = none) (s x : Operand) (t tn : TypeId)
    (ho : o.op = .call { callee := .builtin .append, args := #[s, x], argTypes := #[t, tn] })
    (e : TypeId) (i : TypeInfo) (z : Value) (k kn : IntKind) (ht : P.underlying t = some (.slice e)) (htn : P.underlying tn = some (.int kn)) (hi : P.info? e = some i) (hz : i.zero = some z)
    (n : Nat) (h0 : 0 < n) (hs0 : 0 < i.size) (hn : n ≤ 1048576) (h48 : n * i.bytes ≤ 281474976710656) (hs : a.eval s = .slice none 0 0) (hx : a.eval x = .int k n)
    (h : ∀ G, n ≤ G → G ≤ maxLen → wpList P ops Q rest (a.put o.dst (.slice (some ⟨w.heap.size, 0, none⟩) n G)) (w.drew.alloc (.cells (Builtin.zeroCells z.cells n ++ Builtin.zeroCells z.cells (G - n)) e))) : wpList P ops Q (o :: rest) a w := by
  refine wpList_plain hgd fun _ hK => ?_
  have hrun := Go.Lib.run_append_nil_zeros (P := P) w t tn o.type e i z k kn ht htn hi hz n h0 hs0 (by omega) h48
  have hge := grownCap_ge w n 0 e
  have hcm : grownCap w n 0 e ≤ maxLen := grownCap_le_maxLen w n 0 e (by unfold maxLen; omega)
  generalize grownCap w n 0 e = G at hrun hge hcm
  unfold Oper.wp execOp
  simp only [ho, resolve, invoke, builtin, Sem.run_bind, Sem.run_pure, Result.andThen_ok, List.map_toArray, List.map_cons, List.map_nil, hs, hx, hrun]
  exact hK _ _ (h G hge hcm)
set_option maxRecDepth 100000 in
set_option maxHeartbeats 4000000 in
theorem c_growB (n : Nat) (h0 : 0 < n) (hn : n ≤ 1048576) (w : World) : Calls Try.prog 117 #[.slice none 0 0, .int .i64 n] w fun e w' => (∃ A c, e = .returned (.slice A 0 c) ∧ Ow bEnc 5 1 w' w.heap.size (.slice A 0 c) []) ∧ Ext w w' := by
  obtain ⟨i0, hi, hz0, hz1, hz2⟩ := info_parts Try.infoU8
  have g0 : decide ((n : Int) < 0) = false := by simp
  have g1 : decide ((0 : Int) < (n : Int)) = true := by simp; omega
  go_enter Try.func117, Try.ntmps117
  go_wp2_with (at_builtin; refine wl_zeros rfl _ _ 34 3 rfl 5 i0 (.int .u8 0) .i64 .i64 Try.underlying34 Try.underlying3 hi hz0 n h0 (by omega) (by omega) (by rw [hz2]; omega) rfl rfl ?_)
  intro G hG hGm
  have HO := Lib.hid (show Ow bEnc 5 1 (w.drew.alloc (.cells (Builtin.zeroCells (Value.int .u8 0).cells n ++ Builtin.zeroCells (Value.int .u8 0).cells (G - n)) 5)) w.heap.size (.slice (some ⟨w.heap.size, 0, none⟩) 0 G) ([] : List Nat) from ⟨by simp, .inr ⟨w.heap.size, G, _, rfl, Nat.le_refl _, heap_alloc_new w.drew _, Nat.zero_le _, hGm, by simp only [Array.size_append, size_zeroCells]; show n * 1 + (G - n) * 1 = G * 1; omega, by simp⟩⟩)
  go_wp2
  go_ret
  exact ⟨⟨_, G, rfl, HO.out⟩, ext_drew (ext_alloc _ _)⟩

/-- slices of bytes, one behind the other -/
abbrev SlB := (Option Addr × Nat) × List Nat
def slE (p : SlB) : List Value := [.slice p.1.1 p.2.length p.1.2]
theorem slE_len (p : SlB) : (slE p).length = 1 := rfl
def catL (ps : List SlB) : List Nat := ps.flatMap (·.2)
theorem catL_next {ps : List SlB} {k : Nat} (hk : k < ps.length) : catL (ps.take (k + 1)) = catL (ps.take k) ++ ps[k].2 := by
  unfold catL
  rw [List.take_succ_eq_append_getElem hk, List.flatMap_append, List.flatMap_cons, List.flatMap_nil, List.append_nil]
theorem catL_le (ps : List SlB) (k : Nat) : (catL (ps.take k)).length ≤ (catL ps).length := by
  have h : catL ps = catL (ps.take k) ++ catL (ps.drop k) := by
    unfold catL
    rw [← List.flatMap_append, List.take_append_drop]
  rw [h, List.length_append]
  omega
theorem Rd.atS {w : World} {A : Option Addr} {c : Nat} {l : List SlB} (h : Rd slE 1 w A c l) {k : Nat} (hk : k < l.length) : ∃ b o, A = some ⟨b, o, none⟩ ∧ b < w.heap.size ∧ w.cell? ⟨b, o + k, none⟩ = some (.slice l[k].1.1 l[k].2.length l[k].1.2) := by
  obtain ⟨b, o, e, hlt, hc⟩ := h.2.2 (by omega)
  exact ⟨b, o, e, hlt, by simpa using hc k hk 0 _ rfl⟩

set_option maxRecDepth 100000 in
set_option maxHeartbeats 4000000 in
theorem c_concatB (A : Option Addr) (c : Nat) (ps : List SlB) (w : World) (hr : Rd slE 1 w A c ps) (hb : ∀ p ∈ ps, Rd bEnc 1 w p.1.1 p.1.2 p.2) (hpos : 0 < (catL ps).length) (hn : (catL ps).length ≤ 1000000) (hm : ps.length ≤ 1000) : Calls Try.prog 82 #[.slice A ps.length c] w fun e w' => (∃ A' c', e = .returned (.slice A' (catL ps).length c') ∧ Ow bEnc 5 1 w' w.heap.size (.slice A' (catL ps).length c') (catL ps)) ∧ Ext w w' := by
  obtain ⟨i0, hi, hz0, hz1, hz2⟩ := info_parts Try.infoU8
  have HR := Lib.hid hr
  have HB := Lib.hid hb
  clear hr hb
  go_enter Try.func82, Try.ntmps82
  go_wp2
  go_loop [3, 5, 11] (fun z _ i => ∃ k : Nat, k ≤ ps.length ∧ i = .int .i64 k ∧ z = .int .i64 ((catL (ps.take k)).length : Nat)) (fun _ _ i => ps.length - (intOf i).toNat)
  case atStart => exact ⟨0, Nat.zero_le _, rfl, rfl⟩
  case round =>
    obtain ⟨k, hk, rfl, rfl⟩ := hrel
    have hle := catL_le ps k
    by_cases hlt : k < ps.length
    · obtain ⟨zb, zo, hA, hzb, z0⟩ := HR.out.atS hlt
      subst hA
      have hle2 := catL_le ps (k + 1)
      have hnx := congrArg List.length (catL_next hlt)
      rw [List.length_append] at hnx
      have HN := Lib.hid hnx
      have hsum : (catL (ps.take k)).length + ps[k].2.length ≤ 1000000 := by omega
      have hneg : decide (((catL (ps.take k)).length : Int) + (ps[k].2.length : Int) < 0) = false := by simp; omega
      clear hnx hle2
      go_wp2
      go_round
      case rel => exact ⟨k + 1, by omega, by go_num, by rw [HN.out]; go_num⟩
      case measure => simp [intOf] <;> omega
    · obtain rfl : k = ps.length := by omega
      rw [List.take_length]
      clear hle
      go_wp2_with fail
      refine (c_growB (catL ps).length hpos (by omega) w).mono ?_
      rintro e w1 ⟨⟨A1, c1, rfl, o1⟩, x1⟩
      have HO1 := Lib.hid o1
      clear o1
      go_wp2
      go_loopw [6, 8, 27] (fun o _ i wr => ∃ k : Nat, k ≤ ps.length ∧ i = .int .i64 k ∧ Ow bEnc 5 1 wr w.heap.size o (catL (ps.take k)) ∧ Ext w wr) (fun _ _ i _ => ps.length - (intOf i).toNat)
      case atStart => exact ⟨0, Nat.zero_le _, rfl, HO1.out, x1⟩
      case round =>
        clear HO1 x1
        obtain ⟨k, hk, rfl, ho, X⟩ := hrel
        obtain ⟨Ao, co, rfl⟩ := ho.form
        have HO := Lib.hid ho
        have hs := X.size
        have hle := catL_le ps k
        clear ho
        by_cases hlt : k < ps.length
        · obtain ⟨zb, zo, hA, hzb, z0⟩ := (HR.out.keep X).atS hlt
          have hle2 := catL_le ps (k + 1)
          have HN := Lib.hid (catL_next hlt)
          rw [HN.out, List.length_append] at hle2
          have HP := Lib.hid ((HB.out ps[k] (List.getElem_mem hlt)).keep X)
          subst hA
          generalize hP : catL (ps.take k) = P at HO HN hle hle2 ⊢
          go_wp2_with (at_builtin; refine wl_app (enc := bEnc) rfl _ _ 34 rfl w.heap.size 5 i0 (.int .u8 0) 1 1 Try.underlying34 hi hz0 hz1 hz2 rfl (by decide) bEnc_len bEnc_one (.slice Ao P.length co) P rfl HO.out ps[k].1.1 ps[k].1.2 ps[k].2 ps[k].2.length rfl rfl HP.out (by unfold maxLen; omega) (by omega) hs ?_)
          intro v' w4 ho4 hg4
          have X4 := ext_app2 X hg4 HO.out (Nat.le_refl _)
          clear hg4 HO z0 X HP
          go_wp2
          go_roundw
          case rel => exact ⟨k + 1, by omega, by go_num, by rw [HN.out]; exact ho4, X4⟩
          case measure => simp [intOf] <;> omega
        · obtain rfl : k = ps.length := by omega
          rw [List.take_length] at HO ⊢
          go_wp2
          go_ret
          exact ⟨⟨Ao, co, rfl, HO.out⟩, X⟩

set_option maxRecDepth 100000 in
set_option maxHeartbeats 4000000 in
theorem c_iFrame (A : Option Addr) (c : Nat) (l : List Nat) (w : World) (hr : Rd bEnc 1 w A c l) (hb : Byt l) (hn : l.length ≤ 4000) : Calls Try.prog 41 #[.slice A l.length c] w fun e w' => (∃ A' c', e = .returned (.tuple #[.slice A' (frame l).length c', .bool true]) ∧ Ow bEnc 5 1 w' w.heap.size (.slice A' (frame l).length c') (frame l)) ∧ Ext w w' := by
  have hcl := crc_lt hb
  have HCr := Lib.hid (c_iCrc A c l w hr hb (by omega))
  obtain ⟨n, hne⟩ : ∃ n, crc l = n := ⟨_, rfl⟩
  have HF := Lib.hid (show putN l.length ++ (l ++ le4 n) = frame l by rw [← hne]; rfl)
  rw [hne] at HCr hcl
  have HR := Lib.hid hr
  have HL := Lib.hid (le4_row hcl)
  have g1 : decide ((4000 : Int) < (l.length : Int)) = false := by simp; omega
  clear hr hb hne
  go_enter Try.func41, Try.ntmps41
  go_wp2_with fail
  refine HCr.out.mono ?_
  rintro e w1 ⟨rfl, x1⟩
  clear HCr
  go_wp2_with fail
  refine (c_iPutNum l.length (by omega) w1).mono ?_
  rintro e w2 ⟨⟨A2, c2, rfl, o2⟩, x2⟩
  have h9 := putN_len9 (x := l.length) (by omega)
  have h0 := putN_pos l.length
  have HO2 := Lib.hid (o2.rd bEnc_len).2
  have X2 := Ext.trans x1 x2
  have HR2 := Lib.hid (HR.out.keep X2)
  have hs2 := X2.size
  clear o2 x1 x2 HR
  generalize hQ : putN l.length = Q at HO2 HF h9 h0 ⊢
  have x3 := ext_alloc w2 (.cells #[.int .u8 ((n : Int) % 256), .int .u8 ((n : Int) / 256 % 256), .int .u8 ((n : Int) / 65536 % 256), .int .u8 ((n : Int) / 16777216)] 5)
  have R3 := rd_box (l := le4 n) (hNew (w := w2) (o := .cells #[.int .u8 ((n : Int) % 256), .int .u8 ((n : Int) / 256 % 256), .int .u8 ((n : Int) / 65536 % 256), .int .u8 ((n : Int) / 16777216)] 5) rfl) bEnc_len HL.out (by unfold maxLen; simp [le4])
  obtain ⟨W3, hW3⟩ : ∃ W3, w2.alloc (.cells #[.int .u8 ((n : Int) % 256), .int .u8 ((n : Int) / 256 % 256), .int .u8 ((n : Int) / 65536 % 256), .int .u8 ((n : Int) / 16777216)] 5) = W3 := ⟨_, rfl⟩
  rw [hW3] at x3 R3
  have hs3 : W3.heap.size = w2.heap.size + 1 := by rw [← hW3]; simp
  have x4 := ext_alloc W3 (.cells #[.slice A2 Q.length c2, .slice A l.length c, .slice (some ⟨w2.heap.size, 0, none⟩) 4 4] 34)
  have hE4 := hNew (w := W3) (o := .cells #[.slice A2 Q.length c2, .slice A l.length c, .slice (some ⟨w2.heap.size, 0, none⟩) 4 4] 34) rfl
  have hcat : catL [((A2, c2), Q), ((A, c), l), ((some ⟨w2.heap.size, 0, none⟩, 4), le4 n)] = Q ++ (l ++ le4 n) := by simp [catL]
  have HCon := Lib.hid (c_concatB (some ⟨W3.heap.size, 0, none⟩) 3 [((A2, c2), Q), ((A, c), l), ((some ⟨w2.heap.size, 0, none⟩, 4), le4 n)] (W3.alloc (.cells #[.slice A2 Q.length c2, .slice A l.length c, .slice (some ⟨w2.heap.size, 0, none⟩) 4 4] 34)) (rd_box hE4 slE_len rfl (by unfold maxLen; simp)) (fun p hp => by
    simp only [List.mem_cons, List.not_mem_nil, or_false] at hp
    rcases hp with rfl | rfl | rfl
    · exact (HO2.out.keep x3).keep x4
    · exact (HR2.out.keep x3).keep x4
    · exact R3.keep x4) (by rw [hcat, List.length_append]; omega) (by rw [hcat]; simp [le4]; omega) (by simp))
  rw [hcat, HF.out, hs3] at HCon
  have X4 := Ext.trans X2 (Ext.trans x3 x4)
  subst hW3
  clear HO2 HR2 x3 x4 R3 hE4 hcat
  go_wp2_with fail
  refine HCon.out.mono ?_
  rintro e w5 ⟨⟨A5, c5, rfl, o5⟩, x5⟩
  have HO5 := Lib.hid (o5.less (B' := w.heap.size) (by simp; omega))
  clear o5 HCon
  go_wp2
  exact bodyPost_ret (v := .tuple #[.slice A5 (frame l).length c5, .bool true]) (by simp [results, Try.results41, go_sem]) rfl ⟨⟨A5, c5, rfl, HO5.out⟩, Ext.trans X4 x5⟩
end Go.Proofs.Ytpghedeghoegmaa

/- Messages as bytes: PackMsg of the reference and of the program. -/
namespace Go.Proofs.Ytpghedeghoegmaa
open Go.ChangeShapes Go.WideShapes Go.ChangeAt Go.RowKit Go.Sort
set_option linter.unusedVariables false
set_option linter.unusedSimpArgs false

/-- the program's letter for the reference's -/
def sMap (c : Nat) : Nat := if c = 102 then 70 else if c = 118 then 86 else if c = 111 then 79 else if c = 99 then 67 else if c = 110 then 78 else if c = 107 then 110 else if c = 67 then 99 else if c = 82 then 114 else if c = 65 then 65 else if c = 100 then 120 else 76
def SL : List Nat := [102, 118, 111, 99, 110, 107, 67, 82, 65, 100, 108]
def IL : List Nat := [70, 86, 79, 67, 78, 110, 99, 114, 65, 120, 76]
def SForm (f : ByteArray) (k : Int) : Prop := f.size = (formL k).length ∧ f.size ≤ 100 ∧ ∀ (i : Nat) (h : i < f.size), f[i].toNat ∈ SL ∧ (formL k)[i]? = some (sMap f[i].toNat)
def IForm (f : ByteArray) (k : Int) : Prop := f.size = (formL k).length ∧ f.size ≤ 100 ∧ ∀ (i : Nat) (h : i < f.size), f[i].toNat ∈ IL ∧ (formL k)[i]? = some f[i].toNat
instance (f : ByteArray) (k : Int) : Decidable (SForm f k) := inferInstanceAs (Decidable (_ ∧ _ ∧ ∀ (i : Nat) (h : i < f.size), _))
instance (f : ByteArray) (k : Int) : Decidable (IForm f k) := inferInstanceAs (Decidable (_ ∧ _ ∧ ∀ (i : Nat) (h : i < f.size), _))
end Go.Proofs.Ytpghedeghoegmaa

