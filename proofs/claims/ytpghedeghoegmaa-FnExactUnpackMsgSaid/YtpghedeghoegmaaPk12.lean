/- A log held against the zero log: of the reference and of the program. -/
import Derived.Test.YtpghedeghoegmaaPk11
import Derived.Test.YtpghedeghoegmaaPk7
namespace Go.Proofs.Ytpghedeghoegmaa
open Go.ChangeShapes Go.WideShapes Go.ChangeAt Go.RowKit Go.Sort
set_option linter.unusedVariables false
set_option linter.unusedSimpArgs false

/-- the zero log -/
def isZ (l : Lg) : Bool := (l.base == 0) && ((l.cells.length == 0) && (l.seats.length == 0)) && (l.ents.length == 0)
theorem isZ_eq {l : Lg} (h : isZ l = true) : l = Lg.none := by
  obtain ⟨b, c, s, e⟩ := l
  simp [isZ] at h
  obtain ⟨⟨rfl, rfl, rfl⟩, rfl⟩ := h
  rfl
abbrev zimg : Value := .agg #[.slice none 0 0, .slice none 0 0]
abbrev zlog : Value := .agg #[.int .i64 0, .slice none 0 0, .slice none 0 0, .slice none 0 0]
set_option maxHeartbeats 2000000 in
theorem c_sSameImage0 (cA : Option Addr) (n cc : Nat) (sA : Option Addr) (m sc : Nat) (w : World) (hn : n ≤ 1048576) (hm : m ≤ 1048576) :
    Calls Try.prog 99 #[.agg #[.slice cA n cc, .slice sA m sc], zimg] w fun e w' => e = .returned (.bool ((n == 0) && (m == 0))) ∧ Ext w w' := by
  have X0 : Ext w ((w.alloc (.cells #[.slice cA n cc, .slice sA m sc] 41)).alloc (.cells #[.slice none 0 0, .slice none 0 0] 41)) := ext_to (ext_alloc _ _) _
  by_cases h1 : n = 0
  · by_cases h2 : m = 0
    · subst h1 h2
      go_enter Try.func99, Try.ntmps99
      go_wp2
      go_loopw [5] (fun i wr => i = .int .i64 0 ∧ Ext ((w.alloc (.cells #[.slice cA 0 cc, .slice sA 0 sc] 41)).alloc (.cells #[.slice none 0 0, .slice none 0 0] 41)) wr) (fun _ _ => 0)
      case atStart => exact ⟨rfl, ext_refl _⟩
      case round =>
        obtain ⟨rfl, hx⟩ := hrel
        have b1 := bx_cell (hx.box (hOld (o := .cells #[.slice none 0 0, .slice none 0 0] 41) (hNew (w := w) (o := .cells #[.slice cA 0 cc, .slice sA 0 sc] 41) rfl)))
        go_wp2
        go_loopw [6] (fun i wr => i = .int .i64 0 ∧ Ext ((w.alloc (.cells #[.slice cA 0 cc, .slice sA 0 sc] 41)).alloc (.cells #[.slice none 0 0, .slice none 0 0] 41)) wr) (fun _ _ => 0)
        case atStart => exact ⟨rfl, hx⟩
        case round =>
          clear b1 hx
          obtain ⟨rfl, hx⟩ := hrel
          have b1 := bx_cell (hx.box (hOld (o := .cells #[.slice none 0 0, .slice none 0 0] 41) (hNew (w := w) (o := .cells #[.slice cA 0 cc, .slice sA 0 sc] 41) rfl)))
          go_wp2
          go_ret
          exact ⟨rfl, Ext.trans X0 hx⟩
    · subst h1
      have g2 : ((m : Int) != 0) = true := by simp [bne]; omega
      have hv : false = ((0 == 0) && (m == 0)) := by simp [h2]
      have HV := Lib.hid hv
      clear h2 hv
      go_enter Try.func99, Try.ntmps99
      go_wp2
      go_ret
      exact ⟨ret_bool HV.out, X0⟩
  · have g2 : ((n : Int) != 0) = true := by simp [bne]; omega
    have hv : false = ((n == 0) && (m == 0)) := by simp [h1]
    have HV := Lib.hid hv
    clear h1 hv
    go_enter Try.func99, Try.ntmps99
    go_wp2
    go_ret
    exact ⟨ret_bool HV.out, X0⟩
set_option maxHeartbeats 2000000 in
theorem c_sSameLog0 (a : LAd) (l : Lg) (w : World) (hs1 : l.cells.length ≤ 1048576) (hs2 : l.seats.length ≤ 1048576) (hs3 : l.ents.length ≤ 1048576) :
    Calls Try.prog 63 #[Lg.val a l, zlog] w fun e w' => e = .returned (.bool (isZ l)) ∧ Ext w w' := by
  have X0 : Ext w ((w.alloc (Lg.obj a l)).alloc (.cells #[.int .i64 0, .slice none 0 0, .slice none 0 0, .slice none 0 0] 44)) := ext_to (ext_alloc _ _) _
  by_cases h1 : l.base = 0
  · by_cases h2 : l.ents.length = 0
    · have hcon := c_sSameImage0 a.cA l.cells.length a.cc a.sA l.seats.length a.sc ((w.alloc (Lg.obj a l)).alloc (.cells #[.int .i64 0, .slice none 0 0, .slice none 0 0, .slice none 0 0] 44)) hs1 hs2
      have g1 : (l.base != 0) = false := by simp [bne, h1]
      have g2 : ((l.ents.length : Int) != 0) = false := by simp [bne, h2]
      cases q : (l.cells.length == 0) && (l.seats.length == 0)
      · rw [q] at hcon
        have HV := Lib.hid (show false = isZ l by simp [isZ, h1, h2, q])
        have HC := Lib.hid hcon
        clear q hcon h1 h2
        go_enter Try.func63, Try.ntmps63
        go_wp2_with fail
        refine HC.out.mono ?_
        rintro e w1 ⟨rfl, x1⟩
        go_wp2
        go_ret
        exact ⟨ret_bool HV.out, Ext.trans X0 x1⟩
      · rw [q] at hcon
        have HV := Lib.hid (show true = isZ l by simp [isZ, h1, h2, q])
        have HC := Lib.hid hcon
        have g3 : decide ((0 : Int) < (l.ents.length : Int)) = false := by simp [h2]
        have g4 : decide (0 < l.ents.length) = false := by simp [h2]
        have g5 : ¬ 0 < l.ents.length := by omega
        clear q hcon h1 h2
        go_enter Try.func63, Try.ntmps63
        go_wp2_with fail
        refine HC.out.mono ?_
        rintro e w1 ⟨rfl, x1⟩
        go_wp2
        go_loopw [5] (fun i wr => i = .int .i64 0 ∧ Ext ((w.alloc (Lg.obj a l)).alloc (.cells #[.int .i64 0, .slice none 0 0, .slice none 0 0, .slice none 0 0] 44)) wr) (fun _ _ => 0)
        case atStart => exact ⟨rfl, x1⟩
        case round =>
          obtain ⟨rfl, hx⟩ := hrel
          have b1 := bx_cell (hx.box (hOld (o := .cells #[.int .i64 0, .slice none 0 0, .slice none 0 0, .slice none 0 0] 44) (hNew (w := w) (o := Lg.obj a l) rfl)))
          go_wp2
          go_ret
          exact ⟨ret_bool HV.out, Ext.trans X0 hx⟩
    · have HV := Lib.hid (show false = isZ l by simp [isZ, h2])
      have g1 : (l.base != 0) = false := by simp [bne, h1]
      have g2 : ((l.ents.length : Int) != 0) = true := by simpa [bne] using h2
      clear h1 h2
      go_enter Try.func63, Try.ntmps63
      go_wp2
      go_ret
      exact ⟨ret_bool HV.out, X0⟩
  · have HV := Lib.hid (show false = isZ l by simp [isZ, h1])
    have g1 : (l.base != 0) = true := by simp [bne, h1]
    clear h1
    go_enter Try.func63, Try.ntmps63
    go_wp2
    go_ret
    exact ⟨ret_bool HV.out, X0⟩
theorem c_equal0C (A : Option Addr) (n c : Nat) (w : World) (hn : n ≤ 1048576) : Calls Try.prog 126 #[.slice A n c, .slice none 0 0] w fun e w' => e = .returned (.bool (n == 0)) ∧ Ext w w' := by
  by_cases h1 : n = 0
  · subst h1
    go_enter Try.func126, Try.ntmps126
    go_wp2
    go_loopw [13] (fun i wr => i = .int .i64 0 ∧ Ext w wr) (fun _ _ => 0)
    case atStart => exact ⟨rfl, ext_refl _⟩
    case round =>
      obtain ⟨rfl, hx⟩ := hrel
      go_wp2
      go_ret
      exact ⟨rfl, hx⟩
  · have g2 : ((n : Int) != 0) = true := by simp [bne]; omega
    have HV := Lib.hid (show false = (n == 0) by simp [h1])
    clear h1
    go_enter Try.func126, Try.ntmps126
    go_wp2
    go_ret
    exact ⟨ret_bool HV.out, ext_refl _⟩
theorem c_equal0S (A : Option Addr) (n c : Nat) (w : World) (hn : n ≤ 1048576) : Calls Try.prog 127 #[.slice A n c, .slice none 0 0] w fun e w' => e = .returned (.bool (n == 0)) ∧ Ext w w' := by
  by_cases h1 : n = 0
  · subst h1
    go_enter Try.func127, Try.ntmps127
    go_wp2
    go_loopw [13] (fun i wr => i = .int .i64 0 ∧ Ext w wr) (fun _ _ => 0)
    case atStart => exact ⟨rfl, ext_refl _⟩
    case round =>
      obtain ⟨rfl, hx⟩ := hrel
      go_wp2
      go_ret
      exact ⟨rfl, hx⟩
  · have g2 : ((n : Int) != 0) = true := by simp [bne]; omega
    have HV := Lib.hid (show false = (n == 0) by simp [h1])
    clear h1
    go_enter Try.func127, Try.ntmps127
    go_wp2
    go_ret
    exact ⟨ret_bool HV.out, ext_refl _⟩
theorem c_equal0E (A : Option Addr) (n c : Nat) (w : World) (hn : n ≤ 1048576) : Calls Try.prog 101 #[.slice A n c, .slice none 0 0] w fun e w' => e = .returned (.bool (n == 0)) ∧ Ext w w' := by
  by_cases h1 : n = 0
  · subst h1
    go_enter Try.func101, Try.ntmps101
    go_wp2
    go_loopw [13] (fun i wr => i = .int .i64 0 ∧ Ext w wr) (fun _ _ => 0)
    case atStart => exact ⟨rfl, ext_refl _⟩
    case round =>
      obtain ⟨rfl, hx⟩ := hrel
      go_wp2
      go_ret
      exact ⟨rfl, hx⟩
  · have g2 : ((n : Int) != 0) = true := by simp [bne]; omega
    have HV := Lib.hid (show false = (n == 0) by simp [h1])
    clear h1
    go_enter Try.func101, Try.ntmps101
    go_wp2
    go_ret
    exact ⟨ret_bool HV.out, ext_refl _⟩
theorem c_iSameImage0 (cA : Option Addr) (n cc : Nat) (sA : Option Addr) (m sc : Nat) (w : World) (hn : n ≤ 1048576) (hm : m ≤ 1048576) :
    Calls Try.prog 100 #[.agg #[.slice cA n cc, .slice sA m sc], zimg] w fun e w' => e = .returned (.bool ((n == 0) && (m == 0))) ∧ Ext w w' := by
  go_enter Try.func100, Try.ntmps100
  go_wp2_with (first | (go_at_call 126; refine (c_equal0C _ _ _ _ hn).mono ?_; rintro e w1 ⟨rfl, hx⟩; obtain ⟨hc1, hf1, hs1⟩ := hx.rules; (try simp at hs1); have z0 : w.heap.size < w1.heap.size := (by omega); have z1 : w.heap.size + 1 < w1.heap.size := (by omega)) | (go_at_call 127; refine (c_equal0S _ _ _ _ hm).mono ?_; rintro e w1 ⟨rfl, hx⟩; obtain ⟨hc1, hf1, hs1⟩ := hx.rules; (try simp at hs1); have z0 : w.heap.size < w1.heap.size := (by omega); have z1 : w.heap.size + 1 < w1.heap.size := (by omega)))
  all_goals
    go_ret
    refine ⟨ret_bool ?_, ?_⟩
    · (first | (simp [*]; done) | (simp_all; done))
    · (repeat (first | with_reducible exact ext_refl _ | with_reducible refine ext_to ?_ _ | with_reducible refine ext_set ?_ (by first | (simp; done) | (simp; omega) | omega) _ | with_reducible refine ext_drew ?_ | with_reducible refine Ext.trans ?_ (by assumption)))
theorem c_iSameLog0 (a : LAd) (l : Lg) (w : World) (hs1 : l.cells.length ≤ 1048576) (hs2 : l.seats.length ≤ 1048576) (hs3 : l.ents.length ≤ 1048576) :
    Calls Try.prog 64 #[Lg.val a l, zlog] w fun e w' => e = .returned (.bool (isZ l)) ∧ Ext w w' := by
  obtain ⟨y, hy⟩ : ∃ y, (l.cells.length == 0 && l.seats.length == 0) = y := ⟨_, rfl⟩
  obtain ⟨z, hz⟩ : ∃ z, (l.ents.length == 0) = z := ⟨_, rfl⟩
  have HV := Lib.hid (show (l.base == 0 && y && z) = isZ l by unfold isZ; rw [hy, hz])
  have hI := fun W => c_iSameImage0 a.cA l.cells.length a.cc a.sA l.seats.length a.sc W hs1 hs2
  have hE := fun W => c_equal0E a.eA l.ents.length a.ec W hs3
  rw [hy] at hI
  rw [hz] at hE
  have HI := Lib.hid hI
  have HE := Lib.hid hE
  clear hy hz hI hE
  go_enter Try.func64, Try.ntmps64
  go_wp2_with (first | (go_at_call 100; refine (HI.out _).mono ?_; rintro e w1 ⟨rfl, hx⟩; obtain ⟨hc1, hf1, hs1⟩ := hx.rules; (try simp at hs1); have z0 : w.heap.size < w1.heap.size := (by omega); have z1 : w.heap.size + 1 < w1.heap.size := (by omega)) | (go_at_call 101; refine (HE.out _).mono ?_; rintro e w1 ⟨rfl, hx⟩; obtain ⟨hc1, hf1, hs1⟩ := hx.rules; (try simp at hs1); have z0 : w.heap.size < w1.heap.size := (by omega); have z1 : w.heap.size + 1 < w1.heap.size := (by omega)))
  all_goals
    go_ret
    refine ⟨ret_bool ?_, ?_⟩
    · rw [← HV.out]
      (first | (simp [*]; done) | (simp_all; done))
    · (repeat (first | with_reducible exact ext_refl _ | with_reducible refine ext_to ?_ _ | with_reducible refine ext_set ?_ (by first | (simp; done) | (simp; omega) | omega) _ | with_reducible refine ext_drew ?_ | with_reducible refine Ext.trans ?_ (by assumption)))
theorem c_isLogZero (a : LAd) (l : Lg) (w : World) (hs1 : l.cells.length ≤ 1048576) (hs2 : l.seats.length ≤ 1048576) (hs3 : l.ents.length ≤ 1048576) :
    Calls Try.prog 77 #[Lg.val a l] w fun e w' => e = .returned (.bool (isZ l)) ∧ Ext w w' := by
  go_enter Try.func77, Try.ntmps77
  go_wp2_with fail
  refine (c_iSameLog0 a l _ hs1 hs2 hs3).mono ?_
  rintro e w1 ⟨rfl, x1⟩
  go_wp2
  go_ret
  exact ⟨rfl, Ext.trans (ext_alloc _ _) x1⟩
end Go.Proofs.Ytpghedeghoegmaa

/- A log has a number; a vote is right: of the reference and of the program. -/
namespace Go.Proofs.Ytpghedeghoegmaa
open Go.ChangeShapes Go.WideShapes Go.ChangeAt Go.RowKit Go.Sort
set_option linter.unusedVariables false
set_option linter.unusedSimpArgs false

/-- the log is right, and n from its base to its end -/
def hasNum (l : Lg) (n : Int) : Bool := logOk l && inB n l.base l.fin
theorem hasNum_ok {l : Lg} {n : Int} (h : hasNum l n = true) : logOk l = true ∧ l.base ≤ n ∧ n ≤ l.fin := by
  unfold hasNum at h
  rw [Bool.and_eq_true, inB_yes] at h
  exact h

def vtKind (k : Int) : Bool := k == 3 || k == 5 || k == 6 || k == 9
/-- a vote of a replica of so many is right -/
def vtOk (of : Int) (v : Vt) : Bool := vtKind v.kind && inB v.frm 0 (of - 1) && inB v.view 0 1000000000 && inB v.normal 0 1000000000 && inB v.op 0 1000000000 && hasNum v.log v.commit
end Go.Proofs.Ytpghedeghoegmaa

