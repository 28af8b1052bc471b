/- A log has a number; a vote is right: of the reference and of the program. -/
import Derived.Test.YtckfjploafhenaaGreatPk24
import Derived.Test.YtckfjploafhenaaGreatPk20
set_option maxRecDepth 100000
set_option maxHeartbeats 16000000
set_option linter.unusedVariables false
set_option linter.unusedSimpArgs false
namespace Go.Proofs.YtckfjploafhenaaGreat
open Go.ChangeShapes Go.WideShapes Go.ChangeAt Go.RowKit Go.Sort
def zb8 (l:Lg) (n:Int):Bool:=logOk l && inB n l.base l.fin
theorem hasNum_ok {l:Lg} {n:Int} (h:zb8 l n=true):logOk l=true/\l.base<=n/\n<=l.fin:=by
 unfold zb8 at h;rw [Bool.and_eq_true,zcu] at h;exact h
theorem zif (a:LAd) (l:Lg) (n:Int) (hs:l.small) (w:World) (hr:LgR w a l) :
  Calls Tryz.prog 34 #[Lg.val a l, .int .i64 n] w fun e w'=>e = .returned (.bool (zb8 l n))/\Ext w w':=by
 have X0:=za1 w (Lg.obj a l);have hK:=fun W (h:Ext (w.alloc (Lg.obj a l)) W)=>zhk a l hs.1 hs.2.1 hs.2.2 W (hr.keep (Ext.trans X0 h))
 cases q:logOk l
 ·rw [q] at hK;have HK:=Hd hK;have HV:=Hd (show false=zb8 l n by simp only [zb8,q];rfl)
  clear hK q hr hs
  go_enter Tryz.func34,Tryz.ntmps34
  go_wp2
  (refine mrx (fun _ _ _=>True) 11 (fun hg=>?_);simp only [Tc,Tz,Dc,Dz])
  (repeat (first | (refine mqu ?_;go_big_quiet_step (fail);refine mnil ?_) | (refine msk ?_;simp only [Act.put,Sa,Sz,Ss]) | (refine Rm.more ?_;refine mdt Tryz.func66 (fun W hW=>HK.out W hW) ?_;simp only [Act.put,Sa,Sz,Ss])))
  (refine Rm.wpMix_nil ?_;intro w2 hw2)
  go_wp2
  go_ret
  exact ⟨za7 HV.out,Ext.trans X0 hw2⟩
 ·have hE:=fun W (h:Ext (w.alloc (Lg.obj a l)) W)=>zdy a l hs.1 hs.2.1 hs.2.2 W (hr.keep (Ext.trans X0 h)) q
  rw [q] at hK;have HK:=Hd hK;have HE:=Hd hE;have HV:=Hd (show inB n l.base l.fin=zb8 l n by simp only [zb8,q];rfl)
  clear hK hE q hr hs
  go_enter Tryz.func34,Tryz.ntmps34
  go_wp2
  (refine mrx (fun _ _ _=>True) 11 (fun hg=>?_);simp only [Tc,Tz,Dc,Dz])
  (repeat (first | (refine mqu ?_;go_big_quiet_step (fail);refine mnil ?_) | (refine msk ?_;simp only [Act.put,Sa,Sz,Ss]) | (refine Rm.more ?_;refine mdt Tryz.func66 (fun W hW=>HK.out W hW) ?_;simp only [Act.put,Sa,Sz,Ss]) | (refine Rm.more ?_;refine mdt Tryz.func24 (fun W hW=>HE.out W hW) ?_;simp only [Act.put,Sa,Sz,Ss]) | (refine Rm.more ?_;refine mdt Tryz.func32 (fun W hW=>zb6 n l.base l.fin W) ?_;simp only [Act.put,Sa,Sz,Ss])))
  (refine Rm.wpMix_nil ?_;intro w2 hw2)
  go_wp2
  go_ret
  exact ⟨za7 HV.out,Ext.trans X0 hw2⟩
theorem c_hasNumber (a:LAd) (l:Lg) (n:Int) (hs:l.small) (w:World) (hr:LgR w a l) :
  Calls Tryz.prog 92 #[Lg.val a l, .int .i64 n] w fun e w'=>e = .returned (.bool (zb8 l n))/\Ext w w':=by
 have X0:=za1 w (Lg.obj a l);have hK:=fun W (h:Ext (w.alloc (Lg.obj a l)) W)=>c_iLogOk a l hs.1 hs.2.1 hs.2.2 W (hr.keep (Ext.trans X0 h))
 cases q:logOk l
 ·rw [q] at hK;have HK:=Hd hK;have HV:=Hd (show false=zb8 l n by simp only [zb8,q];rfl)
  clear hK q hr hs
  go_enter Tryz.func92,Tryz.ntmps92
  go_wp2
  (refine mrx (fun _ _ _=>True) 11 (fun hg=>?_);simp only [Tc,Tz,Dc,Dz])
  (repeat (first | (refine mqu ?_;go_big_quiet_step (fail);refine mnil ?_) | (refine msk ?_;simp only [Act.put,Sa,Sz,Ss]) | (refine Rm.more ?_;refine mdt Tryz.func101 (fun W hW=>HK.out W hW) ?_;simp only [Act.put,Sa,Sz,Ss])))
  (refine Rm.wpMix_nil ?_;intro w2 hw2)
  go_wp2
  go_ret
  exact ⟨za7 HV.out,Ext.trans X0 hw2⟩
 ·have hb:=logOk_b q;have hE:=fun W=>c_end a l W (by omega) (by omega) (by omega)
  rw [q] at hK;have HK:=Hd hK;have HE:=Hd hE;have HV:=Hd (show inB n l.base l.fin=zb8 l n by simp only [zb8,q];rfl)
  clear hK hE q hr hs hb
  go_enter Tryz.func92,Tryz.ntmps92
  go_wp2
  (refine mrx (fun _ _ _=>True) 11 (fun hg=>?_);simp only [Tc,Tz,Dc,Dz])
  (repeat (first | (refine mqu ?_;go_big_quiet_step (fail);refine mnil ?_) | (refine msk ?_;simp only [Act.put,Sa,Sz,Ss]) | (refine Rm.more ?_;refine mdt Tryz.func101 (fun W hW=>HK.out W hW) ?_;simp only [Act.put,Sa,Sz,Ss]) | (refine Rm.more ?_;refine mdt Tryz.func15 (fun W hW=>HE.out W) ?_;simp only [Act.put,Sa,Sz,Ss]) | (refine Rm.more ?_;refine mdt Tryz.func53 (fun W hW=>zce n l.base l.fin W) ?_;simp only [Act.put,Sa,Sz,Ss])))
  (refine Rm.wpMix_nil ?_;intro w2 hw2)
  go_wp2
  go_ret
  exact ⟨za7 HV.out,Ext.trans X0 hw2⟩
def vtKind (k:Int):Bool:=k == 3 || k == 5 || k == 6 || k == 9
def vtOk (of:Int) (v:Vt):Bool:=vtKind v.kind && inB v.frm 0 (of - 1) && inB v.view 0 1000000000 && inB v.normal 0 1000000000 && inB v.op 0 1000000000 && zb8 v.log v.commit
theorem zf6 (a:LAd) (v:Vt) (of:Int) (h0:-1000000<=of) (h1:of<=1000000) (hs:v.log.small) (w:World) (hr:LgR w a v.log) :
  Calls Tryz.prog 35 #[VtE.val a v, .int .i64 of] w fun e w'=>e = .returned (.bool (vtOk of v))/\Ext w w':=by
 have HS:=Hd hs;have HR:=Hd hr;clear hs hr
 go_enter Tryz.func35,Tryz.ntmps35
 go_wp2_with (first | (go_at_call 32;refine (zb6 _ _ _ _).mono ?_;rintro e w1 ⟨rfl,hx⟩;obtain ⟨hc1,hf1,hs1⟩:=hx.rules;(try simp at hs1);have z0:w.heap.size < w1.heap.size:=(by omega)) | (go_at_call 33;refine (zah _ _).mono ?_;rintro e w1 ⟨rfl,hx⟩;obtain ⟨hc1,hf1,hs1⟩:=hx.rules;(try simp at hs1);have z0:w.heap.size < w1.heap.size:=(by omega)) | (go_at_call 34;refine (zif a v.log v.commit HS.out _ (HR.out.keep (by (repeat (first | with_reducible exact za4 _ | with_reducible refine za9 ?_ _ | with_reducible refine zak ?_ (by first | (simp;done) | (simp;omega) | omega) _ | with_reducible refine zab ?_ | with_reducible refine Ext.trans ?_ (by assumption)))))).mono ?_;rintro e w1 ⟨rfl,hx⟩;obtain ⟨hc1,hf1,hs1⟩:=hx.rules;(try simp at hs1)))
 all_goals
  go_ret
  refine ⟨za7 ?_, ?_⟩
  ·(first | (simp [vtOk,vtKind, *];done) | (simp_all [vtOk,vtKind];done))
  ·(repeat (first | with_reducible exact za4 _ | with_reducible refine za9 ?_ _ | with_reducible refine zak ?_ (by first | (simp;done) | (simp;omega) | omega) _ | with_reducible refine zab ?_ | with_reducible refine Ext.trans ?_ (by assumption)))
theorem c_voteOk (a:LAd) (v:Vt) (of:Int) (h0:-1000000<=of) (h1:of<=1000000) (hs:v.log.small) (w:World) (hr:LgR w a v.log) :
  Calls Tryz.prog 95 #[VtE.val a v, .int .i64 of] w fun e w'=>e = .returned (.bool (vtOk of v))/\Ext w w':=by
 have HS:=Hd hs;have HR:=Hd hr;clear hs hr
 go_enter Tryz.func95,Tryz.ntmps95
 go_wp2_with (first | (go_at_call 53;refine (zce _ _ _ _).mono ?_;rintro e w1 ⟨rfl,hx⟩;obtain ⟨hc1,hf1,hs1⟩:=hx.rules;(try simp at hs1);have z0:w.heap.size < w1.heap.size:=(by omega)) | (go_at_call 37;refine (zas _ _).mono ?_;rintro e w1 ⟨rfl,hx⟩;obtain ⟨hc1,hf1,hs1⟩:=hx.rules;(try simp at hs1);have z0:w.heap.size < w1.heap.size:=(by omega)) | (go_at_call 92;refine (c_hasNumber a v.log v.commit HS.out _ (HR.out.keep (by (repeat (first | with_reducible exact za4 _ | with_reducible refine za9 ?_ _ | with_reducible refine zak ?_ (by first | (simp;done) | (simp;omega) | omega) _ | with_reducible refine zab ?_ | with_reducible refine Ext.trans ?_ (by assumption)))))).mono ?_;rintro e w1 ⟨rfl,hx⟩;obtain ⟨hc1,hf1,hs1⟩:=hx.rules;(try simp at hs1)))
 all_goals
  go_ret
  refine ⟨za7 ?_, ?_⟩
  ·(first | (simp [vtOk,vtKind, *];done) | (simp_all [vtOk,vtKind];done))
  ·(repeat (first | with_reducible exact za4 _ | with_reducible refine za9 ?_ _ | with_reducible refine zak ?_ (by first | (simp;done) | (simp;omega) | omega) _ | with_reducible refine zab ?_ | with_reducible refine Ext.trans ?_ (by assumption)))
def isZ (l:Lg):Bool:=(l.base == 0) && ((l.cells.length == 0) && (l.seats.length == 0)) && (l.ents.length == 0)
abbrev zimg:Value := .agg #[.slice none 0 0, .slice none 0 0]
abbrev zlog:Value := .agg #[.int .i64 0, .slice none 0 0, .slice none 0 0, .slice none 0 0]
theorem c_sSameImage0 (cA:Option Addr) (n cc:Nat) (sA:Option Addr) (m sc:Nat) (w:World) (hn:n<=1048576) (hm:m<=1048576) :
  Calls Tryz.prog 72 #[.agg #[.slice cA n cc, .slice sA m sc],zimg] w fun e w'=>e = .returned (.bool ((n == 0) && (m == 0)))/\Ext w w':=by
 have X0:Ext w ((w.alloc (.cells #[.slice cA n cc, .slice sA m sc] 27)).alloc (.cells #[.slice none 0 0, .slice none 0 0] 27)):=za9 (za1 _ _) _;by_cases h1:n=0
 ·by_cases h2:m=0
  ·subst h1 h2
   go_enter Tryz.func72,Tryz.ntmps72
   go_wp2
   go_loopw [5] (fun i wr=>i = .int .i64 0/\Ext ((w.alloc (.cells #[.slice cA 0 cc, .slice sA 0 sc] 27)).alloc (.cells #[.slice none 0 0, .slice none 0 0] 27)) wr) (fun _ _=>0)
   case atStart=>exact ⟨rfl,za4 _⟩
   case round =>
    obtain ⟨rfl,hx⟩:=hrel;have b1:=za2 (hx.box (hOld (o := .cells #[.slice none 0 0, .slice none 0 0] 27) (hNew (w:=w) (o := .cells #[.slice cA 0 cc, .slice sA 0 sc] 27) rfl)));go_wp2
    go_loopw [6] (fun i wr=>i = .int .i64 0/\Ext ((w.alloc (.cells #[.slice cA 0 cc, .slice sA 0 sc] 27)).alloc (.cells #[.slice none 0 0, .slice none 0 0] 27)) wr) (fun _ _=>0)
    case atStart=>exact ⟨rfl,hx⟩
    case round =>
     clear b1 hx;obtain ⟨rfl,hx⟩:=hrel;have b1:=za2 (hx.box (hOld (o := .cells #[.slice none 0 0, .slice none 0 0] 27) (hNew (w:=w) (o := .cells #[.slice cA 0 cc, .slice sA 0 sc] 27) rfl)));go_wp2
     go_ret
     exact ⟨rfl,Ext.trans X0 hx⟩
  ·subst h1;have g2:((m:Int) != 0)=true:=by simp [bne];omega
   have hv:false=((0 == 0) && (m == 0)):=by simp [h2]
   have HV:=Hd hv;clear h2 hv
   go_enter Tryz.func72,Tryz.ntmps72
   go_wp2
   go_ret
   exact ⟨za7 HV.out,X0⟩
 ·have g2:((n:Int) != 0)=true:=by simp [bne];omega
  have hv:false=((n == 0) && (m == 0)):=by simp [h1]
  have HV:=Hd hv;clear h1 hv
  go_enter Tryz.func72,Tryz.ntmps72
  go_wp2
  go_ret
  exact ⟨za7 HV.out,X0⟩
theorem c_sSameLog0 (a:LAd) (l:Lg) (w:World) (hs1:l.cells.length<=1048576) (hs2:l.seats.length<=1048576) (hs3:l.ents.length<=1048576) :
  Calls Tryz.prog 36 #[Lg.val a l,zlog] w fun e w'=>e = .returned (.bool (isZ l))/\Ext w w':=by
 have X0:Ext w ((w.alloc (Lg.obj a l)).alloc (.cells #[.int .i64 0, .slice none 0 0, .slice none 0 0, .slice none 0 0] 30)):=za9 (za1 _ _) _;by_cases h1:l.base=0
 ·by_cases h2:l.ents.length=0
  ·have hcon:=c_sSameImage0 a.cA l.cells.length a.cc a.sA l.seats.length a.sc ((w.alloc (Lg.obj a l)).alloc (.cells #[.int .i64 0, .slice none 0 0, .slice none 0 0, .slice none 0 0] 30)) hs1 hs2;have g1:(l.base != 0)=false:=by simp [bne,h1]
   have g2:((l.ents.length:Int) != 0)=false:=by simp [bne,h2]
   cases q:(l.cells.length == 0) && (l.seats.length == 0)
   ·rw [q] at hcon;have HV:=Hd (show false=isZ l by simp [isZ,h1,h2,q])
    have HC:=Hd hcon;clear q hcon h1 h2
    go_enter Tryz.func36,Tryz.ntmps36
    go_wp2_with fail
    refine HC.out.mono ?_;rintro e w1 ⟨rfl,x1⟩;go_wp2
    go_ret
    exact ⟨za7 HV.out,Ext.trans X0 x1⟩
   ·rw [q] at hcon;have HV:=Hd (show true=isZ l by simp [isZ,h1,h2,q])
    have HC:=Hd hcon;have g3:decide ((0:Int) < (l.ents.length:Int))=false:=by simp [h2]
    have g4:decide (0 < l.ents.length)=false:=by simp [h2]
    have g5:¬ 0 < l.ents.length:=by omega
    clear q hcon h1 h2
    go_enter Tryz.func36,Tryz.ntmps36
    go_wp2_with fail
    refine HC.out.mono ?_;rintro e w1 ⟨rfl,x1⟩;go_wp2
    go_loopw [5] (fun i wr=>i = .int .i64 0/\Ext ((w.alloc (Lg.obj a l)).alloc (.cells #[.int .i64 0, .slice none 0 0, .slice none 0 0, .slice none 0 0] 30)) wr) (fun _ _=>0)
    case atStart=>exact ⟨rfl,x1⟩
    case round =>
     obtain ⟨rfl,hx⟩:=hrel;have b1:=za2 (hx.box (hOld (o := .cells #[.int .i64 0, .slice none 0 0, .slice none 0 0, .slice none 0 0] 30) (hNew (w:=w) (o:=Lg.obj a l) rfl)));go_wp2
     go_ret
     exact ⟨za7 HV.out,Ext.trans X0 hx⟩
  ·have HV:=Hd (show false=isZ l by simp [isZ,h2])
   have g1:(l.base != 0)=false:=by simp [bne,h1]
   have g2:((l.ents.length:Int) != 0)=true:=by simpa [bne] using h2
   clear h1 h2
   go_enter Tryz.func36,Tryz.ntmps36
   go_wp2
   go_ret
   exact ⟨za7 HV.out,X0⟩
 ·have HV:=Hd (show false=isZ l by simp [isZ,h1])
  have g1:(l.base != 0)=true:=by simp [bne,h1]
  clear h1
  go_enter Tryz.func36,Tryz.ntmps36
  go_wp2
  go_ret
  exact ⟨za7 HV.out,X0⟩
theorem c_equal0C (A:Option Addr) (n c:Nat) (w:World) (hn:n<=1048576):Calls Tryz.prog 190 #[.slice A n c, .slice none 0 0] w fun e w'=>e = .returned (.bool (n == 0))/\Ext w w':=by
 by_cases h1:n=0
 ·subst h1
  go_enter Tryz.func190,Tryz.ntmps190
  go_wp2
  go_loopw [13] (fun i wr=>i = .int .i64 0/\Ext w wr) (fun _ _=>0)
  case atStart=>exact ⟨rfl,za4 _⟩
  case round =>
   obtain ⟨rfl,hx⟩:=hrel;go_wp2
   go_ret
   exact ⟨rfl,hx⟩
 ·have g2:((n:Int) != 0)=true:=by simp [bne];omega
  have HV:=Hd (show false=(n == 0) by simp [h1])
  clear h1
  go_enter Tryz.func190,Tryz.ntmps190
  go_wp2
  go_ret
  exact ⟨za7 HV.out,za4 _⟩
theorem c_equal0S (A:Option Addr) (n c:Nat) (w:World) (hn:n<=1048576):Calls Tryz.prog 191 #[.slice A n c, .slice none 0 0] w fun e w'=>e = .returned (.bool (n == 0))/\Ext w w':=by
 by_cases h1:n=0
 ·subst h1
  go_enter Tryz.func191,Tryz.ntmps191
  go_wp2
  go_loopw [13] (fun i wr=>i = .int .i64 0/\Ext w wr) (fun _ _=>0)
  case atStart=>exact ⟨rfl,za4 _⟩
  case round =>
   obtain ⟨rfl,hx⟩:=hrel;go_wp2
   go_ret
   exact ⟨rfl,hx⟩
 ·have g2:((n:Int) != 0)=true:=by simp [bne];omega
  have HV:=Hd (show false=(n == 0) by simp [h1])
  clear h1
  go_enter Tryz.func191,Tryz.ntmps191
  go_wp2
  go_ret
  exact ⟨za7 HV.out,za4 _⟩
theorem c_equal0E (A:Option Addr) (n c:Nat) (w:World) (hn:n<=1048576):Calls Tryz.prog 168 #[.slice A n c, .slice none 0 0] w fun e w'=>e = .returned (.bool (n == 0))/\Ext w w':=by
 by_cases h1:n=0
 ·subst h1
  go_enter Tryz.func168,Tryz.ntmps168
  go_wp2
  go_loopw [13] (fun i wr=>i = .int .i64 0/\Ext w wr) (fun _ _=>0)
  case atStart=>exact ⟨rfl,za4 _⟩
  case round =>
   obtain ⟨rfl,hx⟩:=hrel;go_wp2
   go_ret
   exact ⟨rfl,hx⟩
 ·have g2:((n:Int) != 0)=true:=by simp [bne];omega
  have HV:=Hd (show false=(n == 0) by simp [h1])
  clear h1
  go_enter Tryz.func168,Tryz.ntmps168
  go_wp2
  go_ret
  exact ⟨za7 HV.out,za4 _⟩
theorem c_iSameImage0 (cA:Option Addr) (n cc:Nat) (sA:Option Addr) (m sc:Nat) (w:World) (hn:n<=1048576) (hm:m<=1048576) :
  Calls Tryz.prog 167 #[.agg #[.slice cA n cc, .slice sA m sc],zimg] w fun e w'=>e = .returned (.bool ((n == 0) && (m == 0)))/\Ext w w':=by
 go_enter Tryz.func167,Tryz.ntmps167
 go_wp2_with (first | (go_at_call 190;refine (c_equal0C _ _ _ _ hn).mono ?_;rintro e w1 ⟨rfl,hx⟩;obtain ⟨hc1,hf1,hs1⟩:=hx.rules;(try simp at hs1);have z0:w.heap.size < w1.heap.size:=(by omega);have z1:w.heap.size+1 < w1.heap.size:=(by omega)) | (go_at_call 191;refine (c_equal0S _ _ _ _ hm).mono ?_;rintro e w1 ⟨rfl,hx⟩;obtain ⟨hc1,hf1,hs1⟩:=hx.rules;(try simp at hs1);have z0:w.heap.size < w1.heap.size:=(by omega);have z1:w.heap.size+1 < w1.heap.size:=(by omega)))
 all_goals
  go_ret
  refine ⟨za7 ?_, ?_⟩
  ·(first | (simp [*];done) | (simp_all;done))
  ·(repeat (first | with_reducible exact za4 _ | with_reducible refine za9 ?_ _ | with_reducible refine zak ?_ (by first | (simp;done) | (simp;omega) | omega) _ | with_reducible refine zab ?_ | with_reducible refine Ext.trans ?_ (by assumption)))
theorem c_iSameLog0 (a:LAd) (l:Lg) (w:World) (hs1:l.cells.length<=1048576) (hs2:l.seats.length<=1048576) (hs3:l.ents.length<=1048576) :
  Calls Tryz.prog 140 #[Lg.val a l,zlog] w fun e w'=>e = .returned (.bool (isZ l))/\Ext w w':=by
 obtain ⟨y,hy⟩:∃ y,(l.cells.length == 0 && l.seats.length == 0)=y:=⟨_,rfl⟩;obtain ⟨z,hz⟩:∃ z,(l.ents.length == 0)=z:=⟨_,rfl⟩;have HV:=Hd (show (l.base == 0 && y && z)=isZ l by unfold isZ;rw [hy,hz])
 have hI:=fun W=>c_iSameImage0 a.cA l.cells.length a.cc a.sA l.seats.length a.sc W hs1 hs2
 have hE:=fun W=>c_equal0E a.eA l.ents.length a.ec W hs3
 rw [hy] at hI;rw [hz] at hE;have HI:=Hd hI;have HE:=Hd hE;clear hy hz hI hE
 go_enter Tryz.func140,Tryz.ntmps140
 go_wp2_with (first | (go_at_call 167;refine (HI.out _).mono ?_;rintro e w1 ⟨rfl,hx⟩;obtain ⟨hc1,hf1,hs1⟩:=hx.rules;(try simp at hs1);have z0:w.heap.size < w1.heap.size:=(by omega);have z1:w.heap.size+1 < w1.heap.size:=(by omega)) | (go_at_call 168;refine (HE.out _).mono ?_;rintro e w1 ⟨rfl,hx⟩;obtain ⟨hc1,hf1,hs1⟩:=hx.rules;(try simp at hs1);have z0:w.heap.size < w1.heap.size:=(by omega);have z1:w.heap.size+1 < w1.heap.size:=(by omega)))
 all_goals
  go_ret
  refine ⟨za7 ?_, ?_⟩
  ·rw [<-HV.out]
   (first | (simp [*];done) | (simp_all;done))
  ·(repeat (first | with_reducible exact za4 _ | with_reducible refine za9 ?_ _ | with_reducible refine zak ?_ (by first | (simp;done) | (simp;omega) | omega) _ | with_reducible refine zab ?_ | with_reducible refine Ext.trans ?_ (by assumption)))
theorem c_isLogZero (a:LAd) (l:Lg) (w:World) (hs1:l.cells.length<=1048576) (hs2:l.seats.length<=1048576) (hs3:l.ents.length<=1048576) :
  Calls Tryz.prog 96 #[Lg.val a l] w fun e w'=>e = .returned (.bool (isZ l))/\Ext w w':=by
 go_enter Tryz.func96,Tryz.ntmps96
 go_wp2_with fail
 refine (c_iSameLog0 a l _ hs1 hs2 hs3).mono ?_;rintro e w1 ⟨rfl,x1⟩;go_wp2
 go_ret
 exact ⟨rfl,Ext.trans (za1 _ _) x1⟩
end Go.Proofs.YtckfjploafhenaaGreat
