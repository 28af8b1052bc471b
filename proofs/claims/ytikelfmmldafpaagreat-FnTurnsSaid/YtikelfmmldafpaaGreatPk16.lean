/- MsgFits of the program and of the reference agree. -/
import Derived.Test.YtikelfmmldafpaaGreatPk15
import Derived.Test.YtikelfmmldafpaaGreatPk14
import Derived.Test.YtikelfmmldafpaaGreatPk11
import Derived.Test.YtikelfmmldafpaaGreatPk13
import Derived.Test.YtikelfmmldafpaaGreatPk4
import Derived.Deep.QuietTactic
import Derived.Test.YtikelfmmldafpaaGreatPk3
namespace Go.Proofs.YtikelfmmldafpaaGreat
open Go.ChangeShapes Go.WideShapes Go.ChangeAt Go.RowKit Go.Sort
set_option linter.unusedVariables false
set_option linter.unusedSimpArgs false
def sHearB (r:Rp) (m:Mg) (kind:Int):Bool:=sFits m && ((m.kind == kind) && ((kind == 1) || (decide (m.frm < r.of) && (m.frm != r.me))))
set_option maxRecDepth 100000 in
set_option maxHeartbeats 8000000 in
theorem c_l6Hears (a:LAd) (A:Option Addr) (c:Nat) (ps:List VtE) (r:Rp) (am:LAd) (m:Mg) (kind:Int) (w:World) (hr:RpR w a A c ps r) (hs:r.log.small) (hn:ps.length≤1048576) (hv:LgS ps) (hm:LgR w am m.log) (hms:m.log.small) :
  Calls Tryz.prog 198 #[Rp.val a A ps.length c r,Mg.val am m, .int .i64 kind] w fun e w'=>e = .returned (.bool (rpOk r && sHearB r m kind))∧Ext w w':=by
 have X0:Ext w ((w.alloc (Rp.obj a A ps.length c r)).alloc (Mg.obj am m)):=ext_to (ext_alloc _ _) _
 have hcon:=c_sReplicaOk a A c ps r _ (hr.keep X0) hs hn hv
 have HFt:=Hd (fun W (h:Ext w W)=>c_sMsgFits am m W hms (hm.keep h))
 have D1:=Hd (hOld (o:=Mg.obj am m) (hNew (w:=w) (o:=Rp.obj a A ps.length c r) rfl))
 have D2:=Hd (hNew (w:=w.alloc (Rp.obj a A ps.length c r)) (o:=Mg.obj am m) (k:=w.heap.size+1) (by simp))
 have HX0:=Hd X0
 obtain ⟨ff,hff⟩:∃ ff,sFits m=ff:=⟨_,rfl⟩
 have hfc:=fun W (h:Ext w W)=>HFt.out W h
 rw [hff] at hfc
 have HFc:=Hd hfc
 obtain ⟨V,hV⟩:∃ V,(rpOk r && sHearB r m kind)=V:=⟨_,rfl⟩
 have HV:=Hd (show V=(rpOk r && (ff && ((m.kind == kind) && ((kind == 1) || (decide (m.frm < r.of) && (m.frm != r.me)))))) by rw [←hV,←hff];rfl)
 rw [hV]
 clear X0 hr hv hs hm HFt hff hfc hV
 cases q:rpOk r
 ·rw [q] at hcon HV
  have HC:=Hd hcon
  clear q hcon
  go_enter Tryz.func198,Tryz.ntmps198
  (go_wp2_with (with_reducible refine wl_stop 7 ?_);refine stop_load (D1.out) rfl Tryz.underlying33 (by kernel_rfl) ?_;simp only [Act.put,Sa,Sz,Ss])
  go_wp2_with fail
  refine HC.out.mono ?_
  rintro e w1 ⟨rfl,x1⟩
  have X1:=Hd (Ext.trans HX0.out x1)
  clear x1
  go_wp2
  go_ret
  exact ⟨ret_bool (by rw [HV.out];rfl),X1.out⟩
 ·rw [q] at hcon HV
  have HC:=Hd hcon
  clear q hcon
  go_enter Tryz.func198,Tryz.ntmps198
  (go_wp2_with (with_reducible refine wl_stop 7 ?_);refine stop_load (D1.out) rfl Tryz.underlying33 (by kernel_rfl) ?_;simp only [Act.put,Sa,Sz,Ss])
  go_wp2_with fail
  refine HC.out.mono ?_
  rintro e w1 ⟨rfl,x1⟩
  have E1:=Hd (x1.box D1.out)
  have E2:=Hd (x1.box D2.out)
  have X1:=Hd (Ext.trans HX0.out x1)
  clear x1 D1 D2
  (go_wp2_with (with_reducible refine wl_stop 11 ?_);refine stop_loadG (E2.out) rfl rfl Tryz.underlying43 (by kernel_rfl) ?_;simp only [Act.put,Sa,Sz,Ss])
  go_wp2_with fail
  refine (HFc.out _ X1.out).mono ?_
  rintro e w2 ⟨rfl,x2⟩
  have X2:=Hd (Ext.trans X1.out x2)
  have d1:=bx_cell (x2.box E1.out)
  have d2:=bx_cell (x2.box E2.out)
  have z1:=bx_lt (x2.box E1.out)
  have z2:=bx_lt (x2.box E2.out)
  clear x2 E1 E2 X1 HFc
  cases ff
  ·go_wp2
   go_ret
   exact ⟨ret_bool (by rw [HV.out];rfl),X2.out⟩
  ·go_wp2
   all_goals
    go_ret
    refine ⟨ret_bool ?_,X2.out⟩
    rw [HV.out]
    (first | (simp [*];done) | (simp_all;done) | (simp_all;omega))
def RoT (w:World) (R:Rp) (O:List Ot) (V:Value):Prop:=∃ a A c qs Ao co os,V = .tuple #[Rp.val a A (List.length qs) c R, .slice Ao (List.length os) co]∧RpR w a A c qs R∧OsR w Ao co os∧List.map Prod.snd os=O ∧
 ∀ (w':World) (p:Nat) (cs:Array Value),w.heap[p]?=some (.cells cs 33 (0,0))→Chg w w' [p]→RpR w' a A c qs R∧OsR w' Ao co os
def LgV8 (B:Nat) (l:Lg) (v:Value) (W:World):Prop:=∃ a,v=Lg.val a l∧LgF W B a l
theorem LgV8.inv {B:Nat} {l:Lg} {a:LAd} {W:World} (h:LgV8 B l (Lg.val a l) W):LgF W B a l:=by
 obtain ⟨b,he,hf⟩:=h
 obtain ⟨a1,a2,a3,a4,a5,a6⟩:=a
 obtain ⟨b1,b2,b3,b4,b5,b6⟩:=b
 simp only [Value.agg.injEq,Array.mk.injEq,List.cons.injEq,Value.slice.injEq,true_and,and_true] at he
 obtain ⟨⟨rfl,rfl⟩,⟨rfl,rfl⟩,rfl,rfl⟩:=he
 exact hf
theorem RoY.kept0 {w w':World} {B p:Nat} {R:Rp} {O:List Ot} {a:LAd} {A:Option Addr} {c:Nat} {qs:List VtE} {Ao:Option Addr} {co:Nat} {os:List OtE} (h1:RpO w B w.heap.size a A c qs R) (h2:OsO w B w.heap.size Ao co os) (h3:List.map Prod.snd os=O) (h4:∀ x∈a.fp++vsF A qs,x∉OtE.fps Ao os) (hg:Chg w w' [p]) (hp:p < B) {B':Nat} (hB:B'≤B) :
  RoY w' B' R O (.tuple #[Rp.val a A (List.length qs) c R, .slice Ao (List.length os) co]) :=
 ⟨a,A,c,qs,Ao,co,os,rfl,(h1.chgAny hg (fun k hk _ hm=>by rw [Mi] at hm;omega)).wide hB hg.size,(h2.chg hg (fun k hk hm=>by rw [Mi] at hm;have:=h2.low k hk;omega)).wide hB hg.size,h3,h4⟩
theorem none_small2:Lg.none.small:=⟨by simp [Lg.none],by simp [Lg.none],by simp [Lg.none]⟩
theorem own_one {α:Type} {enc:α→List Value} {e:TypeId} {sz:Nat} {w:World} {p B:Nat} {cs:Array Value} {x:α} (h:w.heap[p]?=some (.cells cs e (0,0))) (hB:B≤p) (hc:cs.toList=enc x) (hl:(enc x).length=sz):Ow enc e sz w B (.slice (some ⟨p,0,none⟩) 1 1) [x]:=by
 have hs:cs.size=1 * sz:=by rw [←Array.length_toList,hc,hl,Nat.one_mul]
 refine ⟨by simpa using hl, .inr ⟨p,1,cs,rfl,hB,h,Nat.le_refl _,by unfold maxLen;omega,hs, ?_⟩⟩
 rw [List.take_of_length_le (by rw [Array.length_toList,hs];exact Nat.le_refl _),hc]
 simp
theorem c_l6Live (a:LAd) (A:Option Addr) (n c:Nat) (r:Rp) (w:World):Calls Tryz.prog 18 #[Rp.val a A n c r] w fun e w'=>e = .returned (.bool (liveB r))∧Ext w w':=by
 have X0:=ext_alloc w (Rp.obj a A n c r)
 go_enter Tryz.func18,Tryz.ntmps18
 go_wp2
 all_goals
  go_ret
  exact ⟨ret_bool (by simp_all [liveB]),ext_alloc _ _⟩
theorem c_sPrimaryOf (view n:Int) (w:World) (h:inB view 0 1000000000=true) (h2:ofB n=true):Calls Tryz.prog 93 #[.int .i64 view, .int .i64 n] w fun e w'=>e = .returned (.int .i64 (view % n))∧Ext w w':=by
 have hv:=(inB_yes _ _ _).1 h
 have ho:=ofB_b h2
 have ho':n≠0:=by omega
 have ho2:(n == 0)=false:=by simpa using ho'
 have HC:=Hd (fun W=>h▸c_l1Whole view W)
 have HD:=Hd (fun W=>h2▸c_l6Of n W)
 clear h h2
 go_enter Tryz.func93,Tryz.ntmps93
 go_wp2_with fail
 refine (HC.out _).mono ?_
 rintro e w1 ⟨rfl,x1⟩
 go_wp2_with fail
 refine (HD.out _).mono ?_
 rintro e w2 ⟨rfl,x2⟩
 go_wp2
 go_ret
 exact ⟨ret_int (by first | rfl | (simp;done) | omega),Ext.trans x1 x2⟩
theorem c_l6Leads (a:LAd) (A:Option Addr) (n c:Nat) (r:Rp) (w:World) (h:inB r.view 0 1000000000=true) (h2:ofB r.of=true):Calls Tryz.prog 92 #[Rp.val a A n c r] w fun e w'=>e = .returned (.bool (leadsB r))∧Ext w w':=by
 have X0:=ext_alloc w (Rp.obj a A n c r)
 have HB:=Hd (hNew (w:=w) (o:=Rp.obj a A n c r) rfl)
 have HH:=Hd h
 have HH2:=Hd h2
 clear h h2
 go_enter Tryz.func92,Tryz.ntmps92
 go_wp2
 (refine Rm.wp_region_mix' (R:=relE (w.alloc (Rp.obj a A n c r)).heap.size) (fun _ _ _=>True) (fun _ _ _ _ _ hq=>hq) 8 (by first | exact Nat.le_refl _ | omega | (simp;omega)) (by kernel_rfl) (by kernel_rfl) ?_;simp only [Tc,Tz,Dc,Dz])
 ((iterate 1 (refine Rm.wpMix_plain rfl rfl ?_;go_big_quiet_step (fail);refine wpQuiet_nil ?_));(refine Rm.wpMix_load1 (fun W9' h9=>show W9'.cell? _=some (.int .i64 r.view) from bx_cell (Ext.box h9 HB.out) 3) rfl rfl rfl Tryz.underlying3 rfl ?_;simp only [Act.put,Sa,Sz,Ss]);(iterate 1 (refine Rm.wpMix_plain rfl rfl ?_;go_big_quiet_step (fail);refine wpQuiet_nil ?_));(refine Rm.wpMix_load1 (fun W9' h9=>show W9'.cell? _=some (.int .i64 r.of) from bx_cell (Ext.box h9 HB.out) 1) rfl rfl rfl Tryz.underlying3 rfl ?_;simp only [Act.put,Sa,Sz,Ss]))
 (refine Rm.wpMix_det rfl rfl rfl (enters Tryz.func93 (by kernel_rfl) rfl) (fun W9' h9=>c_sPrimaryOf r.view r.of W9' HH.out HH2.out) rfl ?_;simp only [Act.put,Sa,Sz,Ss])
 ((iterate 1 (refine Rm.wpMix_plain rfl rfl ?_;go_big_quiet_step (fail);refine wpQuiet_nil ?_));(refine Rm.wpMix_load1 (fun W9' h9=>show W9'.cell? _=some (.int .i64 r.me) from bx_cell (Ext.box h9 HB.out) 0) rfl rfl rfl Tryz.underlying3 rfl ?_;simp only [Act.put,Sa,Sz,Ss]);(iterate 1 (refine Rm.wpMix_plain rfl rfl ?_;go_big_quiet_step (fail);refine wpQuiet_nil ?_)))
 refine Rm.wpMix_nil ?_
 rintro W1 hW1
 have x1:Ext (w.alloc (Rp.obj a A n c r)) W1:=hW1
 go_wp2
 go_ret
 exact ⟨ret_bool (by unfold leadsB;exact Bool.eq_iff_iff.2 (by simp only [beq_iff_eq];exact eq_comm)),Ext.trans X0 x1⟩
structure OsK (w:World) (B:Nat) (A:Option Addr) (c:Nat) (os:List OtE):Prop where
 row:Ow OtE.enc 117 18 w B (.slice A os.length c) os
 logs:OsF w B os
section
variable {w w':World} {B:Nat} {A:Option Addr} {c:Nat} {os:List OtE}
theorem OsK.keep (h:OsK w B A c os) (hx:Ext w w'):OsK w' B A c os:=⟨h.row.kept hx,fun q hq=>(h.logs q hq).keep hx⟩
theorem OsK.rd (h:OsK w B A c os):OsR w A c os:=⟨(Ow.rdF OtE.len h.row).1,fun q hq=>(h.logs q hq).rd⟩
theorem OsK.boxed {p:Nat} {cs:Array Value} {t:TypeId} (h:OsK w B A c os) (hb:w.heap[p]?=some (.cells cs t (0,0))) (h1:t≠124) (h2:t≠126) (h3:t≠65) (h4:t≠117) (hg:Chg w w' [p]):OsK w' B A c os :=
 ⟨h.row.chg hg (fun k hk hm=>by rw [Mi] at hm;subst hm;exact box_apart hb h.row h4 hk),fun q hq=>(h.logs q hq).boxed hb h1 h2 h3 hg⟩
theorem OsK.nil {p:Nat} (h:w.heap[p]?=some (.cells #[] 117 (0,0))) (hB:B≤p):OsK w B (some ⟨p,0,none⟩) 0 []:=⟨own_empty h hB,fun q hq=>(List.not_mem_nil hq).elim⟩
theorem OsK.one {p:Nat} {a:LAd} {o:Ot} (h:w.heap[p]?=some (.cells (OtE.cells a o) 117 (0,0))) (hB:B≤p) (hl:LgF w B a o.msg.log):OsK w B (some ⟨p,0,none⟩) 1 [(a,o)] :=
 ⟨own_one h hB rfl (OtE.len _),fun q hq=>by rw [Mi] at hq;subst hq;exact hl⟩
theorem none_lgF (w:World) (B:Nat):LgF w B LAd.none Lg.none:=⟨RdF.nil _ _ _ _ _,RdF.nil _ _ _ _ _,RdF.nil _ _ _ _ _⟩
theorem RoT.of {a:LAd} {A':Option Addr} {c':Nat} {qs:List VtE} {R:Rp} {B':Nat} {O:List Ot} (h:RpF w B' a A' c' qs R) (k:OsK w B A c os) (e:List.map Prod.snd os=O):RoT w R O (.tuple #[Rp.val a A' (List.length qs) c' R, .slice A (List.length os) c]) :=
 ⟨a,A',c',qs,A,c,os,rfl,h.rd,k.rd,e,fun w2 p cs hp hc=>⟨(h.boxed hp hc).rd,(k.boxed hp (by decide) (by decide) (by decide) (by decide) hc).rd⟩⟩
end
theorem c_l6Ask (a:LAd) (A:Option Addr) (n c:Nat) (r:Rp) (view op to:Int) (w:World):Calls Tryz.prog 204 #[Rp.val a A n c r, .int .i64 view, .int .i64 op, .int .i64 to] w fun e w'=>(∃ p,e = .returned (.slice (some ⟨p,0,none⟩) 1 1)∧w.heap.size≤p∧OsK w' w.heap.size (some ⟨p,0,none⟩) 1 [(LAd.none,⟨to,askM2 r view op⟩)])∧Ext w w':=by
 have X0:=ext_alloc w (Rp.obj a A n c r)
 go_enter Tryz.func204,Tryz.ntmps204
 go_wp2
 go_ret
 exact ⟨⟨_,rfl,by simp,OsK.one (hNew (by simp)) (by simp) (none_lgF _ _)⟩,ext_to X0 _⟩
theorem c_l1Max (a b:Int) (w:World):Calls Tryz.prog 118 #[.int .i64 a, .int .i64 b] w fun e w'=>e = .returned (.int .i64 (max a b))∧Ext w w':=by
 go_enter Tryz.func118,Tryz.ntmps118
 go_wp2
 all_goals
  go_ret
  exact ⟨ret_int (by omega),ext_refl _⟩
theorem c_l1Min (a b:Int) (w:World):Calls Tryz.prog 121 #[.int .i64 a, .int .i64 b] w fun e w'=>e = .returned (.int .i64 (min a b))∧Ext w w':=by
 go_enter Tryz.func121,Tryz.ntmps121
 go_wp2
 all_goals
  go_ret
  exact ⟨ret_int (by omega),ext_refl _⟩
theorem rp_whole {w w':World} {p:Nat} {a:LAd} {A:Option Addr} {n c:Nat} {r:Rp} (hb:w.heap[p]?=some (Rp.obj a A n c r)) (hx:Ext w w'):∀ j v,(Rp.cs a A n c r).toList[j]?=some v→w'.cell? ⟨p,0+j,none⟩=some v:=cells_mid (cs:=Rp.cs a A n c r) (hx.box hb) [] [] rfl rfl
theorem mg_whole {w w':World} {p:Nat} {a:LAd} {m:Mg} (hb:w.heap[p]?=some (Mg.obj a m)) (hx:Ext w w'):∀ j v,(Mg.cs a m).toList[j]?=some v→w'.cell? ⟨p,0+j,none⟩=some v:=cells_mid (cs:=Mg.cs a m) (hx.box hb) [] [] rfl rfl
theorem rp_log {w w':World} {p:Nat} {a:LAd} {A:Option Addr} {n c:Nat} {r:Rp} (hb:w.heap[p]?=some (Rp.obj a A n c r)) (hx:Ext w w'):∀ j v,(Lg.cs a r.log).toList[j]?=some v→w'.cell? ⟨p,6+j,none⟩=some v :=
 cells_mid (cs:=Lg.cs a r.log) (hx.box hb) [.int .i64 r.me, .int .i64 r.of, .int .i64 r.mode, .int .i64 r.view, .int .i64 r.normal, .int .i64 r.commit] [.slice A n c, .int .i64 r.cell, .int .i64 r.nonce] rfl rfl
theorem lg_whole {w w':World} {p:Nat} {a:LAd} {l:Lg} (hb:w.heap[p]?=some (.cells (Lg.cs a l) 30 (0,0))) (hx:Ext w w'):∀ j v,(Lg.cs a l).toList[j]?=some v→w'.cell? ⟨p,0+j,none⟩=some v:=cells_mid (cs:=Lg.cs a l) (hx.box hb) [] [] rfl rfl
theorem OsK.less {w:World} {B B':Nat} {A:Option Addr} {c:Nat} {os:List OtE} (h:OsK w B A c os) (hB:B'≤B):OsK w B' A c os:=⟨h.row.less hB,fun q hq=>(h.logs q hq).less hB⟩
set_option maxRecDepth 100000 in
set_option maxHeartbeats 4000000 in
theorem c_l7Take (a:LAd) (A:Option Addr) (n c:Nat) (R:Rp) (view:Int) (al:LAd) (l:Lg) (commit:Int) (w:World) (hl:LgR w al l) (hs:l.small) (hok:logOk l=true) :
  Calls Tryz.prog 205 #[Rp.val a A n c R, .int .i64 view,Lg.val al l, .int .i64 commit] w fun e w'=>(∃ a' g,e = .returned (Rp.val a' (some ⟨g,0,none⟩) 0 0 (R.lead view l (max commit R.commit)))∧RpF w' w.heap.size a' (some ⟨g,0,none⟩) 0 [] (R.lead view l (max commit R.commit)))∧Ext w w':=by
 have HL:=Hd hl
 have HS:=Hd hs
 have HO:=Hd hok
 obtain ⟨R1,hR1⟩:∃ R1:Rp,R1=⟨R.me,R.of,1,view,view,R.commit,R.log,R.votes,view,R.nonce⟩:=⟨_,rfl⟩
 have X0:Ext w (((w.alloc (Rp.obj a A n c ⟨R.me,R.of,1,view,view,R.commit,R.log,R.votes,view,R.nonce⟩)).alloc (.cells (Lg.cs al l) 30)).alloc Rp.zobj):=ext_to (ext_to (ext_alloc _ _) _) _
 have D1:=Hd (hOld (o:=Rp.zobj) (hOld (o := .cells (Lg.cs al l) 30) (hNew (w:=w) (o:=Rp.obj a A n c ⟨R.me,R.of,1,view,view,R.commit,R.log,R.votes,view,R.nonce⟩) rfl)))
 have D2:=Hd (hOld (o:=Rp.zobj) (hNew (w:=w.alloc (Rp.obj a A n c ⟨R.me,R.of,1,view,view,R.commit,R.log,R.votes,view,R.nonce⟩)) (o := .cells (Lg.cs al l) 30) (k:=w.heap.size+1) (by simp)))
 have D3:=Hd (hNew (w:=(w.alloc (Rp.obj a A n c ⟨R.me,R.of,1,view,view,R.commit,R.log,R.votes,view,R.nonce⟩)).alloc (.cells (Lg.cs al l) 30)) (o:=Rp.zobj) (k:=w.heap.size+1+1) (by simp))
 have HX0:=Hd X0
 clear hl hs hok X0 hR1 R1
 go_enter Tryz.func205,Tryz.ntmps205
 (go_wp2_with (with_reducible refine wl_stop 16 ?_);refine stop_load (D2.out) rfl Tryz.underlying30 (by kernel_rfl) ?_;simp only [Act.put,Sa,Sz,Ss])
 go_wp2_with fail
 refine (c_l3Copy al l HS.out _ (HL.out.keep HX0.out)).mono ?_
 rintro e w4 ⟨a4,rfl,f4,x4⟩
 have E1:=x4.box D1.out
 have b1:=bx_cell E1
 have g1:=bx_frozen E1
 have z1:=bx_lt E1
 have P4:=box_put (box_put (box_put (box_put E1 6 (.int .i64 l.base)) 7 (.slice a4.cA l.cells.length a4.cc)) 8 (.slice a4.sA l.seats.length a4.sc)) 9 (.slice a4.eA l.ents.length a4.ec)
 simp only [Sa,Sz,Ss] at P4
 have c4:=chg_set (chg_set (chg_set (chg_set (Chg.refl w4 [w.heap.size]) (p:=⟨w.heap.size,6,none⟩) (by simp) (.int .i64 l.base)) (p:=⟨w.heap.size,7,none⟩) (by simp) (.slice a4.cA l.cells.length a4.cc)) (p:=⟨w.heap.size,8,none⟩) (by simp) (.slice a4.sA l.seats.length a4.sc)) (p:=⟨w.heap.size,9,none⟩) (by simp) (.slice a4.eA l.ents.length a4.ec)
 have HP4:=Hd P4
 have HF4:=Hd ((f4.less (B':=w.heap.size+1+1+1) (by simp)).chg c4 (fun k hk=>by rw [Mi] at hk;omega))
 have HB4:=Hd (box_out' (x4.box D2.out) c4 (by simp))
 have HZ4:=Hd (box_out' (x4.box D3.out) c4 (by simp;omega))
 have HX4:=Hd (chg_new (Ext.trans HX0.out x4) c4 (Nat.le_refl _))
 clear E1 P4 c4 f4 x4 D1 D2 D3 HX0
 go_wp2
 refine code_go (F:=fun W=>W.heap[w.heap.size]?=some (Rp.obj a4 A n c ⟨R.me,R.of,1,view,view,R.commit,l,R.votes,view,R.nonce⟩)∧LgF W (w.heap.size+1+1+1) a4 l∧W.heap[w.heap.size+1]?=some (.cells (Lg.cs al l) 30)∧W.heap[w.heap.size+1+1]?=some Rp.zobj∧Ext w W) ⟨HP4.out,HF4.out,HB4.out,HZ4.out,HX4.out⟩ ?_
 intro W5 ⟨e5,f5,b5,z5,x5⟩
 have E5:=Hd e5
 have F5:=Hd f5
 have B5:=Hd b5
 have Z5:=Hd z5
 have X5:=Hd x5
 have hz5:=bx_lt z5
 clear e5 f5 b5 z5 x5 HP4 HF4 HB4 HZ4 HX4 b1 g1 z1
 (refine Rm.wp_region_mix' (R:=relE W5.heap.size) (fun _ _ _=>True) (fun _ _ _ _ _ hq=>hq) 8 (by first | exact Nat.le_refl _ | omega | (simp;omega)) (by kernel_rfl) (by kernel_rfl) ?_;simp only [Tc,Tz,Dc,Dz])
 ((iterate 2 (refine Rm.wpMix_plain rfl rfl ?_;go_big_quiet_step (fail);refine wpQuiet_nil ?_)))
 (refine Rm.wpMix_load1 (fun W9' h9=>show W9'.cell? _=some (.int .i64 R.commit) from bx_cell (Ext.box h9 E5.out) 5) rfl rfl rfl Tryz.underlying3 rfl ?_;simp only [Act.put,Sa,Sz,Ss])
 (refine Rm.wpMix_det rfl rfl rfl (enters Tryz.func118 (by kernel_rfl) rfl) (fun W9' h9=>c_l1Max commit R.commit W9') rfl ?_;simp only [Act.put,Sa,Sz,Ss])
 (refine Rm.wpMix_loadAgg (fun W9' h9=>lg_whole B5.out h9) rfl rfl rfl Tryz.underlying30 (by kernel_rfl) ?_;simp only [Act.put,Sa,Sz,Ss])
 (refine Rm.wpMix_det rfl rfl rfl (enters Tryz.func9 (by kernel_rfl) rfl) (fun W9' h9=>c_sLogEnd al l HS.out.1 HS.out.2.1 HS.out.2.2 W9' (HL.out.keep (Ext.trans X5.out h9)) HO.out) rfl ?_;simp only [Act.put,Sa,Sz,Ss])
 (refine Rm.wpMix_det rfl rfl rfl (enters Tryz.func121 (by kernel_rfl) rfl) (fun W9' h9=>c_l1Min (max commit R.commit) l.fin W9') rfl ?_;simp only [Act.put,Sa,Sz,Ss])
 (iterate 1 (refine Rm.wpMix_plain rfl rfl ?_;go_big_quiet_step (fail);refine wpQuiet_nil ?_))
 refine Rm.wpMix_nil ?_
 rintro W6 hW
 have x6:Ext W5 W6:=hW
 have E6:=x6.box E5.out
 have b6:=bx_cell E6
 have g6:=bx_frozen E6
 have z6:=bx_lt E6
 have P6:=box_put (box_put E6 5 (.int .i64 (min (max commit R.commit) l.fin))) 10 (.slice (some ⟨W6.heap.size,0,none⟩) 0 0)
 simp only [Sa,Sz,Ss] at P6
 have c6:=chg_set (chg_set (Chg.refl W6 [w.heap.size]) (p:=⟨w.heap.size,5,none⟩) (by simp) (.int .i64 (min (max commit R.commit) l.fin))) (p:=⟨w.heap.size,10,none⟩) (by simp) (.slice (some ⟨W6.heap.size,0,none⟩) 0 0)
 have HP6:=Hd (hOld (o := .cells #[] 57) P6)
 have HF6:=Hd (((F5.out.keep x6).chg c6 (fun k hk=>by rw [Mi] at hk;omega)).keep (ext_alloc _ (.cells #[] 57)))
 have HZ6:=Hd (hOld (o := .cells #[] 57) (box_out' (x6.box Z5.out) c6 (by simp;omega)))
 have HX6:=Hd (Ext.trans (chg_new (Ext.trans X5.out x6) c6 (Nat.le_refl _)) (ext_alloc _ (.cells #[] 57)))
 clear E6 P6 c6 x6 hW E5 F5 B5 Z5 X5
 go_wp2_with (with_reducible refine wl_stop 29 ?_)
 refine stop_go (F:=fun W=>W.heap[w.heap.size]?=some (Rp.obj a4 (some ⟨W6.heap.size,0,none⟩) 0 0 (R.lead view l (max commit R.commit)))∧LgF W (w.heap.size+1+1+1) a4 l∧W.heap[w.heap.size+1+1]?=some Rp.zobj∧Ext w W) ⟨HP6.out,HF6.out,HZ6.out,HX6.out⟩ ?_
 intro W7 ⟨e7,f7,z7,x7⟩
 have E7:=Hd e7
 have F7:=Hd f7
 have Z7:=Hd z7
 have X7:=Hd x7
 clear e7 f7 z7 x7 HP6 HF6 HZ6 HX6 b6 g6 z6
 (go_wp2_with (with_reducible refine wl_stop 29 ?_);refine stop_load (E7.out) rfl Tryz.underlying33 (by kernel_rfl) ?_;simp only [Act.put,Sa,Sz,Ss])
 (go_wp2_with (with_reducible refine wl_stopS 33 ?_);refine stop_store ((w.heap.size+1+1)) (Rp.cs a4 (some ⟨W6.heap.size,0,none⟩) 0 0 (R.lead view l (max commit R.commit))) rfl rfl (Z7.out) (by kernel_rfl) rfl (by simp [Value.oneCell']) ?_)
 intro W9 e9 k9
 have HE9:=Hd e9
 have HX9:=Hd (chg_new X7.out k9 (by omega))
 have HF9:=Hd ((F7.out.chg k9 (fun k hk=>by rw [Mi] at hk;omega)).less (B':=w.heap.size) (by omega))
 clear e9 k9
 go_wp2
 exact bodyPost_ret (results_box Tryz.results205 rfl Tryz.underlying33 (by kernel_rfl) HE9.out) rfl ⟨⟨a4,W6.heap.size,rfl,HF9.out,⟨⟨Nat.le_refl _,by unfold maxLen;omega,fun h=>absurd h (by simp)⟩,fun h=>absurd h (by simp)⟩,fun p hp=>(List.not_mem_nil hp).elim,rfl⟩,HX9.out⟩
def half2 (r:Rp):Int:=Int.tdiv (r.of - 1) 2
theorem half2_nn {r:Rp} (h:0≤r.of):0≤half2 r:=by
 unfold half2
 by_cases h:r.of=0
 ·rw [h];decide
 ·exact Int.tdiv_nonneg (by omega) (by omega)
theorem e_l6Half (a:LAd) (A:Option Addr) (n c:Nat) (r:Rp) (w:World) (h0:0≤r.of) (h1:r.of≤100):Calls Tryz.prog 88 #[Rp.val a A n c r] w fun e w'=>e = .returned (.int .i64 (half2 r))∧Ext w w':=by
 have X0:=ext_alloc w (Rp.obj a A n c r)
 go_enter Tryz.func88,Tryz.ntmps88
 go_wp2
 go_ret
 exact ⟨rfl,X0⟩
end Go.Proofs.YtikelfmmldafpaaGreat
