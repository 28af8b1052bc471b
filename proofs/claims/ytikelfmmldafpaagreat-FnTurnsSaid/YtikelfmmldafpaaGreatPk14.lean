/- What a replica does when it hears, in plain words. -/
import Derived.Test.YtikelfmmldafpaaGreatPk13
import Derived.Lib.MinMax
import Derived.Test.YtikelfmmldafpaaGreatRows
import Derived.Test.YtikelfmmldafpaaGreatPk1
import Derived.OpenShut
import Derived.Carry
import Derived.Lib.SmallJoins
import Derived.Deep.Slices
import Derived.Deep.Fields
import Derived.Test.YtikelfmmldafpaaGreatPk4
import Derived.Test.YtikelfmmldafpaaGreatPk7
namespace Go.Proofs.YtikelfmmldafpaaGreat
open Go.ChangeShapes Go.WideShapes Go.ChangeAt Go.RowKit Go.Sort
set_option linter.unusedVariables false
set_option linter.unusedSimpArgs false
abbrev Lg.cs (a:LAd) (l:Lg):Array Value:=#[.int .i64 l.base, .slice a.cA l.cells.length a.cc, .slice a.sA l.seats.length a.sc, .slice a.eA l.ents.length a.ec]
def liveB (r:Rp):Bool:=(r.mode == 1) || (r.mode == 2)
def leadsB (r:Rp):Bool:=r.me == r.view % r.of
def askM2 (r:Rp) (view op:Int):Mg:=⟨10,r.me,view,op,0,0,0,0,0,0,0,0,0,Lg.none⟩
def Rp.lead (r:Rp) (view:Int) (l:Lg) (commit:Int):Rp:=⟨r.me,r.of,1,view,view,min commit l.fin,l,[],view,r.nonce⟩
def followB (r:Rp) (m:Mg):Bool:=(m.view == r.view) && ((r.mode == 1) && (!(leadsB r) && (m.frm == r.view % r.of)))
def followO (r:Rp) (m:Mg):List Ot:=if (liveB r && decide (r.view < m.view))=true then [⟨m.frm,askM2 r m.view r.commit⟩] else []
theorem logOk_facts {l:Lg} (h:logOk l=true):0≤l.base∧l.base≤1000000000∧l.ents.length≤60∧l.fin≤1000000000:=by
 have h1:=of_decide_eq_true h
 have h2:=(inB_yes _ _ _).1 h1.1
 have h3:=(inB_yes _ _ _).1 h1.2.2.2.1
 exact ⟨h2.1,h2.2,h1.2.2.1,h3.2⟩
structure RpGood (r:Rp):Prop where
 of:r.of=1∨r.of=3∨r.of=5
 me0:0≤r.me
 me1:r.me < r.of
 view0:0≤r.view
 view1:r.view≤1000000000
 lok:logOk r.log=true
 base0:0≤r.log.base
 base1:r.log.base≤1000000000
 ents:r.log.ents.length≤60
 fin:r.log.fin≤1000000000
 c0:r.log.base≤r.commit
 c1:r.commit≤r.log.fin
 votes:r.votes.length≤20
theorem rpOk_good {r:Rp} (h:rpOk r=true):RpGood r:=by
 unfold rpOk at h
 simp only [Bool.and_eq_true,decide_eq_true_eq,inB_yes] at h
 obtain ⟨⟨⟨⟨⟨⟨⟨⟨⟨h1,h2⟩,h3⟩,h4⟩,h5⟩,h6⟩,h7⟩,h8⟩,h9⟩,h10⟩:=h
 have ho:r.of=1∨r.of=3∨r.of=5:=by simp [ofB] at h1;omega
 obtain ⟨k1,k2,k3⟩:=hasNum_ok h7
 obtain ⟨g1,g2,g3,g4⟩:=logOk_facts k1
 exact ⟨ho,h2.1,by omega,h3.1,h3.2,k1,g1,g2,g3,g4,k2,k3,h8⟩
theorem hear_facts {r:Rp} {m:Mg} {kind:Int} (h:(rpOk r && hearB r m kind)=true):rpOk r=true∧iFits m=true∧m.kind=kind:=by
 unfold hearB at h
 simp only [Bool.and_eq_true,beq_iff_eq] at h
 exact ⟨h.1,h.2.1,h.2.2.1⟩
theorem c_awake (p:Nat) (a:LAd) (A:Option Addr) (n c:Nat) (r:Rp) (O:Value) (w:World) (hb:w.heap[p]?=some (Kp.obj a A n c r O)):Calls Tryz.prog 15 #[.pointer (some ⟨p,0,none⟩)] w fun e w'=>e = .returned (.bool (liveB r))∧Ext w w':=by
 have d:=bx_cell hb
 have z:=bx_lt hb
 clear hb
 go_enter Tryz.func15,Tryz.ntmps15
 go_wp2
 all_goals
  go_ret
  exact ⟨ret_bool (by simp_all [liveB]),ext_refl _⟩
set_option maxHeartbeats 1000000 in
theorem c_isPrimary (p:Nat) (a:LAd) (A:Option Addr) (n c:Nat) (r:Rp) (O:Value) (w:World) (hb:w.heap[p]?=some (Kp.obj a A n c r O)) (ho:r.of=1∨r.of=3∨r.of=5) (h0:0≤r.view):Calls Tryz.prog 59 #[.pointer (some ⟨p,0,none⟩)] w fun e w'=>e = .returned (.bool (leadsB r))∧Ext w w':=by
 have HB:=Hd hb
 have ho':r.of≠0:=by omega
 have ho2:(r.of == 0)=false:=by simpa using ho'
 clear hb ho
 go_enter Tryz.func59,Tryz.ntmps59
 go_wp2
 (refine Rm.wp_region_mix' (R:=relE w.heap.size) (fun _ _ _=>True) (fun _ _ _ _ _ hq=>hq) 18 (by first | exact Nat.le_refl _ | omega | (simp;omega)) (by kernel_rfl) (by kernel_rfl) ?_;simp only [Tc,Tz,Dc,Dz])
 ((iterate 1 (refine Rm.wpMix_plain rfl rfl ?_;go_big_quiet_step (fail);refine wpQuiet_nil ?_));(refine Rm.wpMix_nilp rfl rfl rfl ?_;simp only [Act.put,Sa,Sz,Ss]);(iterate 2 (refine Rm.wpMix_plain rfl rfl ?_;go_big_quiet_step (fail);refine wpQuiet_nil ?_));(refine Rm.wpMix_load1 (fun W9' h9=>show W9'.cell? _=some (.int .i64 r.me) from bx_cell (Ext.box h9 HB.out) 0) rfl rfl rfl Tryz.underlying3 rfl ?_;simp only [Act.put,Sa,Sz,Ss]);(iterate 1 (refine Rm.wpMix_plain rfl rfl ?_;go_big_quiet_step (fail);refine wpQuiet_nil ?_));(refine Rm.wpMix_nilp rfl rfl rfl ?_;simp only [Act.put,Sa,Sz,Ss]);(iterate 2 (refine Rm.wpMix_plain rfl rfl ?_;go_big_quiet_step (fail);refine wpQuiet_nil ?_));(refine Rm.wpMix_load1 (fun W9' h9=>show W9'.cell? _=some (.int .i64 r.view) from bx_cell (Ext.box h9 HB.out) 3) rfl rfl rfl Tryz.underlying3 rfl ?_;simp only [Act.put,Sa,Sz,Ss]);(iterate 1 (refine Rm.wpMix_plain rfl rfl ?_;go_big_quiet_step (fail);refine wpQuiet_nil ?_));(refine Rm.wpMix_nilp rfl rfl rfl ?_;simp only [Act.put,Sa,Sz,Ss]);(iterate 2 (refine Rm.wpMix_plain rfl rfl ?_;go_big_quiet_step (fail);refine wpQuiet_nil ?_));(refine Rm.wpMix_load1 (fun W9' h9=>show W9'.cell? _=some (.int .i64 r.of) from bx_cell (Ext.box h9 HB.out) 1) rfl rfl rfl Tryz.underlying3 rfl ?_;simp only [Act.put,Sa,Sz,Ss]))
 ((iterate 3 (refine Rm.wpMix_plain rfl rfl ?_;go_big_quiet_step (fail);refine wpQuiet_nil ?_)))
 refine Rm.wpMix_nil ?_
 rintro W1 hW1
 have x1:Ext w W1:=hW1
 go_wp2
 go_ret
 exact ⟨rfl,x1⟩
set_option maxHeartbeats 1000000 in
theorem c_half (p:Nat) (a:LAd) (A:Option Addr) (n c:Nat) (r:Rp) (O:Value) (w:World) (hb:w.heap[p]?=some (Kp.obj a A n c r O)) (ho:r.of=1∨r.of=3∨r.of=5):Calls Tryz.prog 81 #[.pointer (some ⟨p,0,none⟩)] w fun e w'=>e = .returned (.int .i64 ((r.of - 1) / 2))∧Ext w w':=by
 have d:=bx_cell hb
 have z:=bx_lt hb
 have h1:1≤r.of∧r.of≤5:=by omega
 clear hb ho
 go_enter Tryz.func81,Tryz.ntmps81
 go_wp2
 go_ret
 exact ⟨rfl,ext_refl _⟩
theorem kp_log {w w':World} {p:Nat} {a:LAd} {A:Option Addr} {n c:Nat} {r:Rp} {O:Value} (hb:w.heap[p]?=some (Kp.obj a A n c r O)) (hx:Ext w w'):∀ j v,(Lg.cs a r.log).toList[j]?=some v→w'.cell? ⟨p,6+j,none⟩=some v :=
 cells_mid (cs:=Lg.cs a r.log) (hx.box hb) [.int .i64 r.me, .int .i64 r.of, .int .i64 r.mode, .int .i64 r.view, .int .i64 r.normal, .int .i64 r.commit] [.slice A n c, .int .i64 r.cell, .int .i64 r.nonce,O] rfl rfl
section
variable {W0 w:World} {p:Nat} {a:LAd} {A:Option Addr} {c:Nat} {qs:List VtE} {R:Rp} {Ao:Option Addr} {co:Nat} {os:List OtE}
theorem none_small:Lg.none.small:=⟨by simp [Lg.none],by simp [Lg.none],by simp [Lg.none]⟩
theorem none_rd (w:World):LgR w LAd.none Lg.none:=⟨⟨Nat.le_refl _,by unfold maxLen;decide,fun h=>absurd h (by decide)⟩,⟨Nat.le_refl _,by unfold maxLen;decide,fun h=>absurd h (by decide)⟩,⟨Nat.le_refl _,by unfold maxLen;decide,fun h=>absurd h (by decide)⟩⟩
set_option maxHeartbeats 2000000 in
theorem c_askState (hk:KZ W0 w p a A c qs R Ao co os) (to view op:Int) (hos:os.length≤100000) :
  Calls Tryz.prog 31 #[.pointer (some ⟨p,0,none⟩), .int .i64 to, .int .i64 view, .int .i64 op] w fun e w'=>e = .returned (.tuple #[])∧∃ A' c' a',KZ W0 w' p a A c qs R A' c' (os++[(a',⟨to,askM2 R view op⟩)]):=by
 have HK:=Hd hk
 have d:=bx_cell hk.box
 have z:=bx_lt hk.box
 clear hk
 go_enter Tryz.func31,Tryz.ntmps31
 go_wp2_with fail
 refine (c_sendZ W0 p a A c qs R os Ao co to LAd.none (askM2 R view op) w HK.out (none_rd _) (show Lg.none.small from none_small) hos).mono ?_
 rintro e w2 ⟨rfl,A2,c2,a2,hk2,cg⟩
 have HK2:=Hd hk2
 clear hk2 cg d z
 go_wp2
 exact bodyPost_end (v := .tuple #[]) (by simp [results,Tryz.results31,go_sem]) rfl ⟨rfl,A2,c2,a2,HK2.out⟩
set_option maxRecDepth 100000 in
set_option maxHeartbeats 4000000 in
theorem c_lead (hk:KZ W0 w p a A c qs R Ao co os) (view:Int) (al:LAd) (l:Lg) (commit:Int) (hl:∀ W,Chg w W [p]→LgR W al l) (hs:l.small) (h0:0≤l.base) (h1:l.base≤1000000000) (h2:l.ents.length≤60) :
  Calls Tryz.prog 130 #[.pointer (some ⟨p,0,none⟩), .int .i64 view,Lg.val al l, .int .i64 commit] w fun e w'=>e = .returned (.tuple #[])∧∃ a',KZ W0 w' p a' none 0 [] (R.lead view l commit) Ao co os:=by
 have B0:=hk.box
 have hlt:=bx_lt B0
 have d:=bx_cell B0
 have g:=bx_frozen B0
 have P0:=box_put (box_put (box_put (box_put B0 2 (.int .i64 1)) 3 (.int .i64 view)) 4 (.int .i64 view)) 11 (.int .i64 view)
 simp only [Sa,Sz,Ss] at P0
 have c0:=chg_set (chg_set (chg_set (chg_set (Chg.refl w [p]) (p:=⟨p,2,none⟩) (by simp) (.int .i64 1)) (p:=⟨p,3,none⟩) (by simp) (.int .i64 view)) (p:=⟨p,4,none⟩) (by simp) (.int .i64 view)) (p:=⟨p,11,none⟩) (by simp) (.int .i64 view)
 have HP0:=Hd ((hk.put (R':=⟨R.me,R.of,1,view,view,R.commit,R.log,R.votes,view,R.nonce⟩) c0 P0 rfl rfl).keep (ext_alloc _ (.cells (Lg.cs al l) 30)))
 have HB0:=Hd (hNew (w:=(((w.setCell ⟨p,2,none⟩ (.int .i64 1)).setCell ⟨p,3,none⟩ (.int .i64 view)).setCell ⟨p,4,none⟩ (.int .i64 view)).setCell ⟨p,11,none⟩ (.int .i64 view)) (o := .cells (Lg.cs al l) 30) (k:=w.heap.size) (by simp))
 have HL0:=Hd (hl _ (c0.trans (chg_ext [p] (ext_alloc _ (.cells (Lg.cs al l) 30)))))
 clear hk hl B0 P0 c0
 go_enter Tryz.func130,Tryz.ntmps130
 go_wp2_with (with_reducible refine wl_stop 28 ?_)
 refine stop_go (F:=fun W=>KZ W0 W p a A c qs ⟨R.me,R.of,1,view,view,R.commit,R.log,R.votes,view,R.nonce⟩ Ao co os∧W.heap[w.heap.size]?=some (.cells (Lg.cs al l) 30)∧LgR W al l) ⟨HP0.out,HB0.out,HL0.out⟩ ?_
 intro W3 ⟨k3,b3,l3⟩
 have K3:=Hd k3
 have B3:=Hd b3
 have L3:=Hd l3
 clear k3 b3 l3 d g HP0 HB0 HL0
 (go_wp2_with (with_reducible refine wl_stop 28 ?_);refine stop_load (B3.out) rfl Tryz.underlying30 (by kernel_rfl) ?_;simp only [Act.put,Sa,Sz,Ss])
 go_wp2_with fail
 refine (c_copyLog al l hs _ L3.out).mono ?_
 rintro e w4 ⟨a',rfl,o4,x4⟩
 have O4:=Hd o4
 have X4:=Hd x4
 have D4:=x4.box K3.out.box
 have d4:=bx_cell D4
 have g4:=bx_frozen D4
 have z4:=bx_lt D4
 have P4:=box_put (box_put (box_put (box_put D4 6 (.int .i64 l.base)) 7 (.slice a'.cA l.cells.length a'.cc)) 8 (.slice a'.sA l.seats.length a'.sc)) 9 (.slice a'.eA l.ents.length a'.ec)
 simp only [Sa,Sz,Ss] at P4
 have c4:=chg_set (chg_set (chg_set (chg_set (Chg.refl w4 [p]) (p:=⟨p,6,none⟩) (by simp) (.int .i64 l.base)) (p:=⟨p,7,none⟩) (by simp) (.slice a'.cA l.cells.length a'.cc)) (p:=⟨p,8,none⟩) (by simp) (.slice a'.sA l.seats.length a'.sc)) (p:=⟨p,9,none⟩) (by simp) (.slice a'.eA l.ents.length a'.ec)
 have HP4:=Hd P4
 have HC4:=Hd c4
 have HB4:=Hd (box_out' (x4.box B3.out) c4 (by simp;omega))
 clear o4 x4 D4 P4 c4 B3 L3
 go_wp2_with (with_reducible refine wl_stop 35 ?_)
 refine stop_go (F:=fun W=>W.heap[p]?=some (Kp.obj a' A qs.length c ⟨R.me,R.of,1,view,view,R.commit,l,R.votes,view,R.nonce⟩ (.slice Ao os.length co))∧Chg w4 W [p]∧W.heap[w.heap.size]?=some (.cells (Lg.cs al l) 30)) ⟨HP4.out,HC4.out,HB4.out⟩ ?_
 intro W5 ⟨k5,c5,b5⟩
 have K5:=Hd k5
 have C5:=Hd c5
 have B5:=Hd b5
 clear k5 c5 b5 d4 g4 z4 HP4 HC4 HB4
 (go_wp2_with (with_reducible refine wl_stop 35 ?_);refine stop_load (B5.out) rfl Tryz.underlying30 (by kernel_rfl) ?_;simp only [Act.put,Sa,Sz,Ss])
 go_wp2_with fail
 refine (c_end al l _ (by omega) (by omega) (by omega)).mono ?_
 rintro e w6 ⟨rfl,x6⟩
 have D6:=x6.box K5.out
 have d6:=bx_cell D6
 have g6:=bx_frozen D6
 have z6:=bx_lt D6
 have P6:=box_put (box_put D6 5 (.int .i64 (min commit l.fin))) 10 (.slice none 0 0)
 simp only [Sa,Sz,Ss] at P6
 have c6:=(C5.out.trans (chg_ext [p] x6)).trans (chg_set (chg_set (Chg.refl w6 [p]) (p:=⟨p,5,none⟩) (by simp) (.int .i64 (min commit l.fin))) (p:=⟨p,10,none⟩) (by simp) (.slice none 0 0))
 have HF:=Hd (K3.out.led (R':=R.lead view l commit) X4.out O4.out c6 P6 rfl)
 clear D6 P6 c6 x6 K3 X4 O4 C5 K5 B5
 go_wp2
 exact bodyPost_end (v := .tuple #[]) (by simp [results,Tryz.results130,go_sem]) rfl ⟨rfl,a',HF.out⟩
end
end Go.Proofs.YtikelfmmldafpaaGreat
namespace Go.Proofs.YtikelfmmldafpaaGreat
open Go.ChangeShapes Go.WideShapes Go.ChangeAt Go.RowKit Go.Joins Go.Deep
set_option linter.unusedVariables false
theorem own:ownKnob Tryz.prog.godebug=none:=by kernel_rfl
theorem laidOut:laidOutB Tryz.prog=true:=by kernel_rfl
theorem trodAll_stays {P:Program} (laid:laidOutB P=true) {H:Type} {enc:TypeId×Value→H} {W W':World} (hx:Ext W W'):∀ (ts:List TypeId) (vs:List Value) (ds:List (DataW H)) (ps:List MemPlace),
  (ts.all fun t=>P.readableRec t && decide (t < P.types.size))=true→(∀ x∈ps,x.block < W.heap.size)→DataW.TrodAll enc P W 0 (fun _=>true) true ts vs ds ps →
  DataW.TrodAll enc P W' 0 (fun b=>decide (b < W.heap.size)) true ts vs ds ps
 | [],[],[],ps,_,_,h=>h
 | t::ts,v::vs,d::ds,ps,hr,hlt,h=>by
  obtain ⟨p,q,h1,h2,rfl⟩:=h
  simp only [List.all_cons,Bool.and_eq_true,decide_eq_true_eq] at hr
  exact ⟨p,q,Below.trod laid hr.1.1 hr.1.2 h1 hx (fun x hx=>hlt x (List.mem_append_left _ hx)),trodAll_stays laid hx ts vs ds q hr.2 (fun x hx=>hlt x (List.mem_append_right _ hx)) h2,rfl⟩
 | [],[],_::_,_,_,_,h=>h.elim
 | [],_::_,[],_,_,_,h=>h.elim
 | [],_::_,_::_,_,_,_,h=>h.elim
 | _::_,[],[],_,_,_,h=>h.elim
 | _::_,[],_::_,_,_,_,h=>h.elim
 | _::_,_::_,[],_,_,_,h=>h.elim
theorem law_post {P:Program} {T:TypeId} (laid:laidOutB P=true) (hbool:P.underlying T=some .bool) {H:Type} {enc:TypeId×Value→H} {s:ChangeSpec} {f:Func} {W W':World} {args:Array Value} {ds:List (DataW H)} {before:List MemPlace}
  (hW:DataW.Whole enc P f.params.toList s.vars false W args.toList ds [] before) (hx:Ext W W') (hv:s.vars=[]) (hr:(s.fn H (ds++[])).results=[.lit (.bool true)]) (ha:(s.fn H (ds++[])).args=ds) (hvs:(s.fn H (ds++[])).vars=[])
  (hts:(f.params.toList.all fun t=>P.readableRec t && decide (t < P.types.size))=true) (hres:f.resultTypes=#[T]) :
  s.post enc P f false true false false W args (.bool true) W':=by
 have hlt:∀ x∈before,x.block < W.heap.size:=fun x hx=>hW.lt x hx
 have hW2:=hW
 obtain ⟨p,q,hA,hV,rfl,hfz,hnd⟩:=hW
 have hq:q=[]:=by
  rw [hv] at hV
  exact hV
 subst hq
 refine ⟨ds,[],_,[],p,[],hW2, ?_, ?_, ?_,hx.frame _,fun h=>by cases h⟩
 ·rw [hr,hres]
  exact trodAll_mk1 (shut_bool hbool _)
 ·rw [ha]
  exact trodAll_stays laid hx _ _ _ _ hts (fun x hx=>hlt x (List.mem_append_left _ hx)) hA
 ·rw [hvs,hv]
  rfl
section
variable {H:Type} {enc:TypeId×Value→H} {P:Program} {w:World} {base:Nat} {spare:Nat→Bool} {held:Bool}
end
section
variable {H:Type} {enc:TypeId×Value→H} {w:World} {base:Nat} {spare:Nat→Bool} {held:Bool}
end
section
variable {H:Type} {enc:TypeId×Value→H} {w:World} {base:Nat} {spare:Nat→Bool} {held:Bool}
end
end Go.Proofs.YtikelfmmldafpaaGreat
namespace Go.Proofs.YtikelfmmldafpaaGreat
open Go.ChangeShapes Go.WideShapes Go.ChangeAt Go.RowKit Go.Sort
set_option linter.unusedVariables false
set_option linter.unusedSimpArgs false
end Go.Proofs.YtikelfmmldafpaaGreat
