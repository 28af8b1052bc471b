/- The reference begins to turn to a view. -/
import Derived.Test.YtikelfmmldafpaaGreatPk50
import Derived.Test.YtikelfmmldafpaaGreatPk16
import Derived.Test.YtikelfmmldafpaaGreatPk44
import Derived.Test.YtikelfmmldafpaaGreatProg
import Derived.Test.YtikelfmmldafpaaGreatPk1
import Derived.Test.YtikelfmmldafpaaGreatPk14
import Derived.Test.YtikelfmmldafpaaGreatPk35
namespace Go.Proofs.YtikelfmmldafpaaGreat
open Go.ChangeShapes Go.WideShapes Go.ChangeAt Go.RowKit Go.Sort
set_option linter.unusedVariables false
set_option linter.unusedSimpArgs false
set_option maxRecDepth 100000 in
set_option maxHeartbeats 16000000 in
theorem c_l7Begin (B:Nat) (a:LAd) (A:Option Addr) (c:Nat) (qs:List VtE) (R:Rp) (view:Int) (w:World) (hF:RpF w B a A c qs R) (ht:RpT R) (h0:0≤view) (h1:view≤1000000000) (hB:B≤w.heap.size) :
  Calls Tryz.prog 19 #[Rp.val a A qs.length c R, .int .i64 view] w fun e w'=>(∃ a' A' c' qs' Ao co os,e = .returned (.tuple #[Rp.val a' A' (List.length qs') c' (beginR R view), .slice Ao (List.length os) co])∧RpF w' B a' A' c' qs' (beginR R view)∧OsK w' w.heap.size Ao co os∧List.map Prod.snd os=beginO R view)∧Ext w w':=by
 obtain ⟨w1,hw1⟩:∃ w1,((w.alloc (Rp.obj a (some ⟨w.heap.size+1+1,0,none⟩) 0 0 (R.turned view))).alloc Rp.zobj).alloc (.cells #[] 57)=w1:=⟨_,rfl⟩
 have X0:Ext w w1:=by rw [←hw1];exact ext_to (ext_to (ext_alloc _ _) _) _
 have E1:=Hd (show w1.heap[w.heap.size]?=some (Rp.obj a (some ⟨w.heap.size+1+1,0,none⟩) 0 0 (R.turned view)) by rw [←hw1];exact hOld (o := .cells #[] 57) (hOld (o:=Rp.zobj) (hNew (w:=w) (o:=(Rp.obj a (some ⟨w.heap.size+1+1,0,none⟩) 0 0 (R.turned view))) rfl)))
 have E2:=Hd (show w1.heap[w.heap.size+1]?=some Rp.zobj by rw [←hw1];exact hOld (o := .cells #[] 57) (hNew (w:=w.alloc (Rp.obj a (some ⟨w.heap.size+1+1,0,none⟩) 0 0 (R.turned view))) (o:=Rp.zobj) (k:=w.heap.size+1) (by simp)))
 obtain ⟨RT,hRT⟩:∃ X,R.turned view=X:=⟨_,rfl⟩
 have HF:=Hd (show RpF w1 B a (some ⟨w.heap.size+1+1,0,none⟩) 0 [] RT from by
  rw [←hRT]
  exact ⟨(hF.keep X0).l,⟨⟨Nat.le_refl _,by unfold maxLen;omega,fun h=>absurd h (by simp)⟩,fun h=>absurd h (by simp)⟩,fun p hp=>(List.not_mem_nil hp).elim,rfl⟩)
 have HTu:=Hd (show RpT RT from by rw [←hRT];exact ht.turned h0 h1)
 have hid:RT.me=R.me∧RT.of=R.of∧RT.view=view:=by rw [←hRT];exact ⟨rfl,rfl,rfl⟩
 have HId:=Hd hid
 have HBR:=Hd (show beginR R view=lookR RT∧beginO R view=allTo R.me (turnM R.me view) R.of.toNat++lookO RT by rw [←hRT];exact ⟨rfl,rfl⟩)
 rw [hRT] at E1 hw1
 have HW0:=Hd hw1
 have HTr:=Hd hRT
 have X:=Hd X0
 have hof:=ht.of
 have HOf:=Hd hof
 have hz_w1:w.heap.size+1+1 < w1.heap.size:=by rw [←hw1];simp
 clear X0 hF ht hid hw1 hof hRT
 go_enter Tryz.func19,Tryz.ntmps19
 go_wp2_with (with_reducible refine wl_stop 16 ?_)
 refine stop_go (F:=fun W=>W=w1) (by rw [←HTr.out] at HW0;exact HW0.out) ?_
 intro W1 hW1
 subst hW1
 clear HW0
 have hofN:RT.of=(R.of.toNat:Int):=by rw [HId.out.2.1];have:=HOf.out;omega
 have hof10:R.of.toNat≤10:=by have:=HOf.out;omega
 have HAll:=Hd (c_l6All a (some ⟨w.heap.size+1+1,0,none⟩) 0 0 RT LAd.none (turnM RT.me view) W1 R.of.toNat hofN hof10 (none_lgF W1 0).rd none_small2)
 clear hofN hof10
 (go_wp2_with (with_reducible refine wl_stop 16 ?_);refine stop_load (E1.out) rfl Tryz.underlying33 (by kernel_rfl) ?_;simp only [Act.put,Sa,Sz,Ss])
 have d1:=bx_cell E1.out
 have z1:=bx_lt E1.out
 go_wp2_with fail
 refine HAll.out.mono ?_
 rintro e w2 ⟨Ap,cp,op,rfl,mp,hp,fp,x⟩
 obtain ⟨E1,E2,HF,X⟩:Hid _∧Hid _∧Hid _∧Hid _:=⟨Hd (x.box E1.out),Hd (x.box E2.out),Hd (HF.out.keep x),Hd (Ext.trans X.out x)⟩
 have hz_w2:=x.size
 rw [HId.out.1] at mp
 have FS:=Hd (show OsK w2 (w.heap.size+1+1) Ap cp op from OsK.less ⟨hp,fp⟩ (by omega))
 have HMp:=Hd mp
 have hpl:op.length≤5:=by rw [←List.length_map (f:=Prod.snd),mp];have:=allTo_len R.me (turnM R.me view) R.of.toNat;have:=HOf.out;omega
 clear x mp hp fp d1 z1
 have HA0:=Hd (fun k (hk:k∈blk Ap)=>(FS.out.row.inB k hk).2)
 have E2v:=Hd E2.out
 obtain ⟨RX,hRX⟩:∃ X,lookR RT=X:=⟨_,rfl⟩
 obtain ⟨OX,hOX⟩:∃ X,lookO RT=X:=⟨_,rfl⟩
 have hcon:=c_l7Look B a (some ⟨w.heap.size+1+1,0,none⟩) 0 [] RT w2 HF.out HTu.out (by omega)
 have hOl:OX.length≤6:=by rw [←hOX];exact lookO_len HTu.out
 rw [hRX,hOX] at hcon
 have HBR2:=Hd (show beginR R view=RX∧beginO R view=allTo R.me (turnM R.me view) R.of.toNat++OX by rw [←hRX,←hOX];exact HBR.out)
 have HCon:=Hd hcon
 clear hcon hRX hOX HBR
 (go_wp2_with (with_reducible refine wl_stop 23 ?_);refine stop_load (E1.out) rfl Tryz.underlying33 (by kernel_rfl) ?_;simp only [Act.put,Sa,Sz,Ss])
 go_wp2_with fail
 refine HCon.out.mono ?_
 rintro e v8 ⟨⟨a9,A9,c9,q9,Am,cm,om,rfl,f9,fm,mm⟩,x⟩
 obtain ⟨E1,E2,FS,X⟩:Hid _∧Hid _∧Hid _∧Hid _:=⟨Hd (x.box E1.out),Hd (x.box E2.out),Hd (FS.out.keep x),Hd (Ext.trans X.out x)⟩
 have hz_v8:=x.size
 clear x HCon HF
 have XA:=ext_alloc v8 Rp.zobj
 have EQ0:=Hd (hNew (w:=v8) (o:=Rp.zobj) rfl)
 obtain ⟨E1,E2,FS,X⟩:Hid _∧Hid _∧Hid _∧Hid _:=⟨Hd (XA.box E1.out),Hd (XA.box E2.out),Hd (FS.out.keep XA),Hd (Ext.trans X.out XA)⟩
 have HF9:=Hd (f9.keep XA)
 have HM:=Hd (fm.keep XA)
 have HMm:=Hd mm
 have hml:om.length≤6:=by rw [←List.length_map (f:=Prod.snd),mm];exact hOl
 have hzA:(v8.alloc Rp.zobj).heap.size=v8.heap.size+1:=by simp
 clear XA f9 fm mm
 have hv7:=bx_lt E2v.out
 (go_wp2_with (with_reducible refine wl_stopS 33 ?_);refine stop_store (v8.heap.size) (Rp.cs a9 A9 q9.length c9 RX) rfl rfl (EQ0.out) (by kernel_rfl) rfl (by simp [Value.oneCell']) ?_)
 intro W8 e8 k8
 have hlt_W8:=bx_lt EQ0.out
 obtain ⟨E2,FS,X,HF9,HM⟩:Hid _∧Hid _∧Hid _∧Hid _∧Hid _:=⟨Hd (box_chg E2.out k8 (by omega)),Hd (FS.out.boxed EQ0.out (by decide) (by decide) (by decide) (by decide) k8),Hd (ext_chg X.out k8 (fun k hk=>by rw [Mi] at hk;omega)),Hd (HF9.out.boxed EQ0.out k8),Hd (HM.out.boxed EQ0.out (by decide) (by decide) (by decide) (by decide) k8)⟩
 have EQ:=Hd e8
 have hs_W8:=bx_lt e8
 have hz_W8:=k8.size
 clear e8 k8 E1 EQ0
 go_wp2
 obtain ⟨g,obj1,hg1,hg2,hp8,hg8,hrun⟩:=outs_plan (.cells (Rp.cs a9 A9 q9.length c9 RX) 33) FS.out HM.out E2.out hv7 HA0.out (by omega) (by omega)
 have HOth:=Hd (outs_oth FS.out E2.out hg2)
 have HQ:=Hd (relM_box (hp:=hp8) (hg:=hg8) (obj:=(.cells (Rp.cs a9 A9 q9.length c9 RX) 33)) (obj1:=obj1) EQ.out (by omega) (outs_apart FS.out EQ.out (by omega) hg2))
 have HQw:=Hd (fun W' (h:(relM (w.heap.size+1) g (.cells (Rp.cs a9 A9 q9.length c9 RX) 33) obj1 W8.heap.size hp8 hg8).rel W8 W')=>cells_mid (cs:=Rp.cs a9 A9 q9.length c9 RX) (HQ.out W' h) [] [] rfl rfl)
 have HRun:=Hd hrun
 have HG1:=Hd hg1
 have HG2:=Hd hg2
 clear hrun hg1 hg2
 (refine Rm.wp_region_mix' (R:=relM (w.heap.size+1) g (.cells (Rp.cs a9 A9 q9.length c9 RX) 33) obj1 W8.heap.size hp8 hg8) (joinΦ (w.heap.size+1) (.cells (Rp.cs a9 A9 q9.length c9 RX) 33) g obj1 W8.heap.size (w.heap.size+1+1) (op++om)) (fun _ _ _ _ _ hq=>hq) 6 (by first | exact Nat.le_refl _ | omega | (simp;omega)) (by kernel_rfl) (by kernel_rfl) ?_;simp only [Tc,Tz,Dc,Dz])
 (refine Rm.wpMix_loadAgg (HQw.out) rfl rfl rfl Tryz.underlying33 (by kernel_rfl) ?_;simp only [Act.put,Sa,Sz,Ss])
 (iterate 2 (refine Rm.wpMix_plain rfl rfl ?_;go_big_quiet_step (fail);refine wpQuiet_nil ?_))
 refine rm_own (enc:=OtE.enc) _ _ 35 117 18 (w.heap.size+1+1) rfl rfl Ap _ cp op rfl rfl Am _ cm om rfl rfl (fun W hW=>HRun.out W hW) rfl (fun A5 c5=>?_)
 simp only [Act.put,Sa,Sz,Ss]
 refine wpMix_stM HG1.out E2.out rfl rfl rfl rfl rfl (by kernel_rfl) rfl (by simp [Value.oneCell']) rfl ?_
 simp only [Act.put,Sa,Sz,Ss]
 (iterate 1 (refine Rm.wpMix_plain rfl rfl ?_;go_big_quiet_step (fail);refine wpQuiet_nil ?_))
 refine Rm.wpMix_nil ?_
 rintro W9 ⟨⟨h9,hv9⟩,e9⟩
 have HE9:=Hd e9
 have HOS9:=Hd (outs_join FS.out HM.out (by omega) HOth.out h9 hv9)
 have HF9:=Hd (HF9.out.other h9.1 HOth.out)
 have HX9:=Hd (ext_chg X.out h9.1 (fun k hk=>by
  have hgg:=HG2.out
  simp only [List.mem_cons,List.not_mem_nil,or_false] at hk
  rcases hk with rfl | rfl
  ·omega
  ·rcases hgg with h | h <;> omega))
 clear h9 hv9 e9
 go_wp2
 refine bodyPost_ret (results_box2 Tryz.results19 rfl rfl Tryz.underlying33 (by kernel_rfl) HE9.out) rfl ⟨⟨a9,A9,c9,q9,A5,c5,op++om,by rw [HBR2.out.1,List.length_append];rfl,by rw [HBR2.out.1];exact HF9.out,HOS9.out.less (by omega),by rw [HBR2.out.2,List.map_append,HMp.out,HMm.out]⟩,HX9.out⟩
theorem turn_end {r:Rp} (h:rpOk r=true) (hb:turnB r=false):turnR r=sameR r∧turnO r=[]:=by
 unfold turnR turnO sameR
 rw [h,hb]
 simp
theorem turn_none {r:Rp} (h:rpOk r=false):turnR r=sameR r∧turnO r=[]:=by
 unfold turnR turnO sameR
 rw [h]
 simp
theorem turn_go {r:Rp} (h:rpOk r=true) (hb:turnB r=true):turnR r=beginR r (r.view+1)∧turnO r=beginO r (r.view+1):=by
 unfold turnR turnO
 rw [h,hb]
 simp
set_option maxRecDepth 100000 in
set_option maxHeartbeats 16000000 in
theorem c_sTurn (a:LAd) (A:Option Addr) (c:Nat) (ps:List VtE) (r:Rp) (w:World) (hr:RpR w a A c ps r) (hs:r.log.small) (hn:ps.length≤1048576) (hv:LgS ps) :
  Calls Tryz.prog 7 #[Rp.val a A ps.length c r] w fun e w'=>∃ v,e = .returned v∧RoT w' (turnR r) (turnO r) v∧Ext w w':=by
 have X0:Ext w ((w.alloc (Rp.obj a A ps.length c r)).alloc Rp.zobj):=ext_to (ext_alloc _ _) _
 have HSm:=Hd (c_l6Same a A c ps r _ (hr.keep X0) hs hn hv)
 have HRo:=Hd (fun W (h:Ext w W)=>c_sReplicaOk a A c ps r W (hr.keep h) hs hn hv)
 have D1:=Hd (hOld (o:=Rp.zobj) (hNew (w:=w) (o:=Rp.obj a A ps.length c r) rfl))
 have D2:=Hd (hNew (w:=w.alloc (Rp.obj a A ps.length c r)) (o:=Rp.zobj) (k:=w.heap.size+1) (by simp))
 have HX0:=Hd X0
 clear X0 hr hv hs
 go_enter Tryz.func7,Tryz.ntmps7
 (go_wp2_with (with_reducible refine wl_stop 7 ?_);refine stop_load (D1.out) rfl Tryz.underlying33 (by kernel_rfl) ?_;simp only [Act.put,Sa,Sz,Ss])
 go_wp2_with fail
 refine HSm.out.mono ?_
 rintro e w1 ⟨v1,rfl,⟨a1,A1,c1,qs,rfl,f1⟩,x1⟩
 have XA:=ext_alloc w1 Rp.zobj
 have EQ0:=Hd (hNew (w:=w1) (o:=Rp.zobj) rfl)
 have hz_w1:=x1.size
 simp only [sz_alloc] at hz_w1
 have hzA:(w1.alloc Rp.zobj).heap.size=w1.heap.size+1:=by simp
 obtain ⟨E1,E2,HF,X⟩:Hid _∧Hid _∧Hid _∧Hid _:=⟨Hd ((Ext.trans x1 XA).box D1.out),Hd ((Ext.trans x1 XA).box D2.out),Hd ((f1.keep XA).less (B':=w.heap.size+1+1) (by simp)),Hd (Ext.trans HX0.out (Ext.trans x1 XA))⟩
 clear XA x1 f1 D1 D2 HX0 HSm
 (go_wp2_with (with_reducible refine wl_stopS 33 ?_);refine stop_store (w1.heap.size) (Rp.cs a1 A1 qs.length c1 (sameR r)) rfl rfl (EQ0.out) (by kernel_rfl) rfl (by simp [Value.oneCell']) ?_)
 intro W3 e3 k3
 have hlt_W3:=bx_lt EQ0.out
 obtain ⟨E1,E2,HF,X⟩:Hid _∧Hid _∧Hid _∧Hid _:=⟨Hd (box_chg E1.out k3 (by omega)),Hd (box_chg E2.out k3 (by omega)),Hd (HF.out.boxed EQ0.out k3),Hd (ext_chg X.out k3 (fun k hk=>by rw [Mi] at hk;omega))⟩
 have E4:=Hd e3
 have hs_W3:=bx_lt e3
 have hz_W3:=k3.size
 clear e3 k3 EQ0
 (go_wp2_with (with_reducible refine wl_stop 9 ?_);refine stop_load (E1.out) rfl Tryz.underlying33 (by kernel_rfl) ?_;simp only [Act.put,Sa,Sz,Ss])
 go_wp2_with fail
 refine (HRo.out _ X.out).mono ?_
 rintro e w4 ⟨rfl,x⟩
 obtain ⟨E1,E2,E4,HF,X⟩:Hid _∧Hid _∧Hid _∧Hid _∧Hid _:=⟨Hd (x.box E1.out),Hd (x.box E2.out),Hd (x.box E4.out),Hd (HF.out.keep x),Hd (Ext.trans X.out x)⟩
 have hz_w4:=x.size
 clear x
 clear HRo
 cases q:rpOk r
 ·have HQ:=Hd (turn_none q)
  have EA:=Hd (hOld (o := .cells #[] 117) E2.out)
  have EB:=Hd (hNew (w:=w4) (o := .cells #[] 117) rfl)
  have XA:=Hd (ext_alloc w4 (.cells #[] 117))
  (go_wp2_with (with_reducible refine wl_stop 22 ?_);refine stop_load (E4.out) rfl Tryz.underlying33 (by kernel_rfl) ?_;simp only [Act.put,Sa,Sz,Ss])
  (go_wp2_with (with_reducible refine wl_stopS 33 ?_);refine stop_store ((w.heap.size+1)) (Rp.cs a1 A1 qs.length c1 (sameR r)) rfl rfl (EA.out) (by kernel_rfl) rfl (by simp [Value.oneCell']) ?_)
  intro W9 e9 k9
  have X9:=Hd (chg_new (Ext.trans X.out XA.out) k9 (by omega))
  have HE9:=Hd e9
  have HT9:=Hd (RoT.of (O:=[]) ((HF.out.keep XA.out).boxed EA.out k9) (OsK.nil (B:=0) (box_chg EB.out k9 (by omega)) (by omega)) rfl)
  clear e9 k9
  go_wp2
  refine bodyPost_ret (results_box2 Tryz.results7 rfl rfl Tryz.underlying33 (by kernel_rfl) HE9.out) rfl ⟨_,rfl, ?_,X9.out⟩
  rw [HQ.out.1,HQ.out.2]
  exact HT9.out
 ·have hS3:sameR r=r:=by unfold sameR;rw [if_pos q]
  have HV:=Hd (rpOk_good q)
  have hv0:=HV.out.view0
  have hv1:=HV.out.view1
  (go_wp2_with (with_reducible refine wl_stop 13 ?_);refine stop_loadG (E1.out) rfl rfl Tryz.underlying33 (by kernel_rfl) ?_;simp only [Act.put,Sa,Sz,Ss])
  go_wp2_with fail
  refine (c_l6Live a A ps.length c r _).mono ?_
  rintro e w5 ⟨rfl,x⟩
  obtain ⟨E1,E2,E4,HF,X⟩:Hid _∧Hid _∧Hid _∧Hid _∧Hid _:=⟨Hd (x.box E1.out),Hd (x.box E2.out),Hd (x.box E4.out),Hd (HF.out.keep x),Hd (Ext.trans X.out x)⟩
  have hz_w5:=x.size
  clear x
  have HS3:=Hd hS3
  clear hS3
  cases gl:liveB r
  ·have HQ:=Hd (turn_end q (show turnB r=false by unfold turnB;rw [gl];rfl))
   have EA:=Hd (hOld (o := .cells #[] 117) E2.out)
   have EB:=Hd (hNew (w:=w5) (o := .cells #[] 117) rfl)
   have XA:=Hd (ext_alloc w5 (.cells #[] 117))
   (go_wp2_with (with_reducible refine wl_stop 22 ?_);refine stop_load (E4.out) rfl Tryz.underlying33 (by kernel_rfl) ?_;simp only [Act.put,Sa,Sz,Ss])
   (go_wp2_with (with_reducible refine wl_stopS 33 ?_);refine stop_store ((w.heap.size+1)) (Rp.cs a1 A1 qs.length c1 (sameR r)) rfl rfl (EA.out) (by kernel_rfl) rfl (by simp [Value.oneCell']) ?_)
   intro W9 e9 k9
   have X9:=Hd (chg_new (Ext.trans X.out XA.out) k9 (by omega))
   have HE9:=Hd e9
   have HT9:=Hd (RoT.of (O:=[]) ((HF.out.keep XA.out).boxed EA.out k9) (OsK.nil (B:=0) (box_chg EB.out k9 (by omega)) (by omega)) rfl)
   clear e9 k9
   go_wp2
   refine bodyPost_ret (results_box2 Tryz.results7 rfl rfl Tryz.underlying33 (by kernel_rfl) HE9.out) rfl ⟨_,rfl, ?_,X9.out⟩
   rw [HQ.out.1,HQ.out.2]
   exact HT9.out
  ·have HT:=Hd (rpOk_T q gl)
   have d1:=bx_cell E1.out
   have z1:=bx_lt E1.out
   cases g1:(r.view == 1000000000)
   ·have HQ:=Hd (turn_go q (show turnB r=true by unfold turnB;rw [gl,show decide (r.view < 1000000000)=true by simp at g1 ⊢;omega];rfl))
    rw [HS3.out] at E4 HF
    obtain ⟨RX,hRX⟩:∃ X,beginR r (r.view+1)=X:=⟨_,rfl⟩
    obtain ⟨OX,hOX⟩:∃ X,beginO r (r.view+1)=X:=⟨_,rfl⟩
    have hcon:=c_l7Begin (w.heap.size+1+1) a1 A1 c1 qs r (r.view+1) w5 HF.out HT.out (by omega) (by simp at g1;omega) (by omega)
    rw [hRX,hOX] at hcon
    have HCon:=Hd hcon
    have HQ2:=Hd (show turnR r=RX∧turnO r=OX by rw [←hRX,←hOX];exact HQ.out)
    clear hcon hRX hOX HQ
    have g2:(r.view == 1000000000)=false:=g1
    (go_wp2_with (with_reducible refine wl_stop 25 ?_);refine stop_load (E4.out) rfl Tryz.underlying33 (by kernel_rfl) ?_;simp only [Act.put,Sa,Sz,Ss])
    go_wp2_with fail
    refine HCon.out.mono ?_
    rintro e v8 ⟨⟨a9,A9,c9,q9,Am,cm,om,rfl,f9,fm,mm⟩,x⟩
    obtain ⟨E2,X⟩:Hid _∧Hid _:=⟨Hd (x.box E2.out),Hd (Ext.trans X.out x)⟩
    have hz_v8:=x.size
    clear x HCon HF E1 E4 d1 z1
    have XA:=ext_alloc v8 Rp.zobj
    have EQ0:=Hd (hNew (w:=v8) (o:=Rp.zobj) rfl)
    obtain ⟨E2,X⟩:Hid _∧Hid _:=⟨Hd (XA.box E2.out),Hd (Ext.trans X.out XA)⟩
    have HF9:=Hd (f9.keep XA)
    have HM:=Hd (fm.keep XA)
    have HMm:=Hd mm
    have hzA2:(v8.alloc Rp.zobj).heap.size=v8.heap.size+1:=by simp
    clear XA f9 fm mm
    (go_wp2_with (with_reducible refine wl_stopS 33 ?_);refine stop_store (v8.heap.size) (Rp.cs a9 A9 q9.length c9 RX) rfl rfl (EQ0.out) (by kernel_rfl) rfl (by simp [Value.oneCell']) ?_)
    intro W8 e8 k8
    have hlt_W8:=bx_lt EQ0.out
    obtain ⟨E2,X,HF9,HM⟩:Hid _∧Hid _∧Hid _∧Hid _:=⟨Hd (box_chg E2.out k8 (by omega)),Hd (ext_chg X.out k8 (fun k hk=>by rw [Mi] at hk;omega)),Hd (HF9.out.boxed EQ0.out k8),Hd (HM.out.boxed EQ0.out (by decide) (by decide) (by decide) (by decide) k8)⟩
    have EQ:=Hd e8
    have hs_W8:=bx_lt e8
    have hz_W8:=k8.size
    clear e8 k8 EQ0
    (go_wp2_with (with_reducible refine wl_stop 32 ?_);refine stop_load (EQ.out) rfl Tryz.underlying33 (by kernel_rfl) ?_;simp only [Act.put,Sa,Sz,Ss])
    (go_wp2_with (with_reducible refine wl_stopS 33 ?_);refine stop_store ((w.heap.size+1)) (Rp.cs a9 A9 q9.length c9 RX) rfl rfl (E2.out) (by kernel_rfl) rfl (by simp [Value.oneCell']) ?_)
    intro W9 e9 k9
    have X9:=Hd (chg_new X.out k9 (by omega))
    have HE9:=Hd e9
    have HT9:=Hd (RoT.of (HF9.out.boxed E2.out k9) (HM.out.boxed E2.out (by decide) (by decide) (by decide) (by decide) k9) HMm.out)
    clear e9 k9
    go_wp2
    refine bodyPost_ret (results_box2 Tryz.results7 rfl rfl Tryz.underlying33 (by kernel_rfl) HE9.out) rfl ⟨_,rfl, ?_,X9.out⟩
    rw [HQ2.out.1,HQ2.out.2]
    exact HT9.out
   ·have HQ:=Hd (turn_end q (show turnB r=false by unfold turnB;rw [gl,show decide (r.view < 1000000000)=false by simp at g1 ⊢;omega];rfl))
    have EA:=Hd (hOld (o := .cells #[] 117) E2.out)
    have EB:=Hd (hNew (w:=w5) (o := .cells #[] 117) rfl)
    have XA:=Hd (ext_alloc w5 (.cells #[] 117))
    (go_wp2_with (with_reducible refine wl_stop 22 ?_);refine stop_load (E4.out) rfl Tryz.underlying33 (by kernel_rfl) ?_;simp only [Act.put,Sa,Sz,Ss])
    (go_wp2_with (with_reducible refine wl_stopS 33 ?_);refine stop_store ((w.heap.size+1)) (Rp.cs a1 A1 qs.length c1 (sameR r)) rfl rfl (EA.out) (by kernel_rfl) rfl (by simp [Value.oneCell']) ?_)
    intro W9 e9 k9
    have X9:=Hd (chg_new (Ext.trans X.out XA.out) k9 (by omega))
    have HE9:=Hd e9
    have HT9:=Hd (RoT.of (O:=[]) ((HF.out.keep XA.out).boxed EA.out k9) (OsK.nil (B:=0) (box_chg EB.out k9 (by omega)) (by omega)) rfl)
    clear e9 k9
    go_wp2
    refine bodyPost_ret (results_box2 Tryz.results7 rfl rfl Tryz.underlying33 (by kernel_rfl) HE9.out) rfl ⟨_,rfl, ?_,X9.out⟩
    rw [HQ.out.1,HQ.out.2]
    exact HT9.out
end Go.Proofs.YtikelfmmldafpaaGreat
namespace Go.Proofs.YtikelfmmldafpaaGreat
open Go.ChangeShapes Go.WideShapes Go.ChangeAt Go.RowKit Go.Joins Go.Deep
set_option linter.unusedVariables false
def BytesR (w:World) (A:Option Addr) (n:Nat):Prop:=0 < n→∃ b o,A=some ⟨b,o,none⟩∧b < w.heap.size∧∀ k,k < n→∃ y:Nat,y≤255∧w.cell? ⟨b,o+k,none⟩=some (.int .u8 y)
theorem Tryz.cellsU8:Tryz.prog.cellsOf 5=1:=by kernel_rfl
set_option maxRecDepth 100000 in
theorem open_code {H:Type} {enc:TypeId×Value→H} {W:World} {base b0:Nat} {sp:Nat→Bool} {held:Bool} {v:Value} {d:DataW H} {p:List MemPlace}
  (hv:Value.okWide Tryz.prog W .any base 22 v) (h:DataW.Trod enc Tryz.prog W b0 sp held 22 v d p):∃ A n c,v = .slice A n c∧n≤c∧c≤maxLen∧BytesR W A n:=by
 obtain ⟨a0,len,cap,rfl⟩:=okWide_slice Tryz.underlying22 hv
 obtain ⟨fuel,hf⟩:=h
 rcases open_slice Tryz.underlying22 hf with ⟨hcs,hx⟩ | ⟨a,len',cap',m,n,D,Pl,hcs,hb,hl,hm,hmm,hx,hi⟩
 ·simp only [Value.cells,List.cons.injEq,and_true,Value.slice.injEq] at hcs
  obtain ⟨rfl,rfl,rfl⟩:=hcs
  exact ⟨none,0,0,rfl,Nat.le_refl _,by unfold maxLen;omega,fun h=>absurd h (by simp)⟩
 ·simp only [Value.cells,List.cons.injEq,and_true,Value.slice.injEq] at hcs
  obtain ⟨rfl,rfl,rfl⟩:=hcs
  have hlm:len≤m:=by rw [hmm];split <;> omega
  refine ⟨some a,len,cap,rfl,hl,hm,fun hpos=>?_⟩
  have each:∀ i,i < len→∃ y:Nat,y≤255∧W.cell? (a.add i)=some (.int .u8 y):=by
   intro i hin
   obtain ⟨cs',hc,ht'⟩:=hi i (by omega)
   rw [Tryz.cellsU8,Nat.mul_one] at hc
   obtain ⟨_,hcl,hat⟩:=World.cells?_some hc
   obtain ⟨z,hz,_,hwf⟩:=DataW.trod_int Tryz.underlying5 ht'
   have h0:=hat 0 (by omega)
   rw [hz] at h0
   have hb2:0≤z∧z≤255:=by simpa [Lit.wf,IntKind.min,IntKind.max,IntKind.signed,IntKind.bits] using hwf
   refine ⟨z.toNat,by omega, ?_⟩
   rw [show ((z.toNat:Nat):Int)=z by omega]
   simpa [Addr.add] using h0
  obtain ⟨b,o,s⟩:=a
  obtain ⟨y0,_,hc0⟩:=each 0 hpos
  have hs:s=none:=by
   cases s with
   | none=>rfl
   | some q =>
    exfalso
    simp [Addr.add,World.cell?] at hc0
    split at hc0 <;> simp at hc0
  subst hs
  have hlt:b < W.heap.size:=by
   have:=block_lt_of_cell hc0
   simpa [Addr.add] using this
  refine ⟨b,o,rfl,hlt,fun k hk=>?_⟩
  obtain ⟨y,hy,hc⟩:=each k hk
  refine ⟨y,hy, ?_⟩
  rwa [Addr.add_lit] at hc
end Go.Proofs.YtikelfmmldafpaaGreat
