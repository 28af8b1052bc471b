/- The reference looks whether there are enough votes. -/
import Derived.Test.YtikelfmmldafpaaGreatPk49
namespace Go.Proofs.YtikelfmmldafpaaGreat
open Go.ChangeShapes Go.WideShapes Go.ChangeAt Go.RowKit Go.Sort
set_option linter.unusedVariables false
set_option linter.unusedSimpArgs false
set_option maxRecDepth 100000 in
set_option maxHeartbeats 16000000 in
theorem c_l7Look (B:Nat) (a:LAd) (A:Option Addr) (c:Nat) (qs:List VtE) (R:Rp) (w:World) (hF:RpF w B a A c qs R) (ht:RpT R) (hB:B≤w.heap.size) :
  Calls Tryz.prog 52 #[Rp.val a A qs.length c R] w fun e w'=>(∃ a' A' c' qs' Ao co os,e = .returned (.tuple #[Rp.val a' A' (List.length qs') c' (lookR R), .slice Ao (List.length os) co])∧RpF w' B a' A' c' qs' (lookR R)∧OsK w' w.heap.size Ao co os∧List.map Prod.snd os=lookO R)∧Ext w w':=by
 have hL:R.votes.length=qs.length:=by rw [←hF.e,List.length_map]
 have hv20:=ht.votes
 have hq20:qs.length≤20:=by omega
 obtain ⟨w1,hw1⟩:∃ w1,((w.alloc (Rp.obj a A qs.length c R)).alloc Rp.zobj).alloc (.cells #[] 117)=w1:=⟨_,rfl⟩
 have X0:Ext w w1:=by rw [←hw1];exact ext_to (ext_to (ext_alloc _ _) _) _
 have E1:=Hd (show w1.heap[w.heap.size]?=some (Rp.obj a A qs.length c R) by rw [←hw1];exact hOld (o := .cells #[] 117) (hOld (o:=Rp.zobj) (hNew (w:=w) (o:=Rp.obj a A qs.length c R) rfl)))
 have E2:=Hd (show w1.heap[w.heap.size+1]?=some Rp.zobj by rw [←hw1];exact hOld (o := .cells #[] 117) (hNew (w:=w.alloc (Rp.obj a A qs.length c R)) (o:=Rp.zobj) (k:=w.heap.size+1) (by simp)))
 have E3:=Hd (show w1.heap[w.heap.size+1+1]?=some (.cells #[] 117) by rw [←hw1];exact hNew (w:=(w.alloc (Rp.obj a A qs.length c R)).alloc Rp.zobj) (o := .cells #[] 117) (k:=w.heap.size+1+1) (by simp))
 have HF:=Hd (hF.keep X0)
 have FS:=Hd (OsK.nil (B:=w.heap.size+1+1) E3.out (by omega))
 have X:=Hd X0
 have HT:=Hd ht
 have hIV:=rpT_in ht
 have HIV:=Hd hIV
 have HOf:=Hd (show R.of=1∨R.of=3∨R.of=5 from ht.of)
 have HOfb:=Hd hIV.2
 have hz_w1:=bx_lt E3.out
 have HLogs:=Hd (logOk_small ht.lok)
 obtain ⟨n5,hn5⟩:∃ n,cntV 5 R.votes=n:=⟨_,rfl⟩
 obtain ⟨f6,hf6⟩:∃ n,findV 6 R.me R.votes=n:=⟨_,rfl⟩
 have HC5:=Hd (show ∀ W,Ext w1 W→Calls Tryz.prog 87 #[.slice A qs.length c, .int .i64 5] W fun e w'=>e = .returned (.int .i64 n5)∧Ext W w' from fun W h=>by
  have h5:=c_l7Count A c qs 5 W (HF.out.keep h).v.1 (by omega)
  rw [HF.out.e,hn5] at h5
  exact h5)
 have HFi:=Hd (show ∀ W,Ext w1 W→Calls Tryz.prog 89 #[.slice A qs.length c, .int .i64 6, .int .i64 R.me] W fun e w'=>e = .returned (.int .i64 f6)∧Ext W w' from fun W h=>by
  have h5:=c_l6Find A c qs 6 R.me W (HF.out.keep h).v.1 (by omega)
  rw [HF.out.e,hf6] at h5
  exact h5)
 have HN5:=Hd hn5
 have HN6f:=Hd hf6
 have HW0:=Hd hw1
 clear X0 E3 hF ht hL hv20 hIV hn5 hf6 hw1
 go_enter Tryz.func52,Tryz.ntmps52
 go_wp2
 refine code_go (F:=fun W=>W=w1) HW0.out ?_
 intro W1 hW1
 subst hW1
 clear HW0
 cases g1:decide ((R.of - 1) / 2≤(n5:Int))
 ·have HB:=Hd (show look1B R=false by unfold look1B halfI;rw [HN5.out,g1];rfl)
  have HW1:=Hd (fun W' (h:(relE W1.heap.size).rel W1 W')=>rp_whole E1.out h)
  (refine Rm.wp_region_mix' (R:=relE W1.heap.size) (fun _ _ _=>True) (fun _ _ _ _ _ hq=>hq) 14 (by first | exact Nat.le_refl _ | omega | (simp;omega)) (by kernel_rfl) (by kernel_rfl) ?_;simp only [Tc,Tz,Dc,Dz])
  (iterate 1 (refine Rm.wpMix_plain rfl rfl ?_;go_big_quiet_step (fail);refine wpQuiet_nil ?_))
  (refine Rm.wpMix_load1 (fun W9' h9=>show W9'.cell? _=some (.slice A qs.length c) from bx_cell (Ext.box h9 E1.out) 10) rfl rfl rfl Tryz.underlying31 rfl ?_;simp only [Act.put,Sa,Sz,Ss])
  (refine Rm.wpMix_det rfl rfl rfl (enters Tryz.func87 (by kernel_rfl) rfl) (fun W9' h9=>HC5.out W9' h9) rfl ?_;simp only [Act.put,Sa,Sz,Ss])
  (refine Rm.wpMix_loadAgg (HW1.out) rfl rfl rfl Tryz.underlying33 (by kernel_rfl) ?_;simp only [Act.put,Sa,Sz,Ss])
  (refine Rm.wpMix_det rfl rfl rfl (enters Tryz.func88 (by kernel_rfl) rfl) (fun W9' h9=>c_l6Half a A qs.length c R W9' HOfb.out) rfl ?_;simp only [Act.put,Sa,Sz,Ss])
  ((iterate 1 (refine Rm.wpMix_plain rfl rfl ?_;go_big_quiet_step (fail);refine wpQuiet_nil ?_));(try simp only [g1,Bool.not_true,Bool.not_false]);(iterate 1 (refine Rm.wpMix_plain rfl rfl ?_;go_big_quiet_step (fail);refine wpQuiet_nil ?_));(iterate 6 (refine Rm.wpMix_skip rfl rfl ?_;simp only [Act.put,Sa,Sz,Ss]));(iterate 1 (refine Rm.wpMix_plain rfl rfl ?_;go_big_quiet_step (fail);refine wpQuiet_nil ?_)))
  refine Rm.wpMix_nil ?_
  rintro w2 hW
  have x:Ext W1 w2:=hW
  obtain ⟨E1,E2,HF,FS,X⟩:Hid _∧Hid _∧Hid _∧Hid _∧Hid _:=⟨Hd (x.box E1.out),Hd (x.box E2.out),Hd (HF.out.keep x),Hd (FS.out.keep x),Hd (Ext.trans X.out x)⟩
  have hz_w2:=x.size
  clear x hW
  clear HW1 HC5 HFi
  have HL1:=Hd (show look1 R=R by unfold look1;rw [if_neg (by rw [HB.out];simp)])
  have HO1:=Hd (show look1O R=[] by unfold look1O;rw [HB.out];simp)
  have HOs:=Hd (show List.map Prod.snd ([]:List OtE)=[] from rfl)
  obtain ⟨n6,hn6⟩:∃ n,cntV 6 R.votes=n:=⟨_,rfl⟩
  have HC6:=Hd (show ∀ W,Ext w2 W→Calls Tryz.prog 87 #[.slice A qs.length c, .int .i64 6] W fun e w'=>e = .returned (.int .i64 n6)∧Ext W w' from fun W h=>by
   have h5:=c_l7Count A c qs 6 W (HF.out.keep h).v.1 (by omega)
   rw [HF.out.e,hn6] at h5
   exact h5)
  have HN6:=Hd hn6
  clear hn6
  have hof:=HOf.out
  cases gl:leadsB R
  ·have HLo:=Hd (look_end HL1.out HO1.out (show look2B R=false by unfold look2B;rw [gl];rfl))
   go_wp2
   have HW1:=Hd (fun W' (h:(relE w2.heap.size).rel w2 W')=>rp_whole E1.out h)
   (refine Rm.wp_region_mix' (R:=relE w2.heap.size) (fun _ _ _=>True) (fun _ _ _ _ _ hq=>hq) 10 (by first | exact Nat.le_refl _ | omega | (simp;omega)) (by kernel_rfl) (by kernel_rfl) ?_;simp only [Tc,Tz,Dc,Dz])
   (refine Rm.wpMix_loadAgg (HW1.out) rfl rfl rfl Tryz.underlying33 (by kernel_rfl) ?_;simp only [Act.put,Sa,Sz,Ss])
   (refine Rm.wpMix_det rfl rfl rfl (enters Tryz.func92 (by kernel_rfl) rfl) (fun W9' h9=>c_l6Leads a A qs.length c R W9' HIV.out.1 HIV.out.2) rfl ?_;simp only [Act.put,Sa,Sz,Ss])
   ((try simp only [gl,Bool.not_true,Bool.not_false]);(iterate 1 (refine Rm.wpMix_plain rfl rfl ?_;go_big_quiet_step (fail);refine wpQuiet_nil ?_));(iterate 6 (refine Rm.wpMix_skip rfl rfl ?_;simp only [Act.put,Sa,Sz,Ss]));(iterate 1 (refine Rm.wpMix_plain rfl rfl ?_;go_big_quiet_step (fail);refine wpQuiet_nil ?_)))
   refine Rm.wpMix_nil ?_
   rintro v7 hW
   have x:Ext w2 v7:=hW
   obtain ⟨E1,E2,HF,FS,X⟩:Hid _∧Hid _∧Hid _∧Hid _∧Hid _:=⟨Hd (x.box E1.out),Hd (x.box E2.out),Hd (HF.out.keep x),Hd (FS.out.keep x),Hd (Ext.trans X.out x)⟩
   have hz_v7:=x.size
   clear x hW
   clear HW1
   (go_wp2_with (with_reducible refine wl_stop 71 ?_);refine stop_load (E1.out) rfl Tryz.underlying33 (by kernel_rfl) ?_;simp only [Act.put,Sa,Sz,Ss])
   (go_wp2_with (with_reducible refine wl_stopS 33 ?_);refine stop_store ((w.heap.size+1)) (Rp.cs a A qs.length c R) rfl rfl (E2.out) (by kernel_rfl) rfl (by simp [Value.oneCell']) ?_)
   intro W9 e9 k9
   have HE9:=Hd e9
   have HX9:=Hd (chg_new X.out k9 (by omega))
   have HF9:=Hd (HF.out.boxed E2.out k9)
   have FS9:=Hd (FS.out.boxed E2.out (by decide) (by decide) (by decide) (by decide) k9)
   clear e9 k9
   go_wp2
   exact bodyPost_ret (results_box2 Tryz.results52 rfl rfl Tryz.underlying33 (by kernel_rfl) HE9.out) rfl ⟨⟨a,A,c,qs,(some ⟨w.heap.size+1+1,0,none⟩),0,([]:List OtE),by rw [HLo.out.1];rfl,by rw [HLo.out.1];exact HF9.out,FS9.out.less (by omega),by rw [HLo.out.2];exact HOs.out⟩,HX9.out⟩
  ·cases g6:decide ((R.of - 1) / 2 < (n6:Int))
   ·have HLo:=Hd (look_end HL1.out HO1.out (show look2B R=false by unfold look2B halfI;rw [gl,HN6.out,g6];rfl))
    go_wp2
    have HW1:=Hd (fun W' (h:(relE w2.heap.size).rel w2 W')=>rp_whole E1.out h)
    (refine Rm.wp_region_mix' (R:=relE w2.heap.size) (fun _ _ _=>True) (fun _ _ _ _ _ hq=>hq) 10 (by first | exact Nat.le_refl _ | omega | (simp;omega)) (by kernel_rfl) (by kernel_rfl) ?_;simp only [Tc,Tz,Dc,Dz])
    (refine Rm.wpMix_loadAgg (HW1.out) rfl rfl rfl Tryz.underlying33 (by kernel_rfl) ?_;simp only [Act.put,Sa,Sz,Ss])
    (refine Rm.wpMix_det rfl rfl rfl (enters Tryz.func92 (by kernel_rfl) rfl) (fun W9' h9=>c_l6Leads a A qs.length c R W9' HIV.out.1 HIV.out.2) rfl ?_;simp only [Act.put,Sa,Sz,Ss])
    ((try simp only [gl,Bool.not_true,Bool.not_false]);(iterate 2 (refine Rm.wpMix_plain rfl rfl ?_;go_big_quiet_step (fail);refine wpQuiet_nil ?_)))
    (refine Rm.wpMix_load1 (fun W9' h9=>show W9'.cell? _=some (.slice A qs.length c) from bx_cell (Ext.box h9 E1.out) 10) rfl rfl rfl Tryz.underlying31 rfl ?_;simp only [Act.put,Sa,Sz,Ss])
    (refine Rm.wpMix_det rfl rfl rfl (enters Tryz.func87 (by kernel_rfl) rfl) (fun W9' h9=>HC6.out W9' h9) rfl ?_;simp only [Act.put,Sa,Sz,Ss])
    (refine Rm.wpMix_loadAgg (HW1.out) rfl rfl rfl Tryz.underlying33 (by kernel_rfl) ?_;simp only [Act.put,Sa,Sz,Ss])
    (refine Rm.wpMix_det rfl rfl rfl (enters Tryz.func88 (by kernel_rfl) rfl) (fun W9' h9=>c_l6Half a A qs.length c R W9' HOfb.out) rfl ?_;simp only [Act.put,Sa,Sz,Ss])
    ((iterate 1 (refine Rm.wpMix_plain rfl rfl ?_;go_big_quiet_step (fail);refine wpQuiet_nil ?_));(try simp only [g6,Bool.not_true,Bool.not_false]);(iterate 1 (refine Rm.wpMix_plain rfl rfl ?_;go_big_quiet_step (fail);refine wpQuiet_nil ?_)))
    refine Rm.wpMix_nil ?_
    rintro v7 hW
    have x:Ext w2 v7:=hW
    obtain ⟨E1,E2,HF,FS,X⟩:Hid _∧Hid _∧Hid _∧Hid _∧Hid _:=⟨Hd (x.box E1.out),Hd (x.box E2.out),Hd (HF.out.keep x),Hd (FS.out.keep x),Hd (Ext.trans X.out x)⟩
    have hz_v7:=x.size
    clear x hW
    clear HW1
    (go_wp2_with (with_reducible refine wl_stop 71 ?_);refine stop_load (E1.out) rfl Tryz.underlying33 (by kernel_rfl) ?_;simp only [Act.put,Sa,Sz,Ss])
    (go_wp2_with (with_reducible refine wl_stopS 33 ?_);refine stop_store ((w.heap.size+1)) (Rp.cs a A qs.length c R) rfl rfl (E2.out) (by kernel_rfl) rfl (by simp [Value.oneCell']) ?_)
    intro W9 e9 k9
    have HE9:=Hd e9
    have HX9:=Hd (chg_new X.out k9 (by omega))
    have HF9:=Hd (HF.out.boxed E2.out k9)
    have FS9:=Hd (FS.out.boxed E2.out (by decide) (by decide) (by decide) (by decide) k9)
    clear e9 k9
    go_wp2
    exact bodyPost_ret (results_box2 Tryz.results52 rfl rfl Tryz.underlying33 (by kernel_rfl) HE9.out) rfl ⟨⟨a,A,c,qs,(some ⟨w.heap.size+1+1,0,none⟩),0,([]:List OtE),by rw [HLo.out.1];rfl,by rw [HLo.out.1];exact HF9.out,FS9.out.less (by omega),by rw [HLo.out.2];exact HOs.out⟩,HX9.out⟩
   ·have HLo:=Hd (look_start HL1.out HO1.out (show look2B R=true by unfold look2B halfI;rw [gl,HN6.out,g6];rfl))
    have HC0:=Hd (show 0 < cntV 6 R.votes by rw [HN6.out];have h:=g6;simp only [decide_eq_true_eq] at h;omega)
    go_wp2
    have HW1:=Hd (fun W' (h:(relE w2.heap.size).rel w2 W')=>rp_whole E1.out h)
    (refine Rm.wp_region_mix' (R:=relE w2.heap.size) (fun _ _ _=>True) (fun _ _ _ _ _ hq=>hq) 10 (by first | exact Nat.le_refl _ | omega | (simp;omega)) (by kernel_rfl) (by kernel_rfl) ?_;simp only [Tc,Tz,Dc,Dz])
    (refine Rm.wpMix_loadAgg (HW1.out) rfl rfl rfl Tryz.underlying33 (by kernel_rfl) ?_;simp only [Act.put,Sa,Sz,Ss])
    (refine Rm.wpMix_det rfl rfl rfl (enters Tryz.func92 (by kernel_rfl) rfl) (fun W9' h9=>c_l6Leads a A qs.length c R W9' HIV.out.1 HIV.out.2) rfl ?_;simp only [Act.put,Sa,Sz,Ss])
    ((try simp only [gl,Bool.not_true,Bool.not_false]);(iterate 2 (refine Rm.wpMix_plain rfl rfl ?_;go_big_quiet_step (fail);refine wpQuiet_nil ?_)))
    (refine Rm.wpMix_load1 (fun W9' h9=>show W9'.cell? _=some (.slice A qs.length c) from bx_cell (Ext.box h9 E1.out) 10) rfl rfl rfl Tryz.underlying31 rfl ?_;simp only [Act.put,Sa,Sz,Ss])
    (refine Rm.wpMix_det rfl rfl rfl (enters Tryz.func87 (by kernel_rfl) rfl) (fun W9' h9=>HC6.out W9' h9) rfl ?_;simp only [Act.put,Sa,Sz,Ss])
    (refine Rm.wpMix_loadAgg (HW1.out) rfl rfl rfl Tryz.underlying33 (by kernel_rfl) ?_;simp only [Act.put,Sa,Sz,Ss])
    (refine Rm.wpMix_det rfl rfl rfl (enters Tryz.func88 (by kernel_rfl) rfl) (fun W9' h9=>c_l6Half a A qs.length c R W9' HOfb.out) rfl ?_;simp only [Act.put,Sa,Sz,Ss])
    ((iterate 1 (refine Rm.wpMix_plain rfl rfl ?_;go_big_quiet_step (fail);refine wpQuiet_nil ?_));(try simp only [g6,Bool.not_true,Bool.not_false]);(iterate 1 (refine Rm.wpMix_plain rfl rfl ?_;go_big_quiet_step (fail);refine wpQuiet_nil ?_)))
    refine Rm.wpMix_nil ?_
    rintro v7 hW
    have x:Ext w2 v7:=hW
    obtain ⟨E1,E2,HF,FS,X⟩:Hid _∧Hid _∧Hid _∧Hid _∧Hid _:=⟨Hd (x.box E1.out),Hd (x.box E2.out),Hd (HF.out.keep x),Hd (FS.out.keep x),Hd (Ext.trans X.out x)⟩
    have hz_v7:=x.size
    clear x hW
    clear HW1
    have E2v:=Hd E2.out
    have HA0:=Hd (fun k (hk:k∈blk (some ⟨w.heap.size+1+1,0,none⟩))=>(FS.out.row.inB k hk).2)
    obtain ⟨RX,hRX⟩:∃ X,startX R=X:=⟨_,rfl⟩
    obtain ⟨OX,hOX⟩:∃ O,allTo R.me (startM (startX R)) R.of.toNat=O:=⟨_,rfl⟩
    have hcon:=c_l7Start B a A c qs R v7 HF.out HT.out HC0.out
    have hOl:OX.length≤5:=by rw [←hOX];have:=allTo_len R.me (startM (startX R)) R.of.toNat;omega
    have HL2:=Hd (show lookR R=RX∧lookO R=([]:List Ot)++OX by rw [←hRX,←hOX];exact HLo.out)
    rw [hRX] at hcon hOX
    rw [hOX] at hcon
    have HCon:=Hd hcon
    clear hcon hRX hOX HLo
    (go_wp2_with (with_reducible refine wl_stop 63 ?_);refine stop_load (E1.out) rfl Tryz.underlying33 (by kernel_rfl) ?_;simp only [Act.put,Sa,Sz,Ss])
    go_wp2_with fail
    refine HCon.out.mono ?_
    rintro e v8 ⟨⟨a9,g9,Am,cm,om,rfl,f9,fm,mm⟩,x⟩
    obtain ⟨E1,E2,HF,FS,X⟩:Hid _∧Hid _∧Hid _∧Hid _∧Hid _:=⟨Hd (x.box E1.out),Hd (x.box E2.out),Hd (HF.out.keep x),Hd (FS.out.keep x),Hd (Ext.trans X.out x)⟩
    have hz_v8:=x.size
    clear x HCon
    have XA:=ext_alloc v8 Rp.zobj
    have EQ0:=Hd (hNew (w:=v8) (o:=Rp.zobj) rfl)
    obtain ⟨E1,E2,HF,FS,X⟩:Hid _∧Hid _∧Hid _∧Hid _∧Hid _:=⟨Hd (XA.box E1.out),Hd (XA.box E2.out),Hd (HF.out.keep XA),Hd (FS.out.keep XA),Hd (Ext.trans X.out XA)⟩
    have HF9:=Hd (f9.keep XA)
    have HM:=Hd (fm.keep XA)
    have HMm:=Hd mm
    have hml:om.length≤5:=by rw [←List.length_map (f:=Prod.snd),mm];exact hOl
    clear XA f9 fm mm
    have hv7:=bx_lt E2v.out
    (go_wp2_with (with_reducible refine wl_stopS 33 ?_);refine stop_store (v8.heap.size) (Rp.cs a9 (some ⟨g9,0,none⟩) 0 0 RX) rfl rfl (EQ0.out) (by kernel_rfl) rfl (by simp [Value.oneCell']) ?_)
    intro W8 e8 k8
    have EQ:=Hd e8
    have hlt8:=bx_lt EQ0.out
    obtain ⟨E2,FS,X⟩:Hid _∧Hid _∧Hid _:=⟨Hd (box_chg E2.out k8 (by omega)),Hd (FS.out.boxed EQ0.out (by decide) (by decide) (by decide) (by decide) k8),Hd (ext_chg X.out k8 (fun k hk=>by rw [Mi] at hk;omega))⟩
    obtain ⟨HF9,HM⟩:Hid _∧Hid _:=⟨Hd (HF9.out.boxed EQ0.out k8),Hd (HM.out.boxed EQ0.out (by decide) (by decide) (by decide) (by decide) k8)⟩
    have hs8:=bx_lt e8
    clear e8 k8 E1 HF EQ0
    go_wp2
    obtain ⟨g,obj1,hg1,hg2,hp8,hg8,hrun⟩:=outs_plan (.cells (Rp.cs a9 (some ⟨g9,0,none⟩) 0 0 RX) 33) FS.out HM.out E2.out hv7 HA0.out (by simp only [List.length_cons,List.length_nil];omega) (by omega)
    have HOth:=Hd (outs_oth FS.out E2.out hg2)
    have HQ:=Hd (relM_box (hp:=hp8) (hg:=hg8) (obj:=(.cells (Rp.cs a9 (some ⟨g9,0,none⟩) 0 0 RX) 33)) (obj1:=obj1) EQ.out (by omega) (outs_apart FS.out EQ.out (by omega) hg2))
    have HQw:=Hd (fun W' (h:(relM (w.heap.size+1) g (.cells (Rp.cs a9 (some ⟨g9,0,none⟩) 0 0 RX) 33) obj1 W8.heap.size hp8 hg8).rel W8 W')=>cells_mid (cs:=Rp.cs a9 (some ⟨g9,0,none⟩) 0 0 RX) (HQ.out W' h) [] [] rfl rfl)
    have HRun:=Hd hrun
    have HG1:=Hd hg1
    have HG2:=Hd hg2
    clear hrun hg1 hg2
    (refine Rm.wp_region_mix' (R:=relM (w.heap.size+1) g (.cells (Rp.cs a9 (some ⟨g9,0,none⟩) 0 0 RX) 33) obj1 W8.heap.size hp8 hg8) (joinΦ (w.heap.size+1) (.cells (Rp.cs a9 (some ⟨g9,0,none⟩) 0 0 RX) 33) g obj1 W8.heap.size (w.heap.size+1+1) (([]:List OtE)++om)) (fun _ _ _ _ _ hq=>hq) 6 (by first | exact Nat.le_refl _ | omega | (simp;omega)) (by kernel_rfl) (by kernel_rfl) ?_;simp only [Tc,Tz,Dc,Dz])
    (refine Rm.wpMix_loadAgg (HQw.out) rfl rfl rfl Tryz.underlying33 (by kernel_rfl) ?_;simp only [Act.put,Sa,Sz,Ss])
    (iterate 2 (refine Rm.wpMix_plain rfl rfl ?_;go_big_quiet_step (fail);refine wpQuiet_nil ?_))
    refine rm_own (enc:=OtE.enc) _ _ 35 117 18 (w.heap.size+1+1) rfl rfl (some ⟨w.heap.size+1+1,0,none⟩) _ 0 ([]:List OtE) rfl rfl Am _ cm om rfl rfl (fun W hW=>HRun.out W hW) rfl (fun A5 c5=>?_)
    simp only [Act.put,Sa,Sz,Ss]
    refine wpMix_stM HG1.out E2.out rfl rfl rfl rfl rfl (by kernel_rfl) rfl (by simp [Value.oneCell']) rfl ?_
    simp only [Act.put,Sa,Sz,Ss]
    (iterate 1 (refine Rm.wpMix_plain rfl rfl ?_;go_big_quiet_step (fail);refine wpQuiet_nil ?_))
    refine Rm.wpMix_nil ?_
    rintro W9 ⟨⟨h9,hv9⟩,e9⟩
    have HE9:=Hd e9
    have HOS9:=Hd (outs_join FS.out HM.out (by omega) HOth.out h9 hv9)
    have HF9:=Hd (HF9.out.other h9.1 HOth.out)
    have HX9:=Hd (ext_chg X.out h9.1 (fun k hk=>by
     have hgg:=HG2.out
     simp only [List.mem_cons,List.not_mem_nil,or_false] at hk
     rcases hk with rfl | rfl
     ·omega
     ·rcases hgg with h | h <;> omega))
    clear h9 hv9 e9
    go_wp2
    refine bodyPost_ret (results_box2 Tryz.results52 rfl rfl Tryz.underlying33 (by kernel_rfl) HE9.out) rfl ⟨⟨a9,some ⟨g9,0,none⟩,0,[],A5,c5,([]:List OtE)++om,by rw [HL2.out.1];rfl,by rw [HL2.out.1];exact HF9.out.less (by omega),HOS9.out.less (by omega),by rw [HL2.out.2,List.map_append,HOs.out,HMm.out]⟩,HX9.out⟩
 ·cases g2:decide (f6 < 0)
  ·have HB:=Hd (show look1B R=false by unfold look1B halfI;rw [HN5.out,HN6f.out,g1,g2];rfl)
   have HW1:=Hd (fun W' (h:(relE W1.heap.size).rel W1 W')=>rp_whole E1.out h)
   (refine Rm.wp_region_mix' (R:=relE W1.heap.size) (fun _ _ _=>True) (fun _ _ _ _ _ hq=>hq) 14 (by first | exact Nat.le_refl _ | omega | (simp;omega)) (by kernel_rfl) (by kernel_rfl) ?_;simp only [Tc,Tz,Dc,Dz])
   (iterate 1 (refine Rm.wpMix_plain rfl rfl ?_;go_big_quiet_step (fail);refine wpQuiet_nil ?_))
   (refine Rm.wpMix_load1 (fun W9' h9=>show W9'.cell? _=some (.slice A qs.length c) from bx_cell (Ext.box h9 E1.out) 10) rfl rfl rfl Tryz.underlying31 rfl ?_;simp only [Act.put,Sa,Sz,Ss])
   (refine Rm.wpMix_det rfl rfl rfl (enters Tryz.func87 (by kernel_rfl) rfl) (fun W9' h9=>HC5.out W9' h9) rfl ?_;simp only [Act.put,Sa,Sz,Ss])
   (refine Rm.wpMix_loadAgg (HW1.out) rfl rfl rfl Tryz.underlying33 (by kernel_rfl) ?_;simp only [Act.put,Sa,Sz,Ss])
   (refine Rm.wpMix_det rfl rfl rfl (enters Tryz.func88 (by kernel_rfl) rfl) (fun W9' h9=>c_l6Half a A qs.length c R W9' HOfb.out) rfl ?_;simp only [Act.put,Sa,Sz,Ss])
   ((iterate 1 (refine Rm.wpMix_plain rfl rfl ?_;go_big_quiet_step (fail);refine wpQuiet_nil ?_));(try simp only [g1,Bool.not_true,Bool.not_false]);(iterate 2 (refine Rm.wpMix_plain rfl rfl ?_;go_big_quiet_step (fail);refine wpQuiet_nil ?_)))
   (refine Rm.wpMix_load1 (fun W9' h9=>show W9'.cell? _=some (.slice A qs.length c) from bx_cell (Ext.box h9 E1.out) 10) rfl rfl rfl Tryz.underlying31 rfl ?_;simp only [Act.put,Sa,Sz,Ss])
   ((iterate 1 (refine Rm.wpMix_plain rfl rfl ?_;go_big_quiet_step (fail);refine wpQuiet_nil ?_));(refine Rm.wpMix_load1 (fun W9' h9=>show W9'.cell? _=some (.int .i64 R.me) from bx_cell (Ext.box h9 E1.out) 0) rfl rfl rfl Tryz.underlying3 rfl ?_;simp only [Act.put,Sa,Sz,Ss]))
   (refine Rm.wpMix_det rfl rfl rfl (enters Tryz.func89 (by kernel_rfl) rfl) (fun W9' h9=>HFi.out W9' h9) rfl ?_;simp only [Act.put,Sa,Sz,Ss])
   ((iterate 1 (refine Rm.wpMix_plain rfl rfl ?_;go_big_quiet_step (fail);refine wpQuiet_nil ?_));(try simp only [g2,Bool.not_true,Bool.not_false]);(iterate 1 (refine Rm.wpMix_plain rfl rfl ?_;go_big_quiet_step (fail);refine wpQuiet_nil ?_)))
   refine Rm.wpMix_nil ?_
   rintro w2 hW
   have x:Ext W1 w2:=hW
   obtain ⟨E1,E2,HF,FS,X⟩:Hid _∧Hid _∧Hid _∧Hid _∧Hid _:=⟨Hd (x.box E1.out),Hd (x.box E2.out),Hd (HF.out.keep x),Hd (FS.out.keep x),Hd (Ext.trans X.out x)⟩
   have hz_w2:=x.size
   clear x hW
   clear HW1 HC5 HFi
   have HL1:=Hd (show look1 R=R by unfold look1;rw [if_neg (by rw [HB.out];simp)])
   have HO1:=Hd (show look1O R=[] by unfold look1O;rw [HB.out];simp)
   have HOs:=Hd (show List.map Prod.snd ([]:List OtE)=[] from rfl)
   obtain ⟨n6,hn6⟩:∃ n,cntV 6 R.votes=n:=⟨_,rfl⟩
   have HC6:=Hd (show ∀ W,Ext w2 W→Calls Tryz.prog 87 #[.slice A qs.length c, .int .i64 6] W fun e w'=>e = .returned (.int .i64 n6)∧Ext W w' from fun W h=>by
    have h5:=c_l7Count A c qs 6 W (HF.out.keep h).v.1 (by omega)
    rw [HF.out.e,hn6] at h5
    exact h5)
   have HN6:=Hd hn6
   clear hn6
   have hof:=HOf.out
   cases gl:leadsB R
   ·have HLo:=Hd (look_end HL1.out HO1.out (show look2B R=false by unfold look2B;rw [gl];rfl))
    go_wp2
    have HW1:=Hd (fun W' (h:(relE w2.heap.size).rel w2 W')=>rp_whole E1.out h)
    (refine Rm.wp_region_mix' (R:=relE w2.heap.size) (fun _ _ _=>True) (fun _ _ _ _ _ hq=>hq) 10 (by first | exact Nat.le_refl _ | omega | (simp;omega)) (by kernel_rfl) (by kernel_rfl) ?_;simp only [Tc,Tz,Dc,Dz])
    (refine Rm.wpMix_loadAgg (HW1.out) rfl rfl rfl Tryz.underlying33 (by kernel_rfl) ?_;simp only [Act.put,Sa,Sz,Ss])
    (refine Rm.wpMix_det rfl rfl rfl (enters Tryz.func92 (by kernel_rfl) rfl) (fun W9' h9=>c_l6Leads a A qs.length c R W9' HIV.out.1 HIV.out.2) rfl ?_;simp only [Act.put,Sa,Sz,Ss])
    ((try simp only [gl,Bool.not_true,Bool.not_false]);(iterate 1 (refine Rm.wpMix_plain rfl rfl ?_;go_big_quiet_step (fail);refine wpQuiet_nil ?_));(iterate 6 (refine Rm.wpMix_skip rfl rfl ?_;simp only [Act.put,Sa,Sz,Ss]));(iterate 1 (refine Rm.wpMix_plain rfl rfl ?_;go_big_quiet_step (fail);refine wpQuiet_nil ?_)))
    refine Rm.wpMix_nil ?_
    rintro v7 hW
    have x:Ext w2 v7:=hW
    obtain ⟨E1,E2,HF,FS,X⟩:Hid _∧Hid _∧Hid _∧Hid _∧Hid _:=⟨Hd (x.box E1.out),Hd (x.box E2.out),Hd (HF.out.keep x),Hd (FS.out.keep x),Hd (Ext.trans X.out x)⟩
    have hz_v7:=x.size
    clear x hW
    clear HW1
    (go_wp2_with (with_reducible refine wl_stop 71 ?_);refine stop_load (E1.out) rfl Tryz.underlying33 (by kernel_rfl) ?_;simp only [Act.put,Sa,Sz,Ss])
    (go_wp2_with (with_reducible refine wl_stopS 33 ?_);refine stop_store ((w.heap.size+1)) (Rp.cs a A qs.length c R) rfl rfl (E2.out) (by kernel_rfl) rfl (by simp [Value.oneCell']) ?_)
    intro W9 e9 k9
    have HE9:=Hd e9
    have HX9:=Hd (chg_new X.out k9 (by omega))
    have HF9:=Hd (HF.out.boxed E2.out k9)
    have FS9:=Hd (FS.out.boxed E2.out (by decide) (by decide) (by decide) (by decide) k9)
    clear e9 k9
    go_wp2
    exact bodyPost_ret (results_box2 Tryz.results52 rfl rfl Tryz.underlying33 (by kernel_rfl) HE9.out) rfl ⟨⟨a,A,c,qs,(some ⟨w.heap.size+1+1,0,none⟩),0,([]:List OtE),by rw [HLo.out.1];rfl,by rw [HLo.out.1];exact HF9.out,FS9.out.less (by omega),by rw [HLo.out.2];exact HOs.out⟩,HX9.out⟩
   ·cases g6:decide ((R.of - 1) / 2 < (n6:Int))
    ·have HLo:=Hd (look_end HL1.out HO1.out (show look2B R=false by unfold look2B halfI;rw [gl,HN6.out,g6];rfl))
     go_wp2
     have HW1:=Hd (fun W' (h:(relE w2.heap.size).rel w2 W')=>rp_whole E1.out h)
     (refine Rm.wp_region_mix' (R:=relE w2.heap.size) (fun _ _ _=>True) (fun _ _ _ _ _ hq=>hq) 10 (by first | exact Nat.le_refl _ | omega | (simp;omega)) (by kernel_rfl) (by kernel_rfl) ?_;simp only [Tc,Tz,Dc,Dz])
     (refine Rm.wpMix_loadAgg (HW1.out) rfl rfl rfl Tryz.underlying33 (by kernel_rfl) ?_;simp only [Act.put,Sa,Sz,Ss])
     (refine Rm.wpMix_det rfl rfl rfl (enters Tryz.func92 (by kernel_rfl) rfl) (fun W9' h9=>c_l6Leads a A qs.length c R W9' HIV.out.1 HIV.out.2) rfl ?_;simp only [Act.put,Sa,Sz,Ss])
     ((try simp only [gl,Bool.not_true,Bool.not_false]);(iterate 2 (refine Rm.wpMix_plain rfl rfl ?_;go_big_quiet_step (fail);refine wpQuiet_nil ?_)))
     (refine Rm.wpMix_load1 (fun W9' h9=>show W9'.cell? _=some (.slice A qs.length c) from bx_cell (Ext.box h9 E1.out) 10) rfl rfl rfl Tryz.underlying31 rfl ?_;simp only [Act.put,Sa,Sz,Ss])
     (refine Rm.wpMix_det rfl rfl rfl (enters Tryz.func87 (by kernel_rfl) rfl) (fun W9' h9=>HC6.out W9' h9) rfl ?_;simp only [Act.put,Sa,Sz,Ss])
     (refine Rm.wpMix_loadAgg (HW1.out) rfl rfl rfl Tryz.underlying33 (by kernel_rfl) ?_;simp only [Act.put,Sa,Sz,Ss])
     (refine Rm.wpMix_det rfl rfl rfl (enters Tryz.func88 (by kernel_rfl) rfl) (fun W9' h9=>c_l6Half a A qs.length c R W9' HOfb.out) rfl ?_;simp only [Act.put,Sa,Sz,Ss])
     ((iterate 1 (refine Rm.wpMix_plain rfl rfl ?_;go_big_quiet_step (fail);refine wpQuiet_nil ?_));(try simp only [g6,Bool.not_true,Bool.not_false]);(iterate 1 (refine Rm.wpMix_plain rfl rfl ?_;go_big_quiet_step (fail);refine wpQuiet_nil ?_)))
     refine Rm.wpMix_nil ?_
     rintro v7 hW
     have x:Ext w2 v7:=hW
     obtain ⟨E1,E2,HF,FS,X⟩:Hid _∧Hid _∧Hid _∧Hid _∧Hid _:=⟨Hd (x.box E1.out),Hd (x.box E2.out),Hd (HF.out.keep x),Hd (FS.out.keep x),Hd (Ext.trans X.out x)⟩
     have hz_v7:=x.size
     clear x hW
     clear HW1
     (go_wp2_with (with_reducible refine wl_stop 71 ?_);refine stop_load (E1.out) rfl Tryz.underlying33 (by kernel_rfl) ?_;simp only [Act.put,Sa,Sz,Ss])
     (go_wp2_with (with_reducible refine wl_stopS 33 ?_);refine stop_store ((w.heap.size+1)) (Rp.cs a A qs.length c R) rfl rfl (E2.out) (by kernel_rfl) rfl (by simp [Value.oneCell']) ?_)
     intro W9 e9 k9
     have HE9:=Hd e9
     have HX9:=Hd (chg_new X.out k9 (by omega))
     have HF9:=Hd (HF.out.boxed E2.out k9)
     have FS9:=Hd (FS.out.boxed E2.out (by decide) (by decide) (by decide) (by decide) k9)
     clear e9 k9
     go_wp2
     exact bodyPost_ret (results_box2 Tryz.results52 rfl rfl Tryz.underlying33 (by kernel_rfl) HE9.out) rfl ⟨⟨a,A,c,qs,(some ⟨w.heap.size+1+1,0,none⟩),0,([]:List OtE),by rw [HLo.out.1];rfl,by rw [HLo.out.1];exact HF9.out,FS9.out.less (by omega),by rw [HLo.out.2];exact HOs.out⟩,HX9.out⟩
    ·have HLo:=Hd (look_start HL1.out HO1.out (show look2B R=true by unfold look2B halfI;rw [gl,HN6.out,g6];rfl))
     have HC0:=Hd (show 0 < cntV 6 R.votes by rw [HN6.out];have h:=g6;simp only [decide_eq_true_eq] at h;omega)
     go_wp2
     have HW1:=Hd (fun W' (h:(relE w2.heap.size).rel w2 W')=>rp_whole E1.out h)
     (refine Rm.wp_region_mix' (R:=relE w2.heap.size) (fun _ _ _=>True) (fun _ _ _ _ _ hq=>hq) 10 (by first | exact Nat.le_refl _ | omega | (simp;omega)) (by kernel_rfl) (by kernel_rfl) ?_;simp only [Tc,Tz,Dc,Dz])
     (refine Rm.wpMix_loadAgg (HW1.out) rfl rfl rfl Tryz.underlying33 (by kernel_rfl) ?_;simp only [Act.put,Sa,Sz,Ss])
     (refine Rm.wpMix_det rfl rfl rfl (enters Tryz.func92 (by kernel_rfl) rfl) (fun W9' h9=>c_l6Leads a A qs.length c R W9' HIV.out.1 HIV.out.2) rfl ?_;simp only [Act.put,Sa,Sz,Ss])
     ((try simp only [gl,Bool.not_true,Bool.not_false]);(iterate 2 (refine Rm.wpMix_plain rfl rfl ?_;go_big_quiet_step (fail);refine wpQuiet_nil ?_)))
     (refine Rm.wpMix_load1 (fun W9' h9=>show W9'.cell? _=some (.slice A qs.length c) from bx_cell (Ext.box h9 E1.out) 10) rfl rfl rfl Tryz.underlying31 rfl ?_;simp only [Act.put,Sa,Sz,Ss])
     (refine Rm.wpMix_det rfl rfl rfl (enters Tryz.func87 (by kernel_rfl) rfl) (fun W9' h9=>HC6.out W9' h9) rfl ?_;simp only [Act.put,Sa,Sz,Ss])
     (refine Rm.wpMix_loadAgg (HW1.out) rfl rfl rfl Tryz.underlying33 (by kernel_rfl) ?_;simp only [Act.put,Sa,Sz,Ss])
     (refine Rm.wpMix_det rfl rfl rfl (enters Tryz.func88 (by kernel_rfl) rfl) (fun W9' h9=>c_l6Half a A qs.length c R W9' HOfb.out) rfl ?_;simp only [Act.put,Sa,Sz,Ss])
     ((iterate 1 (refine Rm.wpMix_plain rfl rfl ?_;go_big_quiet_step (fail);refine wpQuiet_nil ?_));(try simp only [g6,Bool.not_true,Bool.not_false]);(iterate 1 (refine Rm.wpMix_plain rfl rfl ?_;go_big_quiet_step (fail);refine wpQuiet_nil ?_)))
     refine Rm.wpMix_nil ?_
     rintro v7 hW
     have x:Ext w2 v7:=hW
     obtain ⟨E1,E2,HF,FS,X⟩:Hid _∧Hid _∧Hid _∧Hid _∧Hid _:=⟨Hd (x.box E1.out),Hd (x.box E2.out),Hd (HF.out.keep x),Hd (FS.out.keep x),Hd (Ext.trans X.out x)⟩
     have hz_v7:=x.size
     clear x hW
     clear HW1
     have E2v:=Hd E2.out
     have HA0:=Hd (fun k (hk:k∈blk (some ⟨w.heap.size+1+1,0,none⟩))=>(FS.out.row.inB k hk).2)
     obtain ⟨RX,hRX⟩:∃ X,startX R=X:=⟨_,rfl⟩
     obtain ⟨OX,hOX⟩:∃ O,allTo R.me (startM (startX R)) R.of.toNat=O:=⟨_,rfl⟩
     have hcon:=c_l7Start B a A c qs R v7 HF.out HT.out HC0.out
     have hOl:OX.length≤5:=by rw [←hOX];have:=allTo_len R.me (startM (startX R)) R.of.toNat;omega
     have HL2:=Hd (show lookR R=RX∧lookO R=([]:List Ot)++OX by rw [←hRX,←hOX];exact HLo.out)
     rw [hRX] at hcon hOX
     rw [hOX] at hcon
     have HCon:=Hd hcon
     clear hcon hRX hOX HLo
     (go_wp2_with (with_reducible refine wl_stop 63 ?_);refine stop_load (E1.out) rfl Tryz.underlying33 (by kernel_rfl) ?_;simp only [Act.put,Sa,Sz,Ss])
     go_wp2_with fail
     refine HCon.out.mono ?_
     rintro e v8 ⟨⟨a9,g9,Am,cm,om,rfl,f9,fm,mm⟩,x⟩
     obtain ⟨E1,E2,HF,FS,X⟩:Hid _∧Hid _∧Hid _∧Hid _∧Hid _:=⟨Hd (x.box E1.out),Hd (x.box E2.out),Hd (HF.out.keep x),Hd (FS.out.keep x),Hd (Ext.trans X.out x)⟩
     have hz_v8:=x.size
     clear x HCon
     have XA:=ext_alloc v8 Rp.zobj
     have EQ0:=Hd (hNew (w:=v8) (o:=Rp.zobj) rfl)
     obtain ⟨E1,E2,HF,FS,X⟩:Hid _∧Hid _∧Hid _∧Hid _∧Hid _:=⟨Hd (XA.box E1.out),Hd (XA.box E2.out),Hd (HF.out.keep XA),Hd (FS.out.keep XA),Hd (Ext.trans X.out XA)⟩
     have HF9:=Hd (f9.keep XA)
     have HM:=Hd (fm.keep XA)
     have HMm:=Hd mm
     have hml:om.length≤5:=by rw [←List.length_map (f:=Prod.snd),mm];exact hOl
     clear XA f9 fm mm
     have hv7:=bx_lt E2v.out
     (go_wp2_with (with_reducible refine wl_stopS 33 ?_);refine stop_store (v8.heap.size) (Rp.cs a9 (some ⟨g9,0,none⟩) 0 0 RX) rfl rfl (EQ0.out) (by kernel_rfl) rfl (by simp [Value.oneCell']) ?_)
     intro W8 e8 k8
     have EQ:=Hd e8
     have hlt8:=bx_lt EQ0.out
     obtain ⟨E2,FS,X⟩:Hid _∧Hid _∧Hid _:=⟨Hd (box_chg E2.out k8 (by omega)),Hd (FS.out.boxed EQ0.out (by decide) (by decide) (by decide) (by decide) k8),Hd (ext_chg X.out k8 (fun k hk=>by rw [Mi] at hk;omega))⟩
     obtain ⟨HF9,HM⟩:Hid _∧Hid _:=⟨Hd (HF9.out.boxed EQ0.out k8),Hd (HM.out.boxed EQ0.out (by decide) (by decide) (by decide) (by decide) k8)⟩
     have hs8:=bx_lt e8
     clear e8 k8 E1 HF EQ0
     go_wp2
     obtain ⟨g,obj1,hg1,hg2,hp8,hg8,hrun⟩:=outs_plan (.cells (Rp.cs a9 (some ⟨g9,0,none⟩) 0 0 RX) 33) FS.out HM.out E2.out hv7 HA0.out (by simp only [List.length_cons,List.length_nil];omega) (by omega)
     have HOth:=Hd (outs_oth FS.out E2.out hg2)
     have HQ:=Hd (relM_box (hp:=hp8) (hg:=hg8) (obj:=(.cells (Rp.cs a9 (some ⟨g9,0,none⟩) 0 0 RX) 33)) (obj1:=obj1) EQ.out (by omega) (outs_apart FS.out EQ.out (by omega) hg2))
     have HQw:=Hd (fun W' (h:(relM (w.heap.size+1) g (.cells (Rp.cs a9 (some ⟨g9,0,none⟩) 0 0 RX) 33) obj1 W8.heap.size hp8 hg8).rel W8 W')=>cells_mid (cs:=Rp.cs a9 (some ⟨g9,0,none⟩) 0 0 RX) (HQ.out W' h) [] [] rfl rfl)
     have HRun:=Hd hrun
     have HG1:=Hd hg1
     have HG2:=Hd hg2
     clear hrun hg1 hg2
     (refine Rm.wp_region_mix' (R:=relM (w.heap.size+1) g (.cells (Rp.cs a9 (some ⟨g9,0,none⟩) 0 0 RX) 33) obj1 W8.heap.size hp8 hg8) (joinΦ (w.heap.size+1) (.cells (Rp.cs a9 (some ⟨g9,0,none⟩) 0 0 RX) 33) g obj1 W8.heap.size (w.heap.size+1+1) (([]:List OtE)++om)) (fun _ _ _ _ _ hq=>hq) 6 (by first | exact Nat.le_refl _ | omega | (simp;omega)) (by kernel_rfl) (by kernel_rfl) ?_;simp only [Tc,Tz,Dc,Dz])
     (refine Rm.wpMix_loadAgg (HQw.out) rfl rfl rfl Tryz.underlying33 (by kernel_rfl) ?_;simp only [Act.put,Sa,Sz,Ss])
     (iterate 2 (refine Rm.wpMix_plain rfl rfl ?_;go_big_quiet_step (fail);refine wpQuiet_nil ?_))
     refine rm_own (enc:=OtE.enc) _ _ 35 117 18 (w.heap.size+1+1) rfl rfl (some ⟨w.heap.size+1+1,0,none⟩) _ 0 ([]:List OtE) rfl rfl Am _ cm om rfl rfl (fun W hW=>HRun.out W hW) rfl (fun A5 c5=>?_)
     simp only [Act.put,Sa,Sz,Ss]
     refine wpMix_stM HG1.out E2.out rfl rfl rfl rfl rfl (by kernel_rfl) rfl (by simp [Value.oneCell']) rfl ?_
     simp only [Act.put,Sa,Sz,Ss]
     (iterate 1 (refine Rm.wpMix_plain rfl rfl ?_;go_big_quiet_step (fail);refine wpQuiet_nil ?_))
     refine Rm.wpMix_nil ?_
     rintro W9 ⟨⟨h9,hv9⟩,e9⟩
     have HE9:=Hd e9
     have HOS9:=Hd (outs_join FS.out HM.out (by omega) HOth.out h9 hv9)
     have HF9:=Hd (HF9.out.other h9.1 HOth.out)
     have HX9:=Hd (ext_chg X.out h9.1 (fun k hk=>by
      have hgg:=HG2.out
      simp only [List.mem_cons,List.not_mem_nil,or_false] at hk
      rcases hk with rfl | rfl
      ·omega
      ·rcases hgg with h | h <;> omega))
     clear h9 hv9 e9
     go_wp2
     refine bodyPost_ret (results_box2 Tryz.results52 rfl rfl Tryz.underlying33 (by kernel_rfl) HE9.out) rfl ⟨⟨a9,some ⟨g9,0,none⟩,0,[],A5,c5,([]:List OtE)++om,by rw [HL2.out.1];rfl,by rw [HL2.out.1];exact HF9.out.less (by omega),HOS9.out.less (by omega),by rw [HL2.out.2,List.map_append,HOs.out,HMm.out]⟩,HX9.out⟩
  ·have HB:=Hd (show look1B R=true by unfold look1B halfI;rw [HN5.out,HN6f.out,g1,g2];rfl)
   have HW1:=Hd (fun W' (h:(relE W1.heap.size).rel W1 W')=>rp_whole E1.out h)
   (refine Rm.wp_region_mix' (R:=relE W1.heap.size) (fun _ _ _=>True) (fun _ _ _ _ _ hq=>hq) 14 (by first | exact Nat.le_refl _ | omega | (simp;omega)) (by kernel_rfl) (by kernel_rfl) ?_;simp only [Tc,Tz,Dc,Dz])
   (iterate 1 (refine Rm.wpMix_plain rfl rfl ?_;go_big_quiet_step (fail);refine wpQuiet_nil ?_))
   (refine Rm.wpMix_load1 (fun W9' h9=>show W9'.cell? _=some (.slice A qs.length c) from bx_cell (Ext.box h9 E1.out) 10) rfl rfl rfl Tryz.underlying31 rfl ?_;simp only [Act.put,Sa,Sz,Ss])
   (refine Rm.wpMix_det rfl rfl rfl (enters Tryz.func87 (by kernel_rfl) rfl) (fun W9' h9=>HC5.out W9' h9) rfl ?_;simp only [Act.put,Sa,Sz,Ss])
   (refine Rm.wpMix_loadAgg (HW1.out) rfl rfl rfl Tryz.underlying33 (by kernel_rfl) ?_;simp only [Act.put,Sa,Sz,Ss])
   (refine Rm.wpMix_det rfl rfl rfl (enters Tryz.func88 (by kernel_rfl) rfl) (fun W9' h9=>c_l6Half a A qs.length c R W9' HOfb.out) rfl ?_;simp only [Act.put,Sa,Sz,Ss])
   ((iterate 1 (refine Rm.wpMix_plain rfl rfl ?_;go_big_quiet_step (fail);refine wpQuiet_nil ?_));(try simp only [g1,Bool.not_true,Bool.not_false]);(iterate 2 (refine Rm.wpMix_plain rfl rfl ?_;go_big_quiet_step (fail);refine wpQuiet_nil ?_)))
   (refine Rm.wpMix_load1 (fun W9' h9=>show W9'.cell? _=some (.slice A qs.length c) from bx_cell (Ext.box h9 E1.out) 10) rfl rfl rfl Tryz.underlying31 rfl ?_;simp only [Act.put,Sa,Sz,Ss])
   ((iterate 1 (refine Rm.wpMix_plain rfl rfl ?_;go_big_quiet_step (fail);refine wpQuiet_nil ?_));(refine Rm.wpMix_load1 (fun W9' h9=>show W9'.cell? _=some (.int .i64 R.me) from bx_cell (Ext.box h9 E1.out) 0) rfl rfl rfl Tryz.underlying3 rfl ?_;simp only [Act.put,Sa,Sz,Ss]))
   (refine Rm.wpMix_det rfl rfl rfl (enters Tryz.func89 (by kernel_rfl) rfl) (fun W9' h9=>HFi.out W9' h9) rfl ?_;simp only [Act.put,Sa,Sz,Ss])
   ((iterate 1 (refine Rm.wpMix_plain rfl rfl ?_;go_big_quiet_step (fail);refine wpQuiet_nil ?_));(try simp only [g2,Bool.not_true,Bool.not_false]);(iterate 1 (refine Rm.wpMix_plain rfl rfl ?_;go_big_quiet_step (fail);refine wpQuiet_nil ?_)))
   refine Rm.wpMix_nil ?_
   rintro w2 hW
   have x:Ext W1 w2:=hW
   obtain ⟨E1,E2,HF,FS,X⟩:Hid _∧Hid _∧Hid _∧Hid _∧Hid _:=⟨Hd (x.box E1.out),Hd (x.box E2.out),Hd (HF.out.keep x),Hd (FS.out.keep x),Hd (Ext.trans X.out x)⟩
   have hz_w2:=x.size
   clear x hW
   clear HW1 HC5 HFi
   (go_wp2_with (with_reducible refine wl_stop 23 ?_);refine stop_load (E1.out) rfl Tryz.underlying33 (by kernel_rfl) ?_;simp only [Act.put,Sa,Sz,Ss])
   go_wp2_with fail
   refine (c_l6Do a A qs.length c R w2 HF.out.l.rd HLogs.out).mono ?_
   rintro e w3 ⟨⟨a5,rfl,hl5⟩,x⟩
   obtain ⟨E1,E2,HF,FS,X⟩:Hid _∧Hid _∧Hid _∧Hid _∧Hid _:=⟨Hd (x.box E1.out),Hd (x.box E2.out),Hd (HF.out.keep x),Hd (FS.out.keep x),Hd (Ext.trans X.out x)⟩
   have hz_w3:=x.size
   clear x
   have HL5:=Hd hl5
   clear hl5
   have XA:=ext_alloc w3 Mg.zobj
   have EM:=Hd (hNew (w:=w3) (o:=Mg.zobj) rfl)
   obtain ⟨E1,E2,HF,FS,X,HL5⟩:Hid _∧Hid _∧Hid _∧Hid _∧Hid _∧Hid _:=⟨Hd (XA.box E1.out),Hd (XA.box E2.out),Hd (HF.out.keep XA),Hd (FS.out.keep XA),Hd (Ext.trans X.out XA),Hd (HL5.out.keep XA)⟩
   clear XA
   (go_wp2_with (with_reducible refine wl_stopS 43 ?_);refine stop_store (w3.heap.size) (Mg.cs a5 (doM R)) rfl rfl (EM.out) (by kernel_rfl) rfl (by simp [Value.oneCell']) ?_)
   intro w4 e4 k4
   have hz_m:=bx_lt EM.out
   have E5:=Hd e4
   obtain ⟨E1,E2,HF,FS,X,HL5⟩:Hid _∧Hid _∧Hid _∧Hid _∧Hid _∧Hid _:=⟨Hd (box_chg E1.out k4 (by omega)),Hd (box_chg E2.out k4 (by omega)),Hd (HF.out.other k4 (fun k hk=>by rw [Mi] at hk;subst hk;exact ⟨_,_,EM.out,by decide,by decide,by decide,by decide⟩)),Hd (FS.out.boxed EM.out (by decide) (by decide) (by decide) (by decide) k4),Hd (ext_chg X.out k4 (fun k hk=>by rw [Mi] at hk;omega)),Hd (HL5.out.boxed EM.out (by decide) (by decide) (by decide) k4)⟩
   have hs4:=bx_lt e4
   clear e4 k4 EM
   go_wp2
   obtain ⟨R1,hR1⟩:∃ X,R.voted (doV R)=X:=⟨_,rfl⟩
   have HR1:=Hd hR1
   have HVt:=Hd (show ∀ W (av:LAd),Ext w4 W→LgF W B av R.log→Calls Tryz.prog 91 #[Rp.val a A qs.length c R,VtE.val av (doV R)] W fun e w'=>∃ v,e = .returned v∧RvV B a R1 v w'∧Ext W w' from fun W av h hl=>by
    have h5:=c_l6Vote B a A c qs R av (doV R) W (HF.out.keep h) hl (by have:=h.size;omega) HT.out.votes
    rw [hR1] at h5
    exact h5.mono fun e w' ⟨⟨A7,c7,q7,he,hf⟩,hx⟩=>⟨_,he,⟨A7,c7,q7,rfl,hf⟩,hx⟩)
   clear hR1
   have HW1:=Hd (fun W' (h:(relE w4.heap.size).rel w4 W')=>rp_whole E1.out h)
   (refine Rm.wp_region_mix' (R:=relE w4.heap.size) (fun _ _ _=>True) (fun _ _ _ _ _ hq=>hq) 14 (by first | exact Nat.le_refl _ | omega | (simp;omega)) (by kernel_rfl) (by kernel_rfl) ?_;simp only [Tc,Tz,Dc,Dz])
   (refine Rm.wpMix_loadAgg (HW1.out) rfl rfl rfl Tryz.underlying33 (by kernel_rfl) ?_;simp only [Act.put,Sa,Sz,Ss])
   ((iterate 1 (refine Rm.wpMix_plain rfl rfl ?_;go_big_quiet_step (fail);refine wpQuiet_nil ?_));(refine Rm.wpMix_load1 (fun W9' h9=>show W9'.cell? _=some (.int .i64 R.me) from bx_cell (Ext.box h9 E1.out) 0) rfl rfl rfl Tryz.underlying3 rfl ?_;simp only [Act.put,Sa,Sz,Ss]);(iterate 1 (refine Rm.wpMix_plain rfl rfl ?_;go_big_quiet_step (fail);refine wpQuiet_nil ?_));(refine Rm.wpMix_load1 (fun W9' h9=>show W9'.cell? _=some (.int .i64 R.view) from bx_cell (Ext.box h9 E1.out) 3) rfl rfl rfl Tryz.underlying3 rfl ?_;simp only [Act.put,Sa,Sz,Ss]);(iterate 1 (refine Rm.wpMix_plain rfl rfl ?_;go_big_quiet_step (fail);refine wpQuiet_nil ?_));(refine Rm.wpMix_load1 (fun W9' h9=>show W9'.cell? _=some (.int .i64 R.normal) from bx_cell (Ext.box h9 E1.out) 4) rfl rfl rfl Tryz.underlying3 rfl ?_;simp only [Act.put,Sa,Sz,Ss]);(iterate 1 (refine Rm.wpMix_plain rfl rfl ?_;go_big_quiet_step (fail);refine wpQuiet_nil ?_));(refine Rm.wpMix_load1 (fun W9' h9=>show W9'.cell? _=some (.int .i64 R.commit) from bx_cell (Ext.box h9 E1.out) 5) rfl rfl rfl Tryz.underlying3 rfl ?_;simp only [Act.put,Sa,Sz,Ss]);(iterate 1 (refine Rm.wpMix_plain rfl rfl ?_;go_big_quiet_step (fail);refine wpQuiet_nil ?_)))
   (refine Rm.wpMix_loadAgg (fun W9' h9=>rp_log E1.out h9) rfl rfl rfl Tryz.underlying30 (by kernel_rfl) ?_;simp only [Act.put,Sa,Sz,Ss])
   refine Rm.wpMix_call (LgV9 B R.log) rfl rfl rfl (enters Tryz.func86 (by kernel_rfl) rfl) (LgV9.mono _ _ _) (fun W' hW'=>(c_l3Copy a R.log HLogs.out W' (HF.out.keep hW').l.rd).mono fun e w' ⟨a4,he,hf,hx⟩=>⟨_,he,⟨a4,rfl,hf.less (by have:=(show Ext _ _ from hW').size;omega)⟩,hx⟩) rfl (fun v6 hv6=>?_)
   obtain ⟨_,_,a6,rfl,_⟩:=hv6
   simp only [Act.put,Sa,Sz,Ss]
   (iterate 1 (refine Rm.wpMix_plain rfl rfl ?_;go_big_quiet_step (fail);refine wpQuiet_nil ?_))
   refine Rm.wpMix_call (RvV B a R1) rfl rfl rfl (enters Tryz.func91 (by kernel_rfl) rfl) (RvV.mono _ _ _ _) (fun W' hW'=>HVt.out W' a6 hW'.1 hW'.2.inv) rfl (fun v7 hv7=>?_)
   obtain ⟨_,_,A2,c2,q2,rfl,_⟩:=hv7
   simp only [Act.put,Sa,Sz,Ss]
   refine Rm.wpMix_nil ?_
   rintro w5 ⟨⟨hW,_⟩,hv5⟩
   have x:Ext w4 w5:=hW
   obtain ⟨qs2,hq2,hf2⟩:=hv5.inv
   rw [hq2]
   have HF2:=Hd hf2
   clear hv5 hf2 hq2
   obtain ⟨E1,E2,FS,X,E5,HL5⟩:Hid _∧Hid _∧Hid _∧Hid _∧Hid _∧Hid _:=⟨Hd (x.box E1.out),Hd (x.box E2.out),Hd (FS.out.keep x),Hd (Ext.trans X.out x),Hd (x.box E5.out),Hd (HL5.out.keep x)⟩
   have hz_w5:=x.size
   clear x hW HF HVt HW1
   (go_wp2_with (with_reducible refine wl_stopS 33 ?_);refine stop_store (w.heap.size) (Rp.cs a A2 qs2.length c2 R1) rfl rfl (E1.out) (by kernel_rfl) rfl (by simp [Value.oneCell']) ?_)
   intro w6 e6 k6
   have HF:=Hd (HF2.out.boxed E1.out k6)
   obtain ⟨E2,FS,X,E5,HL5⟩:Hid _∧Hid _∧Hid _∧Hid _∧Hid _:=⟨Hd (box_chg E2.out k6 (by omega)),Hd (FS.out.boxed E1.out (by decide) (by decide) (by decide) (by decide) k6),Hd (ext_chg X.out k6 (fun k hk=>by rw [Mi] at hk;omega)),Hd (box_chg E5.out k6 (by omega)),Hd (HL5.out.boxed E1.out (by decide) (by decide) (by decide) k6)⟩
   have E1:=Hd e6
   have hs6:=bx_lt e6
   have hz_w6:=k6.size
   clear e6 k6 HF2
   have hT1:=HT.out.voted (v:=doV R) ⟨HT.out.lok,HT.out.c0,HT.out.c1⟩
   rw [HR1.out] at hT1
   have HT1:=Hd hT1
   have hIV1:=rpT_in hT1
   have HIV1:=Hd hIV1
   have hid:=voted_id R (doV R)
   rw [HR1.out] at hid
   have HId:=Hd hid
   have hq2:qs2.length≤20:=by have h1:=hT1.votes;rw [←HF.out.e,List.length_map] at h1;exact h1
   have HLl:=Hd (show look1 R=R1 by unfold look1;rw [if_pos HB.out,HR1.out])
   clear hT1 hIV1 hid HT HIV HOf HOfb
   obtain ⟨HT,HIV,HOf,HOfb⟩:Hid _∧Hid _∧Hid _∧Hid _:=⟨Hd HT1.out,Hd HIV1.out,Hd (show R1.of=1∨R1.of=3∨R1.of=5 from HT1.out.of),Hd HIV1.out.2⟩
   have HL1:=Hd HLl.out
   clear HT1 HIV1 HLl
   (go_wp2_with (with_reducible refine wl_stop 39 ?_);refine stop_load (E1.out) rfl Tryz.underlying33 (by kernel_rfl) ?_;simp only [Act.put,Sa,Sz,Ss])
   go_wp2_with fail
   refine (c_l6Leads a A2 qs2.length c2 R1 _ HIV.out.1 HIV.out.2).mono ?_
   rintro e w7 ⟨rfl,x⟩
   obtain ⟨E1,E2,HF,FS,X,E5,HL5⟩:Hid _∧Hid _∧Hid _∧Hid _∧Hid _∧Hid _∧Hid _:=⟨Hd (x.box E1.out),Hd (x.box E2.out),Hd (HF.out.keep x),Hd (FS.out.keep x),Hd (Ext.trans X.out x),Hd (x.box E5.out),Hd (HL5.out.keep x)⟩
   have hz_w7:=x.size
   clear x
   cases gq:leadsB R1
   ·have HO1:=Hd (show look1O R=[⟨R1.view % R1.of,doM R⟩] by unfold look1O;rw [HB.out,show leadsB R=false by rw [←gq];unfold leadsB;rw [HId.out.1,HId.out.2.1,HId.out.2.2.2.1]];rw [HId.out.2.1,HId.out.2.2.2.1];rfl)
    go_wp2
    (refine Rm.wp_region_mix' (R:=relE w7.heap.size) (fun _ _ _=>True) (fun _ _ _ _ _ hq=>hq) 9 (by first | exact Nat.le_refl _ | omega | (simp;omega)) (by kernel_rfl) (by kernel_rfl) ?_;simp only [Tc,Tz,Dc,Dz])
    ((iterate 2 (refine Rm.wpMix_plain rfl rfl ?_;go_big_quiet_step (fail);refine wpQuiet_nil ?_));(refine Rm.wpMix_load1 (fun W9' h9=>show W9'.cell? _=some (.int .i64 R1.view) from bx_cell (Ext.box h9 E1.out) 3) rfl rfl rfl Tryz.underlying3 rfl ?_;simp only [Act.put,Sa,Sz,Ss]);(iterate 1 (refine Rm.wpMix_plain rfl rfl ?_;go_big_quiet_step (fail);refine wpQuiet_nil ?_));(refine Rm.wpMix_load1 (fun W9' h9=>show W9'.cell? _=some (.int .i64 R1.of) from bx_cell (Ext.box h9 E1.out) 1) rfl rfl rfl Tryz.underlying3 rfl ?_;simp only [Act.put,Sa,Sz,Ss]))
    (refine Rm.wpMix_det rfl rfl rfl (enters Tryz.func93 (by kernel_rfl) rfl) (fun W9' h9=>c_sPrimaryOf R1.view R1.of W9' HIV.out.1 HIV.out.2) rfl ?_;simp only [Act.put,Sa,Sz,Ss])
    (refine Rm.wpMix_loadAgg (fun W9' h9=>mg_whole E5.out h9) rfl rfl rfl Tryz.underlying43 (by kernel_rfl) ?_;simp only [Act.put,Sa,Sz,Ss])
    (iterate 1 (refine Rm.wpMix_plain rfl rfl ?_;go_big_quiet_step (fail);refine wpQuiet_nil ?_))
    (refine Rm.wpMix_alloc (.cells (OtE.cells a5 ⟨R1.view % R1.of,doM R⟩) 117) rfl (fun W=>by kernel_rfl) ?_;intro p6 hp6 hps6 hpi6;simp only [layVal,Act.put,Sa,Sz,Ss])
    refine Rm.wpMix_nil ?_
    rintro w8 ⟨hW,e6⟩
    have x:Ext w7 w8:=hW
    obtain ⟨E1,E2,HF,FS,X,HL5⟩:Hid _∧Hid _∧Hid _∧Hid _∧Hid _∧Hid _:=⟨Hd (x.box E1.out),Hd (x.box E2.out),Hd (HF.out.keep x),Hd (FS.out.keep x),Hd (Ext.trans X.out x),Hd (HL5.out.keep x)⟩
    have hz_w8:=x.size
    have E6:=Hd e6
    have hp6':=bx_lt e6
    clear x hW e6 E5 hp6 hps6 hpi6
    obtain ⟨i0,hi,hz0,hz1,hz2⟩:=info_parts Tryz.infoOt
    have HVz:=Hd (show VzV OtE.enc 117 18 (w.heap.size+1+1) ([]:List OtE) (.slice (some ⟨w.heap.size+1+1,0,none⟩) 0 0) w8 from ⟨some ⟨w.heap.size+1+1,0,none⟩,0,rfl, .inr ⟨rfl,rfl,w.heap.size+1+1,rfl⟩⟩)
    go_wp2_with (at_builtin;refine wl_appz (enc:=OtE.enc) rfl _ _ 35 rfl (w.heap.size+1+1) 117 i0 Ot.zero 18 192 Tryz.underlying35 hi hz0 hz1 hz2 rfl (by decide) OtE.len OtE.one _ _ ([]:List OtE) _ rfl HVz.out (some ⟨p6,0,none⟩) 1 [((a5,⟨R1.view % R1.of,doM R⟩):OtE)] 1 rfl Nat.zero_lt_one rfl (Rd.one E6.out rfl) ?c1 ?c2 ?c3 ?_)
    case c1=>unfold maxLen;simp
    case c2=>simp
    case c3=>omega
    intro v9 w9 S ho9 k9 hS hSb
    obtain ⟨A7,c7,rfl⟩:=ho9.form
    obtain ⟨HF,HL5⟩:Hid _∧Hid _:=⟨Hd (show RpF w9 B a A2 c2 qs2 R1 from ⟨HF.out.l.typed hS (by decide) (by decide) (by decide) k9,HF.out.v.chg VtE.len k9 (fun hl x hx=>by obtain ⟨cs,hc⟩:=(HF.out.v.2 hl).kind x hx;exact hS x cs _ hc (by decide)),fun p hp=>(HF.out.vl p hp).typed hS (by decide) (by decide) (by decide) k9,HF.out.e⟩),Hd (HL5.out.typed hS (by decide) (by decide) (by decide) k9)⟩
    obtain ⟨E1,E2,X⟩:Hid _∧Hid _∧Hid _:=⟨Hd (box_out' E1.out k9 (hS _ _ _ E1.out (by decide))),Hd (box_out' E2.out k9 (hS _ _ _ E2.out (by decide))),Hd (ext_chg X.out k9 (fun k hk=>by have:=hSb k hk;omega))⟩
    have FS:=Hd (show OsK w9 (w.heap.size+1+1) A7 c7 [((a5,⟨R1.view % R1.of,doM R⟩):OtE)] from ⟨ho9,fun q hq=>by rw [Mi] at hq;subst hq;exact HL5.out.less (by omega)⟩)
    have HOs:=Hd (show List.map Prod.snd [((a5,⟨R1.view % R1.of,doM R⟩):OtE)]=[⟨R1.view % R1.of,doM R⟩] from rfl)
    have hz_w9:=k9.size
    clear ho9 k9 hS hSb E6 HVz HL5
    obtain ⟨n6,hn6⟩:∃ n,cntV 6 R1.votes=n:=⟨_,rfl⟩
    have HC6:=Hd (show ∀ W,Ext w9 W→Calls Tryz.prog 87 #[.slice A2 qs2.length c2, .int .i64 6] W fun e w'=>e = .returned (.int .i64 n6)∧Ext W w' from fun W h=>by
     have h5:=c_l7Count A2 c2 qs2 6 W (HF.out.keep h).v.1 (by omega)
     rw [HF.out.e,hn6] at h5
     exact h5)
    have HN6:=Hd hn6
    clear hn6
    have hof:=HOf.out
    cases gl:leadsB R1
    ·have HLo:=Hd (look_end HL1.out HO1.out (show look2B R1=false by unfold look2B;rw [gl];rfl))
     go_wp2
     have HW1:=Hd (fun W' (h:(relE w9.heap.size).rel w9 W')=>rp_whole E1.out h)
     (refine Rm.wp_region_mix' (R:=relE w9.heap.size) (fun _ _ _=>True) (fun _ _ _ _ _ hq=>hq) 10 (by first | exact Nat.le_refl _ | omega | (simp;omega)) (by kernel_rfl) (by kernel_rfl) ?_;simp only [Tc,Tz,Dc,Dz])
     (refine Rm.wpMix_loadAgg (HW1.out) rfl rfl rfl Tryz.underlying33 (by kernel_rfl) ?_;simp only [Act.put,Sa,Sz,Ss])
     (refine Rm.wpMix_det rfl rfl rfl (enters Tryz.func92 (by kernel_rfl) rfl) (fun W9' h9=>c_l6Leads a A2 qs2.length c2 R1 W9' HIV.out.1 HIV.out.2) rfl ?_;simp only [Act.put,Sa,Sz,Ss])
     ((try simp only [gl,Bool.not_true,Bool.not_false]);(iterate 1 (refine Rm.wpMix_plain rfl rfl ?_;go_big_quiet_step (fail);refine wpQuiet_nil ?_));(iterate 6 (refine Rm.wpMix_skip rfl rfl ?_;simp only [Act.put,Sa,Sz,Ss]));(iterate 1 (refine Rm.wpMix_plain rfl rfl ?_;go_big_quiet_step (fail);refine wpQuiet_nil ?_)))
     refine Rm.wpMix_nil ?_
     rintro v7 hW
     have x:Ext w9 v7:=hW
     obtain ⟨E1,E2,HF,FS,X⟩:Hid _∧Hid _∧Hid _∧Hid _∧Hid _:=⟨Hd (x.box E1.out),Hd (x.box E2.out),Hd (HF.out.keep x),Hd (FS.out.keep x),Hd (Ext.trans X.out x)⟩
     have hz_v7:=x.size
     clear x hW
     clear HW1
     (go_wp2_with (with_reducible refine wl_stop 71 ?_);refine stop_load (E1.out) rfl Tryz.underlying33 (by kernel_rfl) ?_;simp only [Act.put,Sa,Sz,Ss])
     (go_wp2_with (with_reducible refine wl_stopS 33 ?_);refine stop_store ((w.heap.size+1)) (Rp.cs a A2 qs2.length c2 R1) rfl rfl (E2.out) (by kernel_rfl) rfl (by simp [Value.oneCell']) ?_)
     intro W9 e9 k9
     have HE9:=Hd e9
     have HX9:=Hd (chg_new X.out k9 (by omega))
     have HF9:=Hd (HF.out.boxed E2.out k9)
     have FS9:=Hd (FS.out.boxed E2.out (by decide) (by decide) (by decide) (by decide) k9)
     clear e9 k9
     go_wp2
     exact bodyPost_ret (results_box2 Tryz.results52 rfl rfl Tryz.underlying33 (by kernel_rfl) HE9.out) rfl ⟨⟨a,A2,c2,qs2,A7,c7,[((a5,⟨R1.view % R1.of,doM R⟩):OtE)],by rw [HLo.out.1];rfl,by rw [HLo.out.1];exact HF9.out,FS9.out.less (by omega),by rw [HLo.out.2];exact HOs.out⟩,HX9.out⟩
    ·cases g6:decide ((R1.of - 1) / 2 < (n6:Int))
     ·have HLo:=Hd (look_end HL1.out HO1.out (show look2B R1=false by unfold look2B halfI;rw [gl,HN6.out,g6];rfl))
      go_wp2
      have HW1:=Hd (fun W' (h:(relE w9.heap.size).rel w9 W')=>rp_whole E1.out h)
      (refine Rm.wp_region_mix' (R:=relE w9.heap.size) (fun _ _ _=>True) (fun _ _ _ _ _ hq=>hq) 10 (by first | exact Nat.le_refl _ | omega | (simp;omega)) (by kernel_rfl) (by kernel_rfl) ?_;simp only [Tc,Tz,Dc,Dz])
      (refine Rm.wpMix_loadAgg (HW1.out) rfl rfl rfl Tryz.underlying33 (by kernel_rfl) ?_;simp only [Act.put,Sa,Sz,Ss])
      (refine Rm.wpMix_det rfl rfl rfl (enters Tryz.func92 (by kernel_rfl) rfl) (fun W9' h9=>c_l6Leads a A2 qs2.length c2 R1 W9' HIV.out.1 HIV.out.2) rfl ?_;simp only [Act.put,Sa,Sz,Ss])
      ((try simp only [gl,Bool.not_true,Bool.not_false]);(iterate 2 (refine Rm.wpMix_plain rfl rfl ?_;go_big_quiet_step (fail);refine wpQuiet_nil ?_)))
      (refine Rm.wpMix_load1 (fun W9' h9=>show W9'.cell? _=some (.slice A2 qs2.length c2) from bx_cell (Ext.box h9 E1.out) 10) rfl rfl rfl Tryz.underlying31 rfl ?_;simp only [Act.put,Sa,Sz,Ss])
      (refine Rm.wpMix_det rfl rfl rfl (enters Tryz.func87 (by kernel_rfl) rfl) (fun W9' h9=>HC6.out W9' h9) rfl ?_;simp only [Act.put,Sa,Sz,Ss])
      (refine Rm.wpMix_loadAgg (HW1.out) rfl rfl rfl Tryz.underlying33 (by kernel_rfl) ?_;simp only [Act.put,Sa,Sz,Ss])
      (refine Rm.wpMix_det rfl rfl rfl (enters Tryz.func88 (by kernel_rfl) rfl) (fun W9' h9=>c_l6Half a A2 qs2.length c2 R1 W9' HOfb.out) rfl ?_;simp only [Act.put,Sa,Sz,Ss])
      ((iterate 1 (refine Rm.wpMix_plain rfl rfl ?_;go_big_quiet_step (fail);refine wpQuiet_nil ?_));(try simp only [g6,Bool.not_true,Bool.not_false]);(iterate 1 (refine Rm.wpMix_plain rfl rfl ?_;go_big_quiet_step (fail);refine wpQuiet_nil ?_)))
      refine Rm.wpMix_nil ?_
      rintro v7 hW
      have x:Ext w9 v7:=hW
      obtain ⟨E1,E2,HF,FS,X⟩:Hid _∧Hid _∧Hid _∧Hid _∧Hid _:=⟨Hd (x.box E1.out),Hd (x.box E2.out),Hd (HF.out.keep x),Hd (FS.out.keep x),Hd (Ext.trans X.out x)⟩
      have hz_v7:=x.size
      clear x hW
      clear HW1
      (go_wp2_with (with_reducible refine wl_stop 71 ?_);refine stop_load (E1.out) rfl Tryz.underlying33 (by kernel_rfl) ?_;simp only [Act.put,Sa,Sz,Ss])
      (go_wp2_with (with_reducible refine wl_stopS 33 ?_);refine stop_store ((w.heap.size+1)) (Rp.cs a A2 qs2.length c2 R1) rfl rfl (E2.out) (by kernel_rfl) rfl (by simp [Value.oneCell']) ?_)
      intro W9 e9 k9
      have HE9:=Hd e9
      have HX9:=Hd (chg_new X.out k9 (by omega))
      have HF9:=Hd (HF.out.boxed E2.out k9)
      have FS9:=Hd (FS.out.boxed E2.out (by decide) (by decide) (by decide) (by decide) k9)
      clear e9 k9
      go_wp2
      exact bodyPost_ret (results_box2 Tryz.results52 rfl rfl Tryz.underlying33 (by kernel_rfl) HE9.out) rfl ⟨⟨a,A2,c2,qs2,A7,c7,[((a5,⟨R1.view % R1.of,doM R⟩):OtE)],by rw [HLo.out.1];rfl,by rw [HLo.out.1];exact HF9.out,FS9.out.less (by omega),by rw [HLo.out.2];exact HOs.out⟩,HX9.out⟩
     ·have HLo:=Hd (look_start HL1.out HO1.out (show look2B R1=true by unfold look2B halfI;rw [gl,HN6.out,g6];rfl))
      have HC0:=Hd (show 0 < cntV 6 R1.votes by rw [HN6.out];have h:=g6;simp only [decide_eq_true_eq] at h;omega)
      go_wp2
      have HW1:=Hd (fun W' (h:(relE w9.heap.size).rel w9 W')=>rp_whole E1.out h)
      (refine Rm.wp_region_mix' (R:=relE w9.heap.size) (fun _ _ _=>True) (fun _ _ _ _ _ hq=>hq) 10 (by first | exact Nat.le_refl _ | omega | (simp;omega)) (by kernel_rfl) (by kernel_rfl) ?_;simp only [Tc,Tz,Dc,Dz])
      (refine Rm.wpMix_loadAgg (HW1.out) rfl rfl rfl Tryz.underlying33 (by kernel_rfl) ?_;simp only [Act.put,Sa,Sz,Ss])
      (refine Rm.wpMix_det rfl rfl rfl (enters Tryz.func92 (by kernel_rfl) rfl) (fun W9' h9=>c_l6Leads a A2 qs2.length c2 R1 W9' HIV.out.1 HIV.out.2) rfl ?_;simp only [Act.put,Sa,Sz,Ss])
      ((try simp only [gl,Bool.not_true,Bool.not_false]);(iterate 2 (refine Rm.wpMix_plain rfl rfl ?_;go_big_quiet_step (fail);refine wpQuiet_nil ?_)))
      (refine Rm.wpMix_load1 (fun W9' h9=>show W9'.cell? _=some (.slice A2 qs2.length c2) from bx_cell (Ext.box h9 E1.out) 10) rfl rfl rfl Tryz.underlying31 rfl ?_;simp only [Act.put,Sa,Sz,Ss])
      (refine Rm.wpMix_det rfl rfl rfl (enters Tryz.func87 (by kernel_rfl) rfl) (fun W9' h9=>HC6.out W9' h9) rfl ?_;simp only [Act.put,Sa,Sz,Ss])
      (refine Rm.wpMix_loadAgg (HW1.out) rfl rfl rfl Tryz.underlying33 (by kernel_rfl) ?_;simp only [Act.put,Sa,Sz,Ss])
      (refine Rm.wpMix_det rfl rfl rfl (enters Tryz.func88 (by kernel_rfl) rfl) (fun W9' h9=>c_l6Half a A2 qs2.length c2 R1 W9' HOfb.out) rfl ?_;simp only [Act.put,Sa,Sz,Ss])
      ((iterate 1 (refine Rm.wpMix_plain rfl rfl ?_;go_big_quiet_step (fail);refine wpQuiet_nil ?_));(try simp only [g6,Bool.not_true,Bool.not_false]);(iterate 1 (refine Rm.wpMix_plain rfl rfl ?_;go_big_quiet_step (fail);refine wpQuiet_nil ?_)))
      refine Rm.wpMix_nil ?_
      rintro v7 hW
      have x:Ext w9 v7:=hW
      obtain ⟨E1,E2,HF,FS,X⟩:Hid _∧Hid _∧Hid _∧Hid _∧Hid _:=⟨Hd (x.box E1.out),Hd (x.box E2.out),Hd (HF.out.keep x),Hd (FS.out.keep x),Hd (Ext.trans X.out x)⟩
      have hz_v7:=x.size
      clear x hW
      clear HW1
      have E2v:=Hd E2.out
      have HA0:=Hd (fun k (hk:k∈blk A7)=>(FS.out.row.inB k hk).2)
      obtain ⟨RX,hRX⟩:∃ X,startX R1=X:=⟨_,rfl⟩
      obtain ⟨OX,hOX⟩:∃ O,allTo R1.me (startM (startX R1)) R1.of.toNat=O:=⟨_,rfl⟩
      have hcon:=c_l7Start B a A2 c2 qs2 R1 v7 HF.out HT.out HC0.out
      have hOl:OX.length≤5:=by rw [←hOX];have:=allTo_len R1.me (startM (startX R1)) R1.of.toNat;omega
      have HL2:=Hd (show lookR R=RX∧lookO R=([⟨R1.view % R1.of,doM R⟩]:List Ot)++OX by rw [←hRX,←hOX];exact HLo.out)
      rw [hRX] at hcon hOX
      rw [hOX] at hcon
      have HCon:=Hd hcon
      clear hcon hRX hOX HLo
      (go_wp2_with (with_reducible refine wl_stop 63 ?_);refine stop_load (E1.out) rfl Tryz.underlying33 (by kernel_rfl) ?_;simp only [Act.put,Sa,Sz,Ss])
      go_wp2_with fail
      refine HCon.out.mono ?_
      rintro e v8 ⟨⟨a9,g9,Am,cm,om,rfl,f9,fm,mm⟩,x⟩
      obtain ⟨E1,E2,HF,FS,X⟩:Hid _∧Hid _∧Hid _∧Hid _∧Hid _:=⟨Hd (x.box E1.out),Hd (x.box E2.out),Hd (HF.out.keep x),Hd (FS.out.keep x),Hd (Ext.trans X.out x)⟩
      have hz_v8:=x.size
      clear x HCon
      have XA:=ext_alloc v8 Rp.zobj
      have EQ0:=Hd (hNew (w:=v8) (o:=Rp.zobj) rfl)
      obtain ⟨E1,E2,HF,FS,X⟩:Hid _∧Hid _∧Hid _∧Hid _∧Hid _:=⟨Hd (XA.box E1.out),Hd (XA.box E2.out),Hd (HF.out.keep XA),Hd (FS.out.keep XA),Hd (Ext.trans X.out XA)⟩
      have HF9:=Hd (f9.keep XA)
      have HM:=Hd (fm.keep XA)
      have HMm:=Hd mm
      have hml:om.length≤5:=by rw [←List.length_map (f:=Prod.snd),mm];exact hOl
      clear XA f9 fm mm
      have hv7:=bx_lt E2v.out
      (go_wp2_with (with_reducible refine wl_stopS 33 ?_);refine stop_store (v8.heap.size) (Rp.cs a9 (some ⟨g9,0,none⟩) 0 0 RX) rfl rfl (EQ0.out) (by kernel_rfl) rfl (by simp [Value.oneCell']) ?_)
      intro W8 e8 k8
      have EQ:=Hd e8
      have hlt8:=bx_lt EQ0.out
      obtain ⟨E2,FS,X⟩:Hid _∧Hid _∧Hid _:=⟨Hd (box_chg E2.out k8 (by omega)),Hd (FS.out.boxed EQ0.out (by decide) (by decide) (by decide) (by decide) k8),Hd (ext_chg X.out k8 (fun k hk=>by rw [Mi] at hk;omega))⟩
      obtain ⟨HF9,HM⟩:Hid _∧Hid _:=⟨Hd (HF9.out.boxed EQ0.out k8),Hd (HM.out.boxed EQ0.out (by decide) (by decide) (by decide) (by decide) k8)⟩
      have hs8:=bx_lt e8
      clear e8 k8 E1 HF EQ0
      go_wp2
      obtain ⟨g,obj1,hg1,hg2,hp8,hg8,hrun⟩:=outs_plan (.cells (Rp.cs a9 (some ⟨g9,0,none⟩) 0 0 RX) 33) FS.out HM.out E2.out hv7 HA0.out (by simp only [List.length_cons,List.length_nil];omega) (by omega)
      have HOth:=Hd (outs_oth FS.out E2.out hg2)
      have HQ:=Hd (relM_box (hp:=hp8) (hg:=hg8) (obj:=(.cells (Rp.cs a9 (some ⟨g9,0,none⟩) 0 0 RX) 33)) (obj1:=obj1) EQ.out (by omega) (outs_apart FS.out EQ.out (by omega) hg2))
      have HQw:=Hd (fun W' (h:(relM (w.heap.size+1) g (.cells (Rp.cs a9 (some ⟨g9,0,none⟩) 0 0 RX) 33) obj1 W8.heap.size hp8 hg8).rel W8 W')=>cells_mid (cs:=Rp.cs a9 (some ⟨g9,0,none⟩) 0 0 RX) (HQ.out W' h) [] [] rfl rfl)
      have HRun:=Hd hrun
      have HG1:=Hd hg1
      have HG2:=Hd hg2
      clear hrun hg1 hg2
      (refine Rm.wp_region_mix' (R:=relM (w.heap.size+1) g (.cells (Rp.cs a9 (some ⟨g9,0,none⟩) 0 0 RX) 33) obj1 W8.heap.size hp8 hg8) (joinΦ (w.heap.size+1) (.cells (Rp.cs a9 (some ⟨g9,0,none⟩) 0 0 RX) 33) g obj1 W8.heap.size (w.heap.size+1+1) ([((a5,⟨R1.view % R1.of,doM R⟩):OtE)]++om)) (fun _ _ _ _ _ hq=>hq) 6 (by first | exact Nat.le_refl _ | omega | (simp;omega)) (by kernel_rfl) (by kernel_rfl) ?_;simp only [Tc,Tz,Dc,Dz])
      (refine Rm.wpMix_loadAgg (HQw.out) rfl rfl rfl Tryz.underlying33 (by kernel_rfl) ?_;simp only [Act.put,Sa,Sz,Ss])
      (iterate 2 (refine Rm.wpMix_plain rfl rfl ?_;go_big_quiet_step (fail);refine wpQuiet_nil ?_))
      refine rm_own (enc:=OtE.enc) _ _ 35 117 18 (w.heap.size+1+1) rfl rfl A7 _ c7 [((a5,⟨R1.view % R1.of,doM R⟩):OtE)] rfl rfl Am _ cm om rfl rfl (fun W hW=>HRun.out W hW) rfl (fun A5 c5=>?_)
      simp only [Act.put,Sa,Sz,Ss]
      refine wpMix_stM HG1.out E2.out rfl rfl rfl rfl rfl (by kernel_rfl) rfl (by simp [Value.oneCell']) rfl ?_
      simp only [Act.put,Sa,Sz,Ss]
      (iterate 1 (refine Rm.wpMix_plain rfl rfl ?_;go_big_quiet_step (fail);refine wpQuiet_nil ?_))
      refine Rm.wpMix_nil ?_
      rintro W9 ⟨⟨h9,hv9⟩,e9⟩
      have HE9:=Hd e9
      have HOS9:=Hd (outs_join FS.out HM.out (by omega) HOth.out h9 hv9)
      have HF9:=Hd (HF9.out.other h9.1 HOth.out)
      have HX9:=Hd (ext_chg X.out h9.1 (fun k hk=>by
       have hgg:=HG2.out
       simp only [List.mem_cons,List.not_mem_nil,or_false] at hk
       rcases hk with rfl | rfl
       ·omega
       ·rcases hgg with h | h <;> omega))
      clear h9 hv9 e9
      go_wp2
      refine bodyPost_ret (results_box2 Tryz.results52 rfl rfl Tryz.underlying33 (by kernel_rfl) HE9.out) rfl ⟨⟨a9,some ⟨g9,0,none⟩,0,[],A5,c5,[((a5,⟨R1.view % R1.of,doM R⟩):OtE)]++om,by rw [HL2.out.1];rfl,by rw [HL2.out.1];exact HF9.out.less (by omega),HOS9.out.less (by omega),by rw [HL2.out.2,List.map_append,HOs.out,HMm.out]⟩,HX9.out⟩
   ·have HO1:=Hd (show look1O R=[] by unfold look1O;rw [HB.out,show leadsB R=true by rw [←gq];unfold leadsB;rw [HId.out.1,HId.out.2.1,HId.out.2.2.2.1]];rfl)
    have HOs:=Hd (show List.map Prod.snd ([]:List OtE)=[] from rfl)
    clear E5 HL5
    obtain ⟨n6,hn6⟩:∃ n,cntV 6 R1.votes=n:=⟨_,rfl⟩
    have HC6:=Hd (show ∀ W,Ext w7 W→Calls Tryz.prog 87 #[.slice A2 qs2.length c2, .int .i64 6] W fun e w'=>e = .returned (.int .i64 n6)∧Ext W w' from fun W h=>by
     have h5:=c_l7Count A2 c2 qs2 6 W (HF.out.keep h).v.1 (by omega)
     rw [HF.out.e,hn6] at h5
     exact h5)
    have HN6:=Hd hn6
    clear hn6
    have hof:=HOf.out
    cases gl:leadsB R1
    ·have HLo:=Hd (look_end HL1.out HO1.out (show look2B R1=false by unfold look2B;rw [gl];rfl))
     go_wp2
     have HW1:=Hd (fun W' (h:(relE w7.heap.size).rel w7 W')=>rp_whole E1.out h)
     (refine Rm.wp_region_mix' (R:=relE w7.heap.size) (fun _ _ _=>True) (fun _ _ _ _ _ hq=>hq) 10 (by first | exact Nat.le_refl _ | omega | (simp;omega)) (by kernel_rfl) (by kernel_rfl) ?_;simp only [Tc,Tz,Dc,Dz])
     (refine Rm.wpMix_loadAgg (HW1.out) rfl rfl rfl Tryz.underlying33 (by kernel_rfl) ?_;simp only [Act.put,Sa,Sz,Ss])
     (refine Rm.wpMix_det rfl rfl rfl (enters Tryz.func92 (by kernel_rfl) rfl) (fun W9' h9=>c_l6Leads a A2 qs2.length c2 R1 W9' HIV.out.1 HIV.out.2) rfl ?_;simp only [Act.put,Sa,Sz,Ss])
     ((try simp only [gl,Bool.not_true,Bool.not_false]);(iterate 1 (refine Rm.wpMix_plain rfl rfl ?_;go_big_quiet_step (fail);refine wpQuiet_nil ?_));(iterate 6 (refine Rm.wpMix_skip rfl rfl ?_;simp only [Act.put,Sa,Sz,Ss]));(iterate 1 (refine Rm.wpMix_plain rfl rfl ?_;go_big_quiet_step (fail);refine wpQuiet_nil ?_)))
     refine Rm.wpMix_nil ?_
     rintro v7 hW
     have x:Ext w7 v7:=hW
     obtain ⟨E1,E2,HF,FS,X⟩:Hid _∧Hid _∧Hid _∧Hid _∧Hid _:=⟨Hd (x.box E1.out),Hd (x.box E2.out),Hd (HF.out.keep x),Hd (FS.out.keep x),Hd (Ext.trans X.out x)⟩
     have hz_v7:=x.size
     clear x hW
     clear HW1
     (go_wp2_with (with_reducible refine wl_stop 71 ?_);refine stop_load (E1.out) rfl Tryz.underlying33 (by kernel_rfl) ?_;simp only [Act.put,Sa,Sz,Ss])
     (go_wp2_with (with_reducible refine wl_stopS 33 ?_);refine stop_store ((w.heap.size+1)) (Rp.cs a A2 qs2.length c2 R1) rfl rfl (E2.out) (by kernel_rfl) rfl (by simp [Value.oneCell']) ?_)
     intro W9 e9 k9
     have HE9:=Hd e9
     have HX9:=Hd (chg_new X.out k9 (by omega))
     have HF9:=Hd (HF.out.boxed E2.out k9)
     have FS9:=Hd (FS.out.boxed E2.out (by decide) (by decide) (by decide) (by decide) k9)
     clear e9 k9
     go_wp2
     exact bodyPost_ret (results_box2 Tryz.results52 rfl rfl Tryz.underlying33 (by kernel_rfl) HE9.out) rfl ⟨⟨a,A2,c2,qs2,(some ⟨w.heap.size+1+1,0,none⟩),0,([]:List OtE),by rw [HLo.out.1];rfl,by rw [HLo.out.1];exact HF9.out,FS9.out.less (by omega),by rw [HLo.out.2];exact HOs.out⟩,HX9.out⟩
    ·cases g6:decide ((R1.of - 1) / 2 < (n6:Int))
     ·have HLo:=Hd (look_end HL1.out HO1.out (show look2B R1=false by unfold look2B halfI;rw [gl,HN6.out,g6];rfl))
      go_wp2
      have HW1:=Hd (fun W' (h:(relE w7.heap.size).rel w7 W')=>rp_whole E1.out h)
      (refine Rm.wp_region_mix' (R:=relE w7.heap.size) (fun _ _ _=>True) (fun _ _ _ _ _ hq=>hq) 10 (by first | exact Nat.le_refl _ | omega | (simp;omega)) (by kernel_rfl) (by kernel_rfl) ?_;simp only [Tc,Tz,Dc,Dz])
      (refine Rm.wpMix_loadAgg (HW1.out) rfl rfl rfl Tryz.underlying33 (by kernel_rfl) ?_;simp only [Act.put,Sa,Sz,Ss])
      (refine Rm.wpMix_det rfl rfl rfl (enters Tryz.func92 (by kernel_rfl) rfl) (fun W9' h9=>c_l6Leads a A2 qs2.length c2 R1 W9' HIV.out.1 HIV.out.2) rfl ?_;simp only [Act.put,Sa,Sz,Ss])
      ((try simp only [gl,Bool.not_true,Bool.not_false]);(iterate 2 (refine Rm.wpMix_plain rfl rfl ?_;go_big_quiet_step (fail);refine wpQuiet_nil ?_)))
      (refine Rm.wpMix_load1 (fun W9' h9=>show W9'.cell? _=some (.slice A2 qs2.length c2) from bx_cell (Ext.box h9 E1.out) 10) rfl rfl rfl Tryz.underlying31 rfl ?_;simp only [Act.put,Sa,Sz,Ss])
      (refine Rm.wpMix_det rfl rfl rfl (enters Tryz.func87 (by kernel_rfl) rfl) (fun W9' h9=>HC6.out W9' h9) rfl ?_;simp only [Act.put,Sa,Sz,Ss])
      (refine Rm.wpMix_loadAgg (HW1.out) rfl rfl rfl Tryz.underlying33 (by kernel_rfl) ?_;simp only [Act.put,Sa,Sz,Ss])
      (refine Rm.wpMix_det rfl rfl rfl (enters Tryz.func88 (by kernel_rfl) rfl) (fun W9' h9=>c_l6Half a A2 qs2.length c2 R1 W9' HOfb.out) rfl ?_;simp only [Act.put,Sa,Sz,Ss])
      ((iterate 1 (refine Rm.wpMix_plain rfl rfl ?_;go_big_quiet_step (fail);refine wpQuiet_nil ?_));(try simp only [g6,Bool.not_true,Bool.not_false]);(iterate 1 (refine Rm.wpMix_plain rfl rfl ?_;go_big_quiet_step (fail);refine wpQuiet_nil ?_)))
      refine Rm.wpMix_nil ?_
      rintro v7 hW
      have x:Ext w7 v7:=hW
      obtain ⟨E1,E2,HF,FS,X⟩:Hid _∧Hid _∧Hid _∧Hid _∧Hid _:=⟨Hd (x.box E1.out),Hd (x.box E2.out),Hd (HF.out.keep x),Hd (FS.out.keep x),Hd (Ext.trans X.out x)⟩
      have hz_v7:=x.size
      clear x hW
      clear HW1
      (go_wp2_with (with_reducible refine wl_stop 71 ?_);refine stop_load (E1.out) rfl Tryz.underlying33 (by kernel_rfl) ?_;simp only [Act.put,Sa,Sz,Ss])
      (go_wp2_with (with_reducible refine wl_stopS 33 ?_);refine stop_store ((w.heap.size+1)) (Rp.cs a A2 qs2.length c2 R1) rfl rfl (E2.out) (by kernel_rfl) rfl (by simp [Value.oneCell']) ?_)
      intro W9 e9 k9
      have HE9:=Hd e9
      have HX9:=Hd (chg_new X.out k9 (by omega))
      have HF9:=Hd (HF.out.boxed E2.out k9)
      have FS9:=Hd (FS.out.boxed E2.out (by decide) (by decide) (by decide) (by decide) k9)
      clear e9 k9
      go_wp2
      exact bodyPost_ret (results_box2 Tryz.results52 rfl rfl Tryz.underlying33 (by kernel_rfl) HE9.out) rfl ⟨⟨a,A2,c2,qs2,(some ⟨w.heap.size+1+1,0,none⟩),0,([]:List OtE),by rw [HLo.out.1];rfl,by rw [HLo.out.1];exact HF9.out,FS9.out.less (by omega),by rw [HLo.out.2];exact HOs.out⟩,HX9.out⟩
     ·have HLo:=Hd (look_start HL1.out HO1.out (show look2B R1=true by unfold look2B halfI;rw [gl,HN6.out,g6];rfl))
      have HC0:=Hd (show 0 < cntV 6 R1.votes by rw [HN6.out];have h:=g6;simp only [decide_eq_true_eq] at h;omega)
      go_wp2
      have HW1:=Hd (fun W' (h:(relE w7.heap.size).rel w7 W')=>rp_whole E1.out h)
      (refine Rm.wp_region_mix' (R:=relE w7.heap.size) (fun _ _ _=>True) (fun _ _ _ _ _ hq=>hq) 10 (by first | exact Nat.le_refl _ | omega | (simp;omega)) (by kernel_rfl) (by kernel_rfl) ?_;simp only [Tc,Tz,Dc,Dz])
      (refine Rm.wpMix_loadAgg (HW1.out) rfl rfl rfl Tryz.underlying33 (by kernel_rfl) ?_;simp only [Act.put,Sa,Sz,Ss])
      (refine Rm.wpMix_det rfl rfl rfl (enters Tryz.func92 (by kernel_rfl) rfl) (fun W9' h9=>c_l6Leads a A2 qs2.length c2 R1 W9' HIV.out.1 HIV.out.2) rfl ?_;simp only [Act.put,Sa,Sz,Ss])
      ((try simp only [gl,Bool.not_true,Bool.not_false]);(iterate 2 (refine Rm.wpMix_plain rfl rfl ?_;go_big_quiet_step (fail);refine wpQuiet_nil ?_)))
      (refine Rm.wpMix_load1 (fun W9' h9=>show W9'.cell? _=some (.slice A2 qs2.length c2) from bx_cell (Ext.box h9 E1.out) 10) rfl rfl rfl Tryz.underlying31 rfl ?_;simp only [Act.put,Sa,Sz,Ss])
      (refine Rm.wpMix_det rfl rfl rfl (enters Tryz.func87 (by kernel_rfl) rfl) (fun W9' h9=>HC6.out W9' h9) rfl ?_;simp only [Act.put,Sa,Sz,Ss])
      (refine Rm.wpMix_loadAgg (HW1.out) rfl rfl rfl Tryz.underlying33 (by kernel_rfl) ?_;simp only [Act.put,Sa,Sz,Ss])
      (refine Rm.wpMix_det rfl rfl rfl (enters Tryz.func88 (by kernel_rfl) rfl) (fun W9' h9=>c_l6Half a A2 qs2.length c2 R1 W9' HOfb.out) rfl ?_;simp only [Act.put,Sa,Sz,Ss])
      ((iterate 1 (refine Rm.wpMix_plain rfl rfl ?_;go_big_quiet_step (fail);refine wpQuiet_nil ?_));(try simp only [g6,Bool.not_true,Bool.not_false]);(iterate 1 (refine Rm.wpMix_plain rfl rfl ?_;go_big_quiet_step (fail);refine wpQuiet_nil ?_)))
      refine Rm.wpMix_nil ?_
      rintro v7 hW
      have x:Ext w7 v7:=hW
      obtain ⟨E1,E2,HF,FS,X⟩:Hid _∧Hid _∧Hid _∧Hid _∧Hid _:=⟨Hd (x.box E1.out),Hd (x.box E2.out),Hd (HF.out.keep x),Hd (FS.out.keep x),Hd (Ext.trans X.out x)⟩
      have hz_v7:=x.size
      clear x hW
      clear HW1
      have E2v:=Hd E2.out
      have HA0:=Hd (fun k (hk:k∈blk (some ⟨w.heap.size+1+1,0,none⟩))=>(FS.out.row.inB k hk).2)
      obtain ⟨RX,hRX⟩:∃ X,startX R1=X:=⟨_,rfl⟩
      obtain ⟨OX,hOX⟩:∃ O,allTo R1.me (startM (startX R1)) R1.of.toNat=O:=⟨_,rfl⟩
      have hcon:=c_l7Start B a A2 c2 qs2 R1 v7 HF.out HT.out HC0.out
      have hOl:OX.length≤5:=by rw [←hOX];have:=allTo_len R1.me (startM (startX R1)) R1.of.toNat;omega
      have HL2:=Hd (show lookR R=RX∧lookO R=([]:List Ot)++OX by rw [←hRX,←hOX];exact HLo.out)
      rw [hRX] at hcon hOX
      rw [hOX] at hcon
      have HCon:=Hd hcon
      clear hcon hRX hOX HLo
      (go_wp2_with (with_reducible refine wl_stop 63 ?_);refine stop_load (E1.out) rfl Tryz.underlying33 (by kernel_rfl) ?_;simp only [Act.put,Sa,Sz,Ss])
      go_wp2_with fail
      refine HCon.out.mono ?_
      rintro e v8 ⟨⟨a9,g9,Am,cm,om,rfl,f9,fm,mm⟩,x⟩
      obtain ⟨E1,E2,HF,FS,X⟩:Hid _∧Hid _∧Hid _∧Hid _∧Hid _:=⟨Hd (x.box E1.out),Hd (x.box E2.out),Hd (HF.out.keep x),Hd (FS.out.keep x),Hd (Ext.trans X.out x)⟩
      have hz_v8:=x.size
      clear x HCon
      have XA:=ext_alloc v8 Rp.zobj
      have EQ0:=Hd (hNew (w:=v8) (o:=Rp.zobj) rfl)
      obtain ⟨E1,E2,HF,FS,X⟩:Hid _∧Hid _∧Hid _∧Hid _∧Hid _:=⟨Hd (XA.box E1.out),Hd (XA.box E2.out),Hd (HF.out.keep XA),Hd (FS.out.keep XA),Hd (Ext.trans X.out XA)⟩
      have HF9:=Hd (f9.keep XA)
      have HM:=Hd (fm.keep XA)
      have HMm:=Hd mm
      have hml:om.length≤5:=by rw [←List.length_map (f:=Prod.snd),mm];exact hOl
      clear XA f9 fm mm
      have hv7:=bx_lt E2v.out
      (go_wp2_with (with_reducible refine wl_stopS 33 ?_);refine stop_store (v8.heap.size) (Rp.cs a9 (some ⟨g9,0,none⟩) 0 0 RX) rfl rfl (EQ0.out) (by kernel_rfl) rfl (by simp [Value.oneCell']) ?_)
      intro W8 e8 k8
      have EQ:=Hd e8
      have hlt8:=bx_lt EQ0.out
      obtain ⟨E2,FS,X⟩:Hid _∧Hid _∧Hid _:=⟨Hd (box_chg E2.out k8 (by omega)),Hd (FS.out.boxed EQ0.out (by decide) (by decide) (by decide) (by decide) k8),Hd (ext_chg X.out k8 (fun k hk=>by rw [Mi] at hk;omega))⟩
      obtain ⟨HF9,HM⟩:Hid _∧Hid _:=⟨Hd (HF9.out.boxed EQ0.out k8),Hd (HM.out.boxed EQ0.out (by decide) (by decide) (by decide) (by decide) k8)⟩
      have hs8:=bx_lt e8
      clear e8 k8 E1 HF EQ0
      go_wp2
      obtain ⟨g,obj1,hg1,hg2,hp8,hg8,hrun⟩:=outs_plan (.cells (Rp.cs a9 (some ⟨g9,0,none⟩) 0 0 RX) 33) FS.out HM.out E2.out hv7 HA0.out (by simp only [List.length_cons,List.length_nil];omega) (by omega)
      have HOth:=Hd (outs_oth FS.out E2.out hg2)
      have HQ:=Hd (relM_box (hp:=hp8) (hg:=hg8) (obj:=(.cells (Rp.cs a9 (some ⟨g9,0,none⟩) 0 0 RX) 33)) (obj1:=obj1) EQ.out (by omega) (outs_apart FS.out EQ.out (by omega) hg2))
      have HQw:=Hd (fun W' (h:(relM (w.heap.size+1) g (.cells (Rp.cs a9 (some ⟨g9,0,none⟩) 0 0 RX) 33) obj1 W8.heap.size hp8 hg8).rel W8 W')=>cells_mid (cs:=Rp.cs a9 (some ⟨g9,0,none⟩) 0 0 RX) (HQ.out W' h) [] [] rfl rfl)
      have HRun:=Hd hrun
      have HG1:=Hd hg1
      have HG2:=Hd hg2
      clear hrun hg1 hg2
      (refine Rm.wp_region_mix' (R:=relM (w.heap.size+1) g (.cells (Rp.cs a9 (some ⟨g9,0,none⟩) 0 0 RX) 33) obj1 W8.heap.size hp8 hg8) (joinΦ (w.heap.size+1) (.cells (Rp.cs a9 (some ⟨g9,0,none⟩) 0 0 RX) 33) g obj1 W8.heap.size (w.heap.size+1+1) (([]:List OtE)++om)) (fun _ _ _ _ _ hq=>hq) 6 (by first | exact Nat.le_refl _ | omega | (simp;omega)) (by kernel_rfl) (by kernel_rfl) ?_;simp only [Tc,Tz,Dc,Dz])
      (refine Rm.wpMix_loadAgg (HQw.out) rfl rfl rfl Tryz.underlying33 (by kernel_rfl) ?_;simp only [Act.put,Sa,Sz,Ss])
      (iterate 2 (refine Rm.wpMix_plain rfl rfl ?_;go_big_quiet_step (fail);refine wpQuiet_nil ?_))
      refine rm_own (enc:=OtE.enc) _ _ 35 117 18 (w.heap.size+1+1) rfl rfl (some ⟨w.heap.size+1+1,0,none⟩) _ 0 ([]:List OtE) rfl rfl Am _ cm om rfl rfl (fun W hW=>HRun.out W hW) rfl (fun A5 c5=>?_)
      simp only [Act.put,Sa,Sz,Ss]
      refine wpMix_stM HG1.out E2.out rfl rfl rfl rfl rfl (by kernel_rfl) rfl (by simp [Value.oneCell']) rfl ?_
      simp only [Act.put,Sa,Sz,Ss]
      (iterate 1 (refine Rm.wpMix_plain rfl rfl ?_;go_big_quiet_step (fail);refine wpQuiet_nil ?_))
      refine Rm.wpMix_nil ?_
      rintro W9 ⟨⟨h9,hv9⟩,e9⟩
      have HE9:=Hd e9
      have HOS9:=Hd (outs_join FS.out HM.out (by omega) HOth.out h9 hv9)
      have HF9:=Hd (HF9.out.other h9.1 HOth.out)
      have HX9:=Hd (ext_chg X.out h9.1 (fun k hk=>by
       have hgg:=HG2.out
       simp only [List.mem_cons,List.not_mem_nil,or_false] at hk
       rcases hk with rfl | rfl
       ·omega
       ·rcases hgg with h | h <;> omega))
      clear h9 hv9 e9
      go_wp2
      refine bodyPost_ret (results_box2 Tryz.results52 rfl rfl Tryz.underlying33 (by kernel_rfl) HE9.out) rfl ⟨⟨a9,some ⟨g9,0,none⟩,0,[],A5,c5,([]:List OtE)++om,by rw [HL2.out.1];rfl,by rw [HL2.out.1];exact HF9.out.less (by omega),HOS9.out.less (by omega),by rw [HL2.out.2,List.map_append,HOs.out,HMm.out]⟩,HX9.out⟩
end Go.Proofs.YtikelfmmldafpaaGreat
