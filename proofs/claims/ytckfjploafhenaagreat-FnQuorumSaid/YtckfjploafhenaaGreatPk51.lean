/- OnOk of the reference. -/
import Derived.Test.YtckfjploafhenaaGreatPk49
import Derived.Test.YtckfjploafhenaaGreatPk50
import Derived.Test.YtckfjploafhenaaGreatPk48
set_option maxRecDepth 100000
set_option maxHeartbeats 16000000
set_option linter.unusedVariables false
set_option linter.unusedSimpArgs false
namespace Go.Proofs.YtckfjploafhenaaGreat
open Go.ChangeShapes Go.WideShapes Go.ChangeAt Go.RowKit Go.Sort
theorem snd_at {qs:List VtE} {L:List Vt} (h:qs.map Prod.snd=L) {j:Nat} (h1:j < qs.length) (h2:j < L.length):L[j]=qs[j].2:=by subst h;simp
theorem c_sOnOk (a:LAd) (A:Option Addr) (c:Nat) (ps:List VtE) (r:Rp) (am:LAd) (m:Mg) (w:World) (hr:RpR w a A c ps r) (hs:r.log.small) (hn:ps.length<=1048576) (hv:LgS ps) (hm:LgR w am m.log) (hms:m.log.small) :
  Calls Tryz.prog 7 #[Rp.val a A ps.length c r,Mg.val am m] w fun e w'=>∃ v,e = .returned v/\RoT w' (zbu r m 3 (okR r m)) (hearO r m 3 (okO r m)) v/\Ext w w':=by
 have X0:Ext w (((w.alloc (Rp.obj a A ps.length c r)).alloc (Mg.obj am m)).alloc Rp.zobj):=za9 (za9 (za1 _ _) _) _;have HSm:=Hd (zbi a A c ps r _ (hr.keep X0) hs hn hv);have HHr:=Hd (fun W (h:Ext w W)=>zbn a A c ps r am m 3 W (hr.keep h) hs hn hv (hm.keep h) hms)
 have D1:=Hd (hOld (o:=Rp.zobj) (hOld (o:=Mg.obj am m) (hNew (w:=w) (o:=Rp.obj a A ps.length c r) rfl)));have D2:=Hd (hOld (o:=Rp.zobj) (hNew (w:=w.alloc (Rp.obj a A ps.length c r)) (o:=Mg.obj am m) (k:=w.heap.size+1) (by simp)))
 have D3:=Hd (hNew (w:=(w.alloc (Rp.obj a A ps.length c r)).alloc (Mg.obj am m)) (o:=Rp.zobj) (k:=w.heap.size+1+1) (by simp))
 have HX0:=Hd X0;have HR:=Hd hr;have HM:=Hd hm;have HMs:=Hd hms;have HRs:=Hd hs;have hheq:sHearB r m 3=hearB r m 3:=(hear_eq (by decide +kernel) (by decide +kernel) rfl).symm
 have HHe:=Hd hheq;clear X0 hr hv hm hheq hms hs
 go_enter Tryz.func7,Tryz.ntmps7
 (go_wp2_with (with_reducible refine za5 12 ?_);refine za6 (D1.out) rfl Tryz.underlying33 (by kernel_rfl) ?_;simp only [Act.put,Sa,Sz,Ss])
 go_wp2_with fail
 refine HSm.out.mono ?_;rintro e w1 ⟨v1,rfl,⟨a1,A1,c1,qs,rfl,f1⟩,x1⟩;have HF1:=Hd f1;have X1:=Hd (Ext.trans HX0.out x1);have XO:=Hd (show Ext w1 ((w1.alloc (.cells #[] 47)).alloc Rp.zobj) from za9 (za1 _ _) _)
 have B1:=Hd (XO.out.box (x1.box D1.out));have B2:=Hd (XO.out.box (x1.box D2.out));have B3:=Hd (XO.out.box (x1.box D3.out));have BS:=Hd (hOld (o:=Rp.zobj) (hNew (w:=w1) (o := .cells #[] 47) rfl));have Z1:=Hd (hNew (w:=w1.alloc (.cells #[] 47)) (o:=Rp.zobj) (k:=w1.heap.size+1) (by simp))
 have hs1:=x1.size;simp only [zag] at hs1;clear f1 x1 D1 D2 D3 HX0 HSm
 (go_wp2_with (with_reducible refine za8 33 ?_);refine za3 ((w1.heap.size+1)) (Rp.cs a1 A1 qs.length c1 (sameR r)) rfl rfl (Z1.out) (by kernel_rfl) rfl (by simp [Value.oneCell']) ?_)
 intro W3 e3 k3;have x3:Ext w1 W3:=zaf XO.out k3 (fun g hg=>by rw [Mi] at hg;omega)
 have E3:=Hd e3;have F1:=Hd (zap B1.out k3 (by omega))
 have F2:=Hd (zap B2.out k3 (by omega))
 have F3:=Hd (zap B3.out k3 (by omega))
 have FS:=Hd (OsK.nil (B:=w.heap.size+1+1+1) (zap BS.out k3 (by omega)) (by omega))
 have HF3:=Hd ((HF1.out.keep x3).less (B':=w.heap.size+1+1+1) (by simp))
 have X3:=Hd (Ext.trans X1.out x3);have hs3:=bx_lt e3;clear e3 k3 x3 Z1 B1 B2 B3 BS HF1 X1 XO;cases qh:(rpOk r && sHearB r m 3)
 ·have HQ:=Hd (hearR2_no (R2:=okR r m) (O:=okO r m) (by rw [<-HHe.out];exact qh))
  go_wp2
  (refine mrg (relE W3.heap.size) (fun _ _ _=>True) 29 ?_;simp only [Tc,Tz,Dc,Dz])
  (refine mla (fun W9' h9=>zdt F1.out h9) Tryz.underlying33 ?_;simp only [Act.put,Sa,Sz,Ss])
  (refine mla (fun W9' h9=>zi7 F2.out h9) Tryz.underlying37 ?_;simp only [Act.put,Sa,Sz,Ss])
  (refine mdt Tryz.func22 (fun W9' h9=>HHr.out W9' (Ext.trans X3.out h9)) ?_;simp only [Act.put,Sa,Sz,Ss])
  ((try simp only [qh,Bool.not_true,Bool.not_false]);(iterate 2 (refine mpl ?_;go_big_quiet_step (fail);refine mnil ?_));(iterate 3 (refine msk ?_;simp only [Act.put,Sa,Sz,Ss]));(iterate 2 (refine mpl ?_;go_big_quiet_step (fail);refine mnil ?_));(iterate 3 (refine msk ?_;simp only [Act.put,Sa,Sz,Ss]));(iterate 2 (refine mpl ?_;go_big_quiet_step (fail);refine mnil ?_));(iterate 5 (refine msk ?_;simp only [Act.put,Sa,Sz,Ss]));(iterate 2 (refine mpl ?_;go_big_quiet_step (fail);refine mnil ?_));(iterate 6 (refine msk ?_;simp only [Act.put,Sa,Sz,Ss]));(refine mpl ?_;go_big_quiet_step (fail);refine mnil ?_))
  refine Rm.wpMix_nil ?_;rintro w4 hW;have x:Ext W3 w4:=hW;obtain ⟨F1,F2,F3,E3,FS,HF3,X3⟩:Hid _/\Hid _/\Hid _/\Hid _/\Hid _/\Hid _/\Hid _:=⟨Hd (x.box F1.out),Hd (x.box F2.out),Hd (x.box F3.out),Hd (x.box E3.out),Hd (FS.out.keep x),Hd (HF3.out.keep x),Hd (Ext.trans X3.out x)⟩;have hsz_w4:=x.size;clear x hW;clear HHr
  (go_wp2_with (with_reducible refine za5 44 ?_);refine za6 (E3.out) rfl Tryz.underlying33 (by kernel_rfl) ?_;simp only [Act.put,Sa,Sz,Ss])
  (go_wp2_with (with_reducible refine za8 33 ?_);refine za3 ((w.heap.size+1+1)) (Rp.cs a1 A1 qs.length c1 (sameR r)) rfl rfl (F3.out) (by kernel_rfl) rfl (by simp [Value.oneCell']) ?_)
  intro W9 e9 k9;have X9:=Hd (zac X3.out k9 (by omega))
  have HE9:=Hd e9;have HT9:=Hd (RoT.of (O:=[]) (HF3.out.boxed F3.out k9) (FS.out.boxed F3.out (by decide) (by decide) (by decide) (by decide) k9) rfl)
  clear e9 k9;go_wp2
  refine bodyPost_ret (zax Tryz.results7 rfl rfl Tryz.underlying33 (by kernel_rfl) HE9.out) rfl ⟨_,rfl, ?_,X9.out⟩
  rw [HQ.out.1,HQ.out.2];exact HT9.out
 ·obtain ⟨hy1,hy2,hy3⟩:=hearR2_yes (r:=r) (m:=m) (kind:=3) (R2:=okR r m) (O:=okO r m) (by rw [<-HHe.out];exact qh)
  have HY:=Hd (And.intro hy1 hy2);have HS3:=Hd hy3;obtain ⟨hq1,hq2,hq3⟩:=hear_facts (show (rpOk r && hearB r m 3)=true by rw [<-HHe.out];exact qh)
  have G:=Hd (zf9 hq1);have HIV:=Hd (rpOk_in hq1);clear hy1 hy2 hy3;cases g1:(r.mode != 1)
  ·cases g2:leadsB r
   ·have HQ:=Hd (show zbu r m 3 (okR r m)=sameR r/\hearO r m 3 (okO r m)=[] by
    rw [HY.out.1,HY.out.2,HS3.out];have hB:okB r m=false:=by unfold okB;simp only [g2,Bool.true_and,Bool.false_and,Bool.and_true,Bool.and_false,Bool.true_or,Bool.false_or,Bool.or_true,Bool.or_false,Bool.not_true,Bool.not_false]
    unfold okR okO;rw [hB]
    exact ⟨rfl,rfl⟩)
    go_wp2
    (refine mrg (relE W3.heap.size) (fun _ _ _=>True) 29 ?_;simp only [Tc,Tz,Dc,Dz])
    (refine mla (fun W9' h9=>zdt F1.out h9) Tryz.underlying33 ?_;simp only [Act.put,Sa,Sz,Ss])
    (refine mla (fun W9' h9=>zi7 F2.out h9) Tryz.underlying37 ?_;simp only [Act.put,Sa,Sz,Ss])
    (refine mdt Tryz.func22 (fun W9' h9=>HHr.out W9' (Ext.trans X3.out h9)) ?_;simp only [Act.put,Sa,Sz,Ss])
    ((try simp only [qh,Bool.not_true,Bool.not_false]);(iterate 2 (refine mpl ?_;go_big_quiet_step (fail);refine mnil ?_));(refine mpl ?_;go_big_quiet_step (fail);refine mnil ?_);(refine ml1 (fun W9' h9=>show W9'.cell? _=some (.int .i64 r.mode) from za2 (Ext.box h9 F1.out) 2) Tryz.underlying3 ?_;simp only [Act.put,Sa,Sz,Ss]);(refine mpl ?_;go_big_quiet_step (fail);refine mnil ?_);(try simp only [g1,Bool.not_true,Bool.not_false]);(iterate 2 (refine mpl ?_;go_big_quiet_step (fail);refine mnil ?_)))
    (refine mla (fun W9' h9=>zdt F1.out h9) Tryz.underlying33 ?_;simp only [Act.put,Sa,Sz,Ss])
    (refine mdt Tryz.func23 (fun W9' h9=>zbq a A _ c r W9' HIV.out.1 HIV.out.2) ?_;simp only [Act.put,Sa,Sz,Ss])
    ((try simp only [g2,Bool.not_true,Bool.not_false]);(iterate 3 (refine mpl ?_;go_big_quiet_step (fail);refine mnil ?_));(iterate 5 (refine msk ?_;simp only [Act.put,Sa,Sz,Ss]));(iterate 2 (refine mpl ?_;go_big_quiet_step (fail);refine mnil ?_));(iterate 6 (refine msk ?_;simp only [Act.put,Sa,Sz,Ss]));(refine mpl ?_;go_big_quiet_step (fail);refine mnil ?_))
    refine Rm.wpMix_nil ?_;rintro w4 hW;have x:Ext W3 w4:=hW;obtain ⟨F1,F2,F3,E3,FS,HF3,X3⟩:Hid _/\Hid _/\Hid _/\Hid _/\Hid _/\Hid _/\Hid _:=⟨Hd (x.box F1.out),Hd (x.box F2.out),Hd (x.box F3.out),Hd (x.box E3.out),Hd (FS.out.keep x),Hd (HF3.out.keep x),Hd (Ext.trans X3.out x)⟩;have hsz_w4:=x.size;clear x hW;clear HHr
    (go_wp2_with (with_reducible refine za5 44 ?_);refine za6 (E3.out) rfl Tryz.underlying33 (by kernel_rfl) ?_;simp only [Act.put,Sa,Sz,Ss])
    (go_wp2_with (with_reducible refine za8 33 ?_);refine za3 ((w.heap.size+1+1)) (Rp.cs a1 A1 qs.length c1 (sameR r)) rfl rfl (F3.out) (by kernel_rfl) rfl (by simp [Value.oneCell']) ?_)
    intro W9 e9 k9;have X9:=Hd (zac X3.out k9 (by omega))
    have HE9:=Hd e9;have HT9:=Hd (RoT.of (O:=[]) (HF3.out.boxed F3.out k9) (FS.out.boxed F3.out (by decide) (by decide) (by decide) (by decide) k9) rfl)
    clear e9 k9;go_wp2
    refine bodyPost_ret (zax Tryz.results7 rfl rfl Tryz.underlying33 (by kernel_rfl) HE9.out) rfl ⟨_,rfl, ?_,X9.out⟩
    rw [HQ.out.1,HQ.out.2];exact HT9.out
   ·cases g3:(m.view != r.view)
    ·cases g4:decide (r.log.fin < m.op)
     ·have HB:=Hd (show okB r m=true by
      have h1:(r.mode == 1)=true:=by simpa using g1
      have h3:(m.view == r.view)=true:=by simpa using g3
      have h4:decide (m.op<=r.log.fin)=true:=by simp at g4 ⊢;omega
      unfold okB
      simp only [h1,g2,h3,h4,Bool.and_true])
      go_wp2
      (refine mrg (relE W3.heap.size) (fun _ _ _=>True) 29 ?_;simp only [Tc,Tz,Dc,Dz])
      (refine mla (fun W9' h9=>zdt F1.out h9) Tryz.underlying33 ?_;simp only [Act.put,Sa,Sz,Ss])
      (refine mla (fun W9' h9=>zi7 F2.out h9) Tryz.underlying37 ?_;simp only [Act.put,Sa,Sz,Ss])
      (refine mdt Tryz.func22 (fun W9' h9=>HHr.out W9' (Ext.trans X3.out h9)) ?_;simp only [Act.put,Sa,Sz,Ss])
      ((try simp only [qh,Bool.not_true,Bool.not_false]);(iterate 2 (refine mpl ?_;go_big_quiet_step (fail);refine mnil ?_));(refine mpl ?_;go_big_quiet_step (fail);refine mnil ?_);(refine ml1 (fun W9' h9=>show W9'.cell? _=some (.int .i64 r.mode) from za2 (Ext.box h9 F1.out) 2) Tryz.underlying3 ?_;simp only [Act.put,Sa,Sz,Ss]);(refine mpl ?_;go_big_quiet_step (fail);refine mnil ?_);(try simp only [g1,Bool.not_true,Bool.not_false]);(iterate 2 (refine mpl ?_;go_big_quiet_step (fail);refine mnil ?_)))
      (refine mla (fun W9' h9=>zdt F1.out h9) Tryz.underlying33 ?_;simp only [Act.put,Sa,Sz,Ss])
      (refine mdt Tryz.func23 (fun W9' h9=>zbq a A _ c r W9' HIV.out.1 HIV.out.2) ?_;simp only [Act.put,Sa,Sz,Ss])
      ((try simp only [g2,Bool.not_true,Bool.not_false]);(iterate 3 (refine mpl ?_;go_big_quiet_step (fail);refine mnil ?_));(refine mpl ?_;go_big_quiet_step (fail);refine mnil ?_);(refine ml1 (fun W9' h9=>show W9'.cell? _=some (.int .i64 m.view) from za2 (Ext.box h9 F2.out) 2) Tryz.underlying3 ?_;simp only [Act.put,Sa,Sz,Ss]);(refine mpl ?_;go_big_quiet_step (fail);refine mnil ?_);(refine ml1 (fun W9' h9=>show W9'.cell? _=some (.int .i64 r.view) from za2 (Ext.box h9 F1.out) 3) Tryz.underlying3 ?_;simp only [Act.put,Sa,Sz,Ss]);(refine mpl ?_;go_big_quiet_step (fail);refine mnil ?_);(try simp only [g3,Bool.not_true,Bool.not_false]);(iterate 2 (refine mpl ?_;go_big_quiet_step (fail);refine mnil ?_));(refine mpl ?_;go_big_quiet_step (fail);refine mnil ?_);(refine ml1 (fun W9' h9=>show W9'.cell? _=some (.int .i64 m.op) from za2 (Ext.box h9 F2.out) 3) Tryz.underlying3 ?_;simp only [Act.put,Sa,Sz,Ss]);(refine mpl ?_;go_big_quiet_step (fail);refine mnil ?_))
      (refine mla (fun W9' h9=>rp_log F1.out h9) Tryz.underlying30 ?_;simp only [Act.put,Sa,Sz,Ss])
      (refine mdt Tryz.func24 (fun W9' h9=>zdy a r.log HRs.out.1 HRs.out.2.1 HRs.out.2.2 W9' (HR.out.l.keep (Ext.trans X3.out h9)) G.out.lok) ?_;simp only [Act.put,Sa,Sz,Ss])
      ((refine mpl ?_;go_big_quiet_step (fail);refine mnil ?_);(try simp only [g4,Bool.not_true,Bool.not_false]);(refine mpl ?_;go_big_quiet_step (fail);refine mnil ?_))
      refine Rm.wpMix_nil ?_;rintro w4 hW;have x:Ext W3 w4:=hW;obtain ⟨F1,F2,F3,E3,FS,HF3,X3⟩:Hid _/\Hid _/\Hid _/\Hid _/\Hid _/\Hid _/\Hid _:=⟨Hd (x.box F1.out),Hd (x.box F2.out),Hd (x.box F3.out),Hd (x.box E3.out),Hd (FS.out.keep x),Hd (HF3.out.keep x),Hd (Ext.trans X3.out x)⟩;have hsz_w4:=x.size;clear x hW;clear HHr;clear g1 g2 g3 g4;rw [HS3.out] at E3 HF3;have hg0:=G.out.base0;have hg1:=G.out.base1;have hg2:=G.out.ents;have hg3:=G.out.c0;have hg4:=G.out.c1;have hf1:=G.out.fin;have hql:r.votes.length=qs.length:=by rw [<-HF3.out.e,List.length_map]
      have hq20:qs.length<=20:=by have:=G.out.votes;omega
      obtain ⟨fv,hfv⟩:∃ x,findV 3 m.frm r.votes=x:=⟨_,rfl⟩;have HFv:=Hd hfv
      have HFi:=Hd (show ∀ W,Ext w4 W->Calls Tryz.prog 25 #[.slice A1 qs.length c1, .int .i64 3, .int .i64 m.frm] W fun e w'=>e = .returned (.int .i64 fv)/\Ext W w' from fun W hW=>by
       have h5:=zdp A1 c1 qs 3 m.frm W (HF3.out.v.1.keep hW) (by omega)
       rw [HF3.out.e,hfv] at h5
       exact h5)
      have HQl:=Hd hql;clear hfv hql;have b8:=za2 E3.out;have l8:=bx_lt E3.out;have d2:=za2 F2.out;have z2:=bx_lt F2.out;go_wp2_with fail
      refine (HFi.out _ (za4 _)).mono ?_;rintro e w5 ⟨rfl,x⟩;obtain ⟨F1,F2,F3,E3,FS,HF3,X3⟩:Hid _/\Hid _/\Hid _/\Hid _/\Hid _/\Hid _/\Hid _:=⟨Hd (x.box F1.out),Hd (x.box F2.out),Hd (x.box F3.out),Hd (x.box E3.out),Hd (FS.out.keep x),Hd (HF3.out.keep x),Hd (Ext.trans X3.out x)⟩;have hsz_w5:=x.size;clear x;clear b8 l8 d2 z2 HFi;cases gF:decide (0<=fv)
      case' false =>
       (go_wp2_with (with_reducible refine za5 67 ?_);refine za6 (E3.out) rfl Tryz.underlying33 (by kernel_rfl) ?_;simp only [Act.put,Sa,Sz,Ss])
       have d2:=za2 F2.out;have z2:=bx_lt F2.out;have HVo:=Hd (voted_okV r m (by rw [HFv.out];exact gF))
       have hvo20:(okL r m).length<=21:=by
        unfold okL;rw [HFv.out,gF]
        have:=G.out.votes
        simp only [Bf,if_false];split
        ·rw [List.length_append];simp;omega
        ·omega
       go_wp2_with fail
       refine (zcs (w.heap.size+1+1+1) a1 A1 c1 qs r LAd.none (okV m) w5 HF3.out (none_lgF _ _) (by omega) (by have:=G.out.votes;omega)).mono ?_
       rintro e w6 ⟨⟨A2,c2,qs2,rfl,hf2⟩,x⟩;rw [HVo.out] at hf2 ⊢;obtain ⟨F1,F2,F3,E3,FS,X3⟩:Hid _/\Hid _/\Hid _/\Hid _/\Hid _/\Hid _:=⟨Hd (x.box F1.out),Hd (x.box F2.out),Hd (x.box F3.out),Hd (x.box E3.out),Hd (FS.out.keep x),Hd (Ext.trans X3.out x)⟩;have hsz_w6:=x.size;have HF2:=Hd hf2;clear x hf2 d2 z2 HF3
       (go_wp2_with (with_reducible refine za8 33 ?_);refine za3 ((w1.heap.size+1)) (Rp.cs a1 A2 qs2.length c2 (r.comTo (okL r m) r.commit)) rfl rfl (E3.out) (by kernel_rfl) rfl (by simp [Value.oneCell']) ?_)
       intro u8 e8 k8;simp only [Act.put,Sa,Sz,Ss];have hlt8:=bx_lt e8;obtain ⟨F1,F2,F3,E3,FS,X3,HF3⟩:Hid _/\Hid _/\Hid _/\Hid _/\Hid _/\Hid _/\Hid (RpF u8 (w.heap.size+1+1+1) a1 A2 c2 qs2 (r.comTo (okL r m) r.commit)):=⟨Hd (zap F1.out k8 (by omega)),Hd (zap F2.out k8 (by omega)),Hd (zap F3.out k8 (by omega)),Hd e8,Hd (FS.out.boxed E3.out (by decide) (by decide) (by decide) (by decide) k8),Hd (zaf X3.out k8 (fun g hg=>by rw [Mi] at hg;omega)),Hd (HF2.out.boxed E3.out k8)⟩
       clear e8 k8 HF2;have hq2:qs2.length<=21:=by have h5:=congrArg List.length HF3.out.e;rw [List.length_map] at h5;have h6:(r.comTo (okL r m) r.commit).votes.length=(okL r m).length:=rfl;omega
      case' true =>
       obtain ⟨k,hkv,hkl⟩:∃ k:Nat,fv=k/\k < r.votes.length:=by
        have h0:0<=findV 3 m.frm r.votes:=by rw [HFv.out];simpa using gF
        obtain ⟨k,h1,h2⟩:=idxOf_lt h0;exact ⟨k,by rw [<-HFv.out];exact h1,h2⟩
       subst hkv;have hkq:k < qs.length:=by have:=HQl.out;omega
       obtain ⟨g,gc,hAe,hgB,hgl⟩:=(HF3.out.v.2 (by have:=HF3.out.v.1.1;omega)).base (by omega)
       simp only [Value.slice.injEq] at hAe;obtain ⟨rfl,_,rfl⟩:=hAe;have HRw:=Hd (HF3.out.v.2 (by have:=HF3.out.v.1.1;omega))
       have HLk:=Hd (show okL r m=setOp r.votes k (max qs[k].2.op m.op) from okL_at HFv.out (by rw [<-HF3.out.e,List.getElem?_map,List.getElem?_eq_getElem hkq];rfl))
       have hkk:(k:Int) < (qs.length:Int):=by omega
       have HCell:=Hd (show ∀ W9,Ext w5 W9->W9.cell? ⟨g,k * 10+4,none⟩=some (.int .i64 qs[k].2.op) from fun W9 hW=>(World.ownsRow.cellAt (HRw.out.kept hW) (k * 10+4) (by omega)).trans (ze4 VtE.len qs k hkq 4 (by omega)))
       go_wp2
       (refine mrg (relE w5.heap.size) (fun _ _ _=>True) 14 ?_;simp only [Tc,Tz,Dc,Dz])
       (refine mpl ?_;go_big_quiet_step (fail);refine mnil ?_)
       (refine ml1 (fun W9' h9=>show W9'.cell? _=some (.slice (some ⟨g,0,none⟩) qs.length c1) from za2 (Ext.box h9 E3.out) 10) Tryz.underlying31 ?_;simp only [Act.put,Sa,Sz,Ss])
       (iterate 2 (refine mpl ?_;go_big_quiet_step (fail);refine mnil ?_))
       (refine ml1 (fun W9' h9=>show W9'.cell? _=some (.slice (some ⟨g,0,none⟩) qs.length c1) from za2 (Ext.box h9 E3.out) 10) Tryz.underlying31 ?_;simp only [Act.put,Sa,Sz,Ss])
       (iterate 3 (refine mpl ?_;go_big_quiet_step (fail);refine mnil ?_))
       (refine ml1 (fun W9' h9=>HCell.out W9' h9) Tryz.underlying3 ?_;simp only [Act.put,Sa,Sz,Ss])
       ((refine mpl ?_;go_big_quiet_step (fail);refine mnil ?_);(refine ml1 (fun W9' h9=>show W9'.cell? _=some (.int .i64 m.op) from za2 (Ext.box h9 F2.out) 3) Tryz.underlying3 ?_;simp only [Act.put,Sa,Sz,Ss]))
       (refine mdt Tryz.func26 (fun W9' h9=>zdi qs[k].2.op m.op W9') ?_;simp only [Act.put,Sa,Sz,Ss])
       (iterate 2 (refine mpl ?_;go_big_quiet_step (fail);refine mnil ?_))
       refine Rm.wpMix_nil ?_;rintro w6 hW;have x:Ext w5 w6:=hW;obtain ⟨F1,F2,F3,E3,FS,HF3,X3⟩:Hid _/\Hid _/\Hid _/\Hid _/\Hid _/\Hid _/\Hid _:=⟨Hd (x.box F1.out),Hd (x.box F2.out),Hd (x.box F3.out),Hd (x.box E3.out),Hd (FS.out.keep x),Hd (HF3.out.keep x),Hd (Ext.trans X3.out x)⟩;have HRw:=Hd (HRw.out.kept x);have hsz_w6:=x.size;have hfr:=World.ownsRow.frozenAt HRw.out;have e4:=HCell.out w6 x;have hgl3:g < w6.heap.size:=Nat.lt_of_lt_of_le hgl x.size;have hOp:=rpF_opset HF3.out hkq (max qs[k].2.op m.op);rw [<-HLk.out] at hOp;have c8:=zaq (Chg.refl w6 [g]) (p:=⟨g,k * 10+4,none⟩) (by simp) (.int .i64 (max qs[k].2.op m.op))
       have HBx:=Hd (show ∀ (q:Nat) (cs:Array Value) (T:TypeId),w6.heap[q]?=some (.cells cs T (0,0))->T≠45->q∉[g] from fun q cs T h hne hm=>zam h HRw.out hne (by simpa [blk] using hm))
       have HG8:=Hd (And.intro hOp (And.intro (zbx F1.out c8 (HBx.out _ _ _ F1.out (by decide))) (And.intro (zbx F2.out c8 (HBx.out _ _ _ F2.out (by decide))) (And.intro (zbx F3.out c8 (HBx.out _ _ _ F3.out (by decide))) (And.intro (zbx E3.out c8 (HBx.out _ _ _ E3.out (by decide))) (And.intro (OsK.opset FS.out HRw.out c8) (zaf X3.out c8 (fun y hy=>by rw [Mi] at hy;omega))))))))
       have hs8:=bx_lt E3.out;clear hW x HCell hOp c8 HBx F1 F2 F3 E3 FS HF3 X3;go_wp2_with (with_reducible refine za5 75 ?_)
       refine zb2 (F:=fun W=>RpF W (w.heap.size+1+1+1) a1 (some ⟨g,0,none⟩) c1 (qs.set k (opE qs[k] (max qs[k].2.op m.op))) (r.votesTo (okL r m))/\W.heap[w.heap.size]?=some (Rp.obj a A ps.length c r)/\W.heap[w.heap.size+1]?=some (Mg.obj am m)/\W.heap[w.heap.size+1+1]?=some Rp.zobj/\W.heap[w1.heap.size+1]?=some (.cells (Rp.cs a1 (some ⟨g,0,none⟩) qs.length c1 r) 33)/\OsK W (w.heap.size+1+1+1) (some ⟨w1.heap.size,0,none⟩) 0 []/\Ext w W) HG8.out ?_
       intro u8 ⟨hf3,f1,f2,f3,e3,fs,x3⟩;obtain ⟨qs2,hqs4⟩:∃ q,qs.set k (opE qs[k] (max qs[k].2.op m.op))=q:=⟨_,rfl⟩;have hl4:qs2.length=qs.length:=by rw [<-hqs4,List.length_set]
       rw [hqs4] at hf3;rw [<-hl4] at e3;have HF3:=Hd (show RpF u8 (w.heap.size+1+1+1) a1 (some ⟨g,0,none⟩) c1 qs2 (r.comTo (okL r m) r.commit) from hf3)
       have F1:=Hd f1;have F2:=Hd f2;have F3:=Hd f3;have E3:=Hd (show u8.heap[w1.heap.size+1]?=some (.cells (Rp.cs a1 (some ⟨g,0,none⟩) qs2.length c1 (r.comTo (okL r m) r.commit)) 33) from e3)
       have FS:=Hd fs;have X3:=Hd x3;have hlt8:=bx_lt e3;clear hf3 f1 f2 f3 e3 fs x3 HG8 hfr e4 hgl3 HRw HLk hqs4;obtain ⟨c2,hc2⟩:∃ x:Nat,c1=x:=⟨_,rfl⟩;obtain ⟨A2,hAg⟩:∃ A:Option Addr,(some ⟨g,0,none⟩:Option Addr)=A:=⟨_,rfl⟩;rw [hAg,hc2] at E3 HF3;have hq2:qs2.length<=21:=by omega
       clear hAg hl4 hc2
      all_goals
       have hqn:qs2.length<=1048576:=by omega
       have hlV:(okL r m).length=qs2.length:=by have h5:=HF3.out.e;have h6:=congrArg List.length h5;rw [List.length_map] at h6;exact h6.symm
       (go_wp2_with (with_reducible refine za5 75 ?_);refine zb3 (rp_log F1.out (za4 _)) rfl Tryz.underlying30 (by kernel_rfl) ?_;simp only [Act.put,Sa,Sz,Ss])
       go_wp2_with fail
       refine (zdy a r.log HRs.out.1 HRs.out.2.1 HRs.out.2.2 _ (HR.out.l.keep X3.out) G.out.lok).mono ?_;rintro e w7 ⟨rfl,x⟩;obtain ⟨F1,F2,F3,E3,FS,HF3,X3⟩:Hid _/\Hid _/\Hid _/\Hid _/\Hid _/\Hid _/\Hid _:=⟨Hd (x.box F1.out),Hd (x.box F2.out),Hd (x.box F3.out),Hd (x.box E3.out),Hd (FS.out.keep x),Hd (HF3.out.keep x),Hd (Ext.trans X3.out x)⟩;have hsz_w7:=x.size;clear x;obtain ⟨Fin,hFin⟩:∃ F,r.log.fin=F:=⟨_,rfl⟩;rw [hFin];have HFin:=Hd hFin;have hFin1:r.commit<=Fin/\Fin<=1000000000:=by omega
       have HNV:=Hd (show okN r m=agTo (r.votesTo (okL r m)) (Fin - r.commit).toNat by rw [<-hFin];rfl)
       obtain ⟨L,hL⟩:∃ L,okL r m=L:=⟨_,rfl⟩;rw [hL] at E3 HF3 HNV hlV;have HL:=Hd hL;have hc0:0<=r.commit:=by omega
       clear hFin hL;go_wp2
       go_loopw [7,9] (fun sn n wr=>∃ k:Nat,sn = .slice (some ⟨w1.heap.size,0,none⟩) 0 0/\n = .int .i64 (r.commit+k)/\Hid (okN r m=agTo (r.votesTo L) k)/\r.commit+k<=Fin/\Hid (Ext w7 wr)) (fun _ n _=>(intOf n - r.commit).toNat)
       case atStart=>exact ⟨(Fin - r.commit).toNat,rfl,by congr 1;omega,HNV,by omega,Hd (za4 _)⟩
       case round =>
        obtain ⟨k,rfl,rfl,HA,hkF,HX⟩:=hrel;have hszr:=HX.out.size;have R1:=Hd (HX.out.box F1.out);have dr:=za2 R1.out;have zr:=bx_lt R1.out;cases k with
        | zero =>
         have HA0:=Hd (show okN r m=r.commit from HA.out)
         have hc:r.commit+((0:Nat):Int)=r.commit:=by omega
         have g0:decide (r.commit < r.commit)=false:=by simp
         rw [hc];clear hc HA;have x:=HX.out;obtain ⟨F1,F2,F3,E3,FS,HF3,X3⟩:Hid _/\Hid _/\Hid _/\Hid _/\Hid _/\Hid _/\Hid _:=⟨Hd (x.box F1.out),Hd (x.box F2.out),Hd (x.box F3.out),Hd (x.box E3.out),Hd (FS.out.keep x),Hd (HF3.out.keep x),Hd (Ext.trans X3.out x)⟩;clear x R1
         have HQ:=Hd (show zbu r m 3 (okR r m)=r.comTo L r.commit/\hearO r m 3 (okO r m)=[] by
          rw [HY.out.1,HY.out.2];unfold okR okO;rw [HB.out,HA0.out,HL.out,g0]
          exact ⟨rfl,rfl⟩)
         (go_wp2_with (with_reducible refine za5 131 ?_);refine za6 (E3.out) rfl Tryz.underlying33 (by kernel_rfl) ?_;simp only [Act.put,Sa,Sz,Ss])
         clear dr zr
         (go_wp2_with (with_reducible refine za8 33 ?_);refine za3 ((w.heap.size+1+1)) (Rp.cs a1 A2 qs2.length c2 (r.comTo L r.commit)) rfl rfl (F3.out) (by kernel_rfl) rfl (by simp [Value.oneCell']) ?_)
         intro W9 e9 k9;have X9:=Hd (zac X3.out k9 (by omega))
         have HE9:=Hd e9;have HT9:=Hd (RoT.of (O:=[]) (HF3.out.boxed F3.out k9) (FS.out.boxed F3.out (by decide) (by decide) (by decide) (by decide) k9) rfl)
         clear e9 k9;go_wp2
         refine bodyPost_ret (zax Tryz.results7 rfl rfl Tryz.underlying33 (by kernel_rfl) HE9.out) rfl ⟨_,rfl, ?_,X9.out⟩
         rw [HQ.out.1,HQ.out.2];exact HT9.out
        | succ k =>
         obtain ⟨N,hN⟩:∃ N,r.commit+((k+1:Nat):Int)=N:=⟨_,rfl⟩;rw [hN] at hkF ⊢;have HN:=Hd hN;have hNk:N - 1=r.commit+(k:Int):=by omega
         have hNb:r.commit < N:=by omega
         have g0:decide (r.commit < N)=true:=by simpa using hNb
         clear hN;go_wp2
         go_loopw [10,11] (fun mm i ws=>∃ j:Nat,j<=qs2.length/\i = .int .i64 j/\mm = .int .i64 (cntOk N (L.take j))/\Hid (Ext w7 ws)) (fun _ i _=>qs2.length - (intOf i).toNat)
         case atStart=>exact ⟨0,Nat.zero_le _,rfl,by simp [cntOk],HX⟩
         case round =>
          obtain ⟨j,hj,rfl,rfl,HX2⟩:=hrel;clear dr zr R1;have hle:=cntOk_le N L j;have S3:=Hd (HX2.out.box E3.out);have ds:=za2 S3.out;have zs:=bx_lt S3.out;by_cases hlt:j < qs2.length
          ·obtain ⟨ab,ao,hA,hab,a0,a1_,a2,a3,a4,a5,a6,a7,a8,a9⟩:=(HF3.out.v.1.keep HX2.out).atVtE hlt;subst hA;have h2:j < L.length:=by omega
           have H3:=Hd (snd_at (show qs2.map Prod.snd=L from HF3.out.e) hlt h2)
           obtain ⟨cn,hcn⟩:∃ cn,cntOk N (L.take j)=cn:=⟨_,rfl⟩;have HC:=Hd hcn;rw [hcn] at hle ⊢;clear hcn a1_ a2 a3 a5 a6 a7 a8 a9;cases g1:(qs2[j].2.kind == 3)
           ·have HN':=Hd (show cntOk N (L.take (j+1))=cn by rw [zdj h2,H3.out,HC.out];unfold isOk;rw [g1];simp)
            go_wp2
            go_roundw
            case rel=>exact ⟨j+1,by omega,by go_num,by rw [HN'.out],HX2⟩
            case measure=>simp [intOf] <;> omega
           ·cases g2:decide (N<=qs2[j].2.op)
            ·have HN':=Hd (show cntOk N (L.take (j+1))=cn by rw [zdj h2,H3.out,HC.out];unfold isOk;rw [g1,g2];simp)
             go_wp2
             go_roundw
             case rel=>exact ⟨j+1,by omega,by go_num,by rw [HN'.out],HX2⟩
             case measure=>simp [intOf] <;> omega
            ·have HN':=Hd (show cntOk N (L.take (j+1))=cn+1 by rw [zdj h2,H3.out,HC.out];unfold isOk;rw [g1,g2];simp)
             go_wp2
             go_roundw
             case rel=>exact ⟨j+1,by omega,by go_num,by rw [HN'.out];go_num,HX2⟩
             case measure=>simp [intOf] <;> omega
          ·obtain rfl:j=qs2.length:=by omega
           have HT:=Hd (show cntOk N (L.take qs2.length)=cntOk N L by rw [<-hlV,List.take_length])
           rw [HT.out] at hle ⊢;obtain ⟨cn,hcn⟩:∃ cn,cntOk N L=cn:=⟨_,rfl⟩;have HC:=Hd hcn;rw [hcn] at hle ⊢;clear hcn HT;have R2:=Hd (HX2.out.box F1.out)
           (go_wp2_with (with_reducible refine za5 110 ?_);refine za6 (R2.out) rfl Tryz.underlying33 (by kernel_rfl) ?_;simp only [Act.put,Sa,Sz,Ss])
           go_wp2_with fail
           refine (zg9 a A _ c r _ HIV.out.2).mono ?_;rintro e9 w8 ⟨rfl,x8⟩;have HX3:=Hd (Ext.trans HX2.out x8);clear x8 ds zs S3 R2 HX;cases g3:decide ((r.of - 1) / 2<=(cn:Int))
           ·have HA':=Hd (show okN r m=agTo (r.votesTo L) k by
             have h5:=HA.out;rw [agTo_no (by show decide ((r.of - 1) / 2<=(cntOk (r.commit+(k+1:Nat)) L:Int))=false;rw [HN.out,HC.out];exact g3)] at h5
             exact h5)
            clear HA;go_wp2
            go_roundw
            case rel=>exact ⟨k,rfl,by first | rfl | rw [hNk],HA',by omega,HX3⟩
            case measure=>simp [intOf] <;> omega
           ·have HA':=Hd (show okN r m=N by
             have h5:=HA.out;rw [agTo_yes (by show decide ((r.of - 1) / 2<=(cntOk (r.commit+(k+1:Nat)) L:Int))=true;rw [HN.out,HC.out];exact g3)] at h5
             rw [h5,<-HN.out];rfl)
            clear HA;have x:=HX3.out;obtain ⟨F1,F2,F3,E3,FS,HF3,X3⟩:Hid _/\Hid _/\Hid _/\Hid _/\Hid _/\Hid _/\Hid _:=⟨Hd (x.box F1.out),Hd (x.box F2.out),Hd (x.box F3.out),Hd (x.box E3.out),Hd (FS.out.keep x),Hd (HF3.out.keep x),Hd (Ext.trans X3.out x)⟩;have hsz_w8:=x.size;clear x HX2 HX3;obtain ⟨j0,hj0⟩:∃ j:Nat,(r.commit - r.log.base).toNat=j:=⟨_,rfl⟩;obtain ⟨n0,hn0⟩:∃ n:Nat,(N - r.commit).toNat=n:=⟨_,rfl⟩;obtain ⟨s0,hs0⟩:∃ n:Nat,r.of.toNat=n:=⟨_,rfl⟩
            have HQ:=Hd (show zbu r m 3 (okR r m)=r.comTo L N/\hearO r m 3 (okO r m)=ansO r.view r.log j0 n0++allTo r.me (comM r N) s0 by
             rw [HY.out.1,HY.out.2];unfold okR okO;rw [HB.out,HA'.out,HL.out,g0,hj0,hn0,hs0]
             exact ⟨rfl,rfl⟩)
            have hj1:r.log.base+(j0:Int)=r.commit:=by omega
            have hjn:j0+n0<=r.log.ents.length:=by have h5:r.log.fin=r.log.base+r.log.ents.length:=rfl;have:=HFin.out;omega
            have hof:r.of=(s0:Int):=by have:=G.out.of;omega
            have hs10:s0=1\/s0=3\/s0=5:=by have:=G.out.of;omega
            have hme:=G.out.me1;have hme0:=G.out.me0;have HOf:=Hd hof;have hjT:r.log.base+(j0:Int)+(n0:Int)=N:=by omega
            have HAns:=Hd (show ∀ W (av:Value),av=Rp.val a1 A2 qs2.length c2 (r.comTo L N)->LgR W a1 r.log->Calls Tryz.prog 29 #[av, .int .i64 r.commit, .int .i64 N] W fun e w'=>(∃ A' c' os,e = .returned (.slice A' (List.length os) c')/\List.map Prod.snd os=ansO r.view r.log j0 n0/\OsK w' W.heap.size A' c' os)/\Ext W w' from fun W av hav h=>by
             have h5:=zc6 a1 A2 qs2.length c2 (r.comTo L N) W h j0 n0 N hjT G.out.lok hjn;rw [<-hj1,hav]
             exact h5)
            clear hj1 hj0 hn0 hs0 hof hjT;have b8:=za2 E3.out;have f8_:=zad E3.out;have l8:=bx_lt E3.out;have P8:=zar E3.out 5 (.int .i64 N);simp only [Sa,Sz,Ss] at P8;have c8:=zaq (Chg.refl w8 [w1.heap.size+1]) (p:=⟨w1.heap.size+1,5,none⟩) (by simp) (.int .i64 N)
            have hf8:=HF3.out.boxed E3.out c8;have HP8:=Hd P8;have HF8:=Hd (show RpF _ (w.heap.size+1+1+1) a1 A2 c2 qs2 (r.comTo L N) from ⟨hf8.l,hf8.v,hf8.vl,hf8.e⟩)
            have F18:=Hd (zbx F1.out c8 (by simp;omega))
            have F38:=Hd (zbx F3.out c8 (by simp;omega))
            have X8:=Hd (zaf X3.out c8 (fun g hg=>by rw [Mi] at hg;omega))
            clear P8 c8 hf8 F3 E3 FS HF3 X3 F1 F2;go_wp2_with (with_reducible refine za5 115 ?_)
            refine zb2 (F:=fun W=>W.heap[w1.heap.size+1]?=some (.cells (Rp.cs a1 A2 qs2.length c2 (r.comTo L N)) 33)/\RpF W (w.heap.size+1+1+1) a1 A2 c2 qs2 (r.comTo L N)/\W.heap[w.heap.size]?=some (Rp.obj a A ps.length c r)/\W.heap[w.heap.size+1+1]?=some Rp.zobj/\Ext w W/\w1.heap.size+1 < W.heap.size) ⟨HP8.out,HF8.out,F18.out,F38.out,X8.out,by simpa using l8⟩ ?_
            intro W8 ⟨e3,hf3,f1,f3,x3,l9⟩;have E3:=Hd e3;have HF3:=Hd hf3;have F1:=Hd f1;have F3:=Hd f3;have X3:=Hd x3;clear e3 hf3 f1 f3 x3 HP8 HF8 F18 F38 X8 b8 f8_ l8
            (go_wp2_with (with_reducible refine za5 115 ?_);refine za6 (E3.out) rfl Tryz.underlying33 (by kernel_rfl) ?_;simp only [Act.put,Sa,Sz,Ss])
            have d1:=za2 F1.out;have z1:=bx_lt F1.out;go_wp2_with fail
            refine (HAns.out W8 _ rfl HF3.out.l.rd).mono ?_;rintro e9 w9 ⟨⟨Ao,co,os,rfl,hos,ko⟩,x⟩;have HOS:=Hd hos;have KO:=Hd (ko.less (show w.heap.size+1+1+1<=W8.heap.size by omega))
            obtain ⟨F1,F3,E3,HF3,X3⟩:Hid _/\Hid _/\Hid _/\Hid _/\Hid _:=⟨Hd (x.box F1.out),Hd (x.box F3.out),Hd (x.box E3.out),Hd (HF3.out.keep x),Hd (Ext.trans X3.out x)⟩;have hsz_w9:=x.size
            have hol:os.length<=60:=by
             have h1:=congrArg List.length hos;rw [List.length_map] at h1
             have:=zi5 r.view r.log j0 n0
             omega
            clear hos ko x d1 z1 HAns;obtain ⟨t2,ht2⟩:∃ t,allTo r.me (comM r N) s0=t:=⟨_,rfl⟩;have HT2:=Hd ht2
            have ht2p:t2.length<=5:=by
             rw [<-ht2]
             have:=allTo_len r.me (comM r N) s0
             omega
            clear ht2;obtain ⟨RW,φ,hRb,hRc,hRp,hRm,hRun,hRst,hRfin⟩:=outs_plan2 (B:=w.heap.size+1+1+1) (p:=w.heap.size+1+1) (cs':=Rp.cs a1 A2 qs2.length c2 (r.comTo L N)) KO.out F3.out rfl (by decide) (by decide) (by decide) (by decide) (by decide) t2 (by omega) (by omega)
            have HRc:=Hd hRc;have HRp:=Hd hRp;have HRm:=Hd hRm;have HRun:=Hd hRun;have HRst:=Hd hRst;have HRfin:=Hd hRfin;clear hRc hRp hRm hRun hRst hRfin
            have HLow:=Hd (show ∀ k∈(w.heap.size+1+1)::blk Ao,w.heap.size<=k/\k < w9.heap.size from fun k hk=>by
             rcases List.mem_cons.1 hk with e | hk
             ·rw [e];have:=bx_lt F3.out;omega
             ·have:=KO.out.row.inB k hk;omega)
            have hn1:w1.heap.size+1∉(w.heap.size+1+1)::blk Ao:=fun hm=>by
             rcases List.mem_cons.1 hm with e | hm
             ·omega
             ·exact zam E3.out KO.out.row (by decide) hm
            have hn2:w.heap.size∉(w.heap.size+1+1)::blk Ao:=fun hm=>by
             rcases List.mem_cons.1 hm with e | hm
             ·omega
             ·exact zam F1.out KO.out.row (by decide) hm
            have HW1:=Hd (fun W' (h:RW.rel w9 W')=>zaw (cs:=Rp.cs a1 A2 qs2.length c2 (r.comTo L N)) (zbx E3.out (HRc.out _ _ h) hn1) [] [] rfl rfl)
            have HW2:=Hd (fun W' (h:RW.rel w9 W')=>za2 (zbx F1.out (HRc.out _ _ h) hn2))
            have HAll:=Hd (show ∀ W',RW.rel w9 W'->∀ (av bv:Value),av=Rp.val a1 A2 qs2.length c2 (r.comTo L N)->bv=Mg.val LAd.none (comM r N)->Calls Tryz.prog 30 #[av,bv] W' fun e w'=>∃ v,e = .returned v/\(∃ A c om,v = .slice A (List.length om) c/\List.map Prod.snd om=t2/\OsK w' w9.heap.size A c om)/\RW.rel W' w' from fun W' h av bv h1 h2=>by
             rw [h1,h2]
             exact (zdg a1 A2 qs2.length c2 (r.comTo L N) LAd.none (comM r N) W' s0 HOf.out (by omega) (none_rd _) zi0).mono fun e w' ⟨A',c',os',e1,e2,e3,e4,hx⟩=>⟨_,e1,⟨A',c',os',rfl,e2.trans HT2.out,(show OsK w' W'.heap.size A' c' os' from ⟨e3,e4⟩).less (RW.size _ _ h)⟩,RW.ext _ _ hx⟩)
            have HMc:=Hd (show Rm.Mono RW (fun v W=>∃ A c om,v = .slice A (List.length om) c/\List.map Prod.snd om=t2/\OsK W w9.heap.size A c om) from fun v a b ⟨A,c,om,e1,e2,e3⟩ hx=>⟨A,c,om,e1,e2,e3.chgB (HRc.out _ _ hx) (fun k hk=>(HLow.out k hk).2)⟩)
            clear hn1 hn2;go_wp2
            (refine mrg (RW) (stored (w.heap.size+1+1) (.cells (Rp.cs a1 A2 qs2.length c2 (r.comTo L N)) 33)) 12 ?_;simp only [Tc,Tz,Dc,Dz])
            (refine mla (HW1.out) Tryz.underlying33 ?_;simp only [Act.put,Sa,Sz,Ss])
            (refine mpl ?_;go_big_quiet_step (fail);refine mnil ?_)
            (refine mla (HW1.out) Tryz.underlying33 ?_;simp only [Act.put,Sa,Sz,Ss])
            (refine mpl ?_;go_big_quiet_step (fail);refine mnil ?_)
            (refine ml1 (fun W9' h9=>show W9'.cell? _=some (.int .i64 r.me) from HW2.out W9' h9 0) Tryz.underlying3 ?_;simp only [Act.put,Sa,Sz,Ss])
            (refine mpl ?_;go_big_quiet_step (fail);refine mnil ?_)
            (refine ml1 (fun W9' h9=>show W9'.cell? _=some (.int .i64 r.view) from HW2.out W9' h9 3) Tryz.underlying3 ?_;simp only [Act.put,Sa,Sz,Ss])
            (iterate 2 (refine mpl ?_;go_big_quiet_step (fail);refine mnil ?_))
            refine mcl Tryz.func30 (fun v W=>∃ A c om,v = .slice A (List.length om) c/\List.map Prod.snd om=t2/\OsK W w9.heap.size A c om) HMc.out (fun W' hW'=>HAll.out W' hW' _ _ rfl rfl) (fun v6 hv6=>?_)
            obtain ⟨_,_,A6,c6,om6,rfl,_,_⟩:=hv6;simp only [Act.put,Sa,Sz,Ss];refine re_app _ _ 40 rfl rfl rfl rfl φ HRm.out (fun W hW=>?_) (fun v9=>?_)
            ·obtain ⟨hr,A7,c7,om7,hv,e2,e3⟩:=hW;simp only [Value.slice.injEq] at hv;obtain ⟨rfl,hl,rfl⟩:=hv;have h5:=HRun.out W hr A6 c6 om7 e2 e3;rw [<-hl] at h5;exact h5
            simp only [Act.put,Sa,Sz,Ss];refine re_st F3.out HRp.out HRst.out rfl rfl rfl rfl rfl (by kernel_rfl) rfl (by simp [Value.oneCell']) ?_
            simp only [Act.put,Sa,Sz,Ss];refine Rm.wpMix_nil ?_;rintro W9 ⟨⟨⟨h9,hv6⟩,hv9⟩,e9⟩;have HE9:=Hd e9;obtain ⟨A9,c9,om9,rfl,hom9,hk9⟩:=HRfin.out W9 v9 h9 hv9;have HX9:=Hd (zaf X3.out (HRc.out _ _ h9) (fun g hg=>(HLow.out g hg).1))
            have HT9:=Hd (RoT.of (O:=ansO r.view r.log j0 n0++allTo r.me (comM r N) s0) (HF3.out.other (HRc.out _ _ h9) (fun k hk=>by
             rcases List.mem_cons.1 hk with e | hk
             ·rw [e];exact ⟨_,_,F3.out,by decide,by decide,by decide,by decide⟩
             ·obtain ⟨cs9,h⟩:=KO.out.row.blkT k hk
              exact ⟨cs9,_,h,by decide,by decide,by decide,by decide⟩)) hk9 (by rw [List.map_append,HOS.out,hom9,HT2.out]))
            clear h9 hv6 hv9 e9 hom9 hk9;go_wp2
            refine bodyPost_ret (zax Tryz.results7 rfl rfl Tryz.underlying33 (by kernel_rfl) HE9.out) rfl ⟨_,rfl, ?_,HX9.out⟩
            rw [HQ.out.1,HQ.out.2];exact HT9.out
     ·have hh:decide (m.op<=r.log.fin)=false:=by simp at g4 ⊢;omega
      have HQ:=Hd (show zbu r m 3 (okR r m)=sameR r/\hearO r m 3 (okO r m)=[] by
       rw [HY.out.1,HY.out.2,HS3.out];have hB:okB r m=false:=by unfold okB;simp only [hh,Bool.true_and,Bool.false_and,Bool.and_true,Bool.and_false,Bool.true_or,Bool.false_or,Bool.or_true,Bool.or_false,Bool.not_true,Bool.not_false]
       unfold okR okO;rw [hB]
       exact ⟨rfl,rfl⟩)
      go_wp2
      (refine mrg (relE W3.heap.size) (fun _ _ _=>True) 29 ?_;simp only [Tc,Tz,Dc,Dz])
      (refine mla (fun W9' h9=>zdt F1.out h9) Tryz.underlying33 ?_;simp only [Act.put,Sa,Sz,Ss])
      (refine mla (fun W9' h9=>zi7 F2.out h9) Tryz.underlying37 ?_;simp only [Act.put,Sa,Sz,Ss])
      (refine mdt Tryz.func22 (fun W9' h9=>HHr.out W9' (Ext.trans X3.out h9)) ?_;simp only [Act.put,Sa,Sz,Ss])
      ((try simp only [qh,Bool.not_true,Bool.not_false]);(iterate 2 (refine mpl ?_;go_big_quiet_step (fail);refine mnil ?_));(refine mpl ?_;go_big_quiet_step (fail);refine mnil ?_);(refine ml1 (fun W9' h9=>show W9'.cell? _=some (.int .i64 r.mode) from za2 (Ext.box h9 F1.out) 2) Tryz.underlying3 ?_;simp only [Act.put,Sa,Sz,Ss]);(refine mpl ?_;go_big_quiet_step (fail);refine mnil ?_);(try simp only [g1,Bool.not_true,Bool.not_false]);(iterate 2 (refine mpl ?_;go_big_quiet_step (fail);refine mnil ?_)))
      (refine mla (fun W9' h9=>zdt F1.out h9) Tryz.underlying33 ?_;simp only [Act.put,Sa,Sz,Ss])
      (refine mdt Tryz.func23 (fun W9' h9=>zbq a A _ c r W9' HIV.out.1 HIV.out.2) ?_;simp only [Act.put,Sa,Sz,Ss])
      ((try simp only [g2,Bool.not_true,Bool.not_false]);(iterate 3 (refine mpl ?_;go_big_quiet_step (fail);refine mnil ?_));(refine mpl ?_;go_big_quiet_step (fail);refine mnil ?_);(refine ml1 (fun W9' h9=>show W9'.cell? _=some (.int .i64 m.view) from za2 (Ext.box h9 F2.out) 2) Tryz.underlying3 ?_;simp only [Act.put,Sa,Sz,Ss]);(refine mpl ?_;go_big_quiet_step (fail);refine mnil ?_);(refine ml1 (fun W9' h9=>show W9'.cell? _=some (.int .i64 r.view) from za2 (Ext.box h9 F1.out) 3) Tryz.underlying3 ?_;simp only [Act.put,Sa,Sz,Ss]);(refine mpl ?_;go_big_quiet_step (fail);refine mnil ?_);(try simp only [g3,Bool.not_true,Bool.not_false]);(iterate 2 (refine mpl ?_;go_big_quiet_step (fail);refine mnil ?_));(refine mpl ?_;go_big_quiet_step (fail);refine mnil ?_);(refine ml1 (fun W9' h9=>show W9'.cell? _=some (.int .i64 m.op) from za2 (Ext.box h9 F2.out) 3) Tryz.underlying3 ?_;simp only [Act.put,Sa,Sz,Ss]);(refine mpl ?_;go_big_quiet_step (fail);refine mnil ?_))
      (refine mla (fun W9' h9=>rp_log F1.out h9) Tryz.underlying30 ?_;simp only [Act.put,Sa,Sz,Ss])
      (refine mdt Tryz.func24 (fun W9' h9=>zdy a r.log HRs.out.1 HRs.out.2.1 HRs.out.2.2 W9' (HR.out.l.keep (Ext.trans X3.out h9)) G.out.lok) ?_;simp only [Act.put,Sa,Sz,Ss])
      ((refine mpl ?_;go_big_quiet_step (fail);refine mnil ?_);(try simp only [g4,Bool.not_true,Bool.not_false]);(refine mpl ?_;go_big_quiet_step (fail);refine mnil ?_))
      refine Rm.wpMix_nil ?_;rintro w4 hW;have x:Ext W3 w4:=hW;obtain ⟨F1,F2,F3,E3,FS,HF3,X3⟩:Hid _/\Hid _/\Hid _/\Hid _/\Hid _/\Hid _/\Hid _:=⟨Hd (x.box F1.out),Hd (x.box F2.out),Hd (x.box F3.out),Hd (x.box E3.out),Hd (FS.out.keep x),Hd (HF3.out.keep x),Hd (Ext.trans X3.out x)⟩;have hsz_w4:=x.size;clear x hW;clear HHr
      (go_wp2_with (with_reducible refine za5 44 ?_);refine za6 (E3.out) rfl Tryz.underlying33 (by kernel_rfl) ?_;simp only [Act.put,Sa,Sz,Ss])
      (go_wp2_with (with_reducible refine za8 33 ?_);refine za3 ((w.heap.size+1+1)) (Rp.cs a1 A1 qs.length c1 (sameR r)) rfl rfl (F3.out) (by kernel_rfl) rfl (by simp [Value.oneCell']) ?_)
      intro W9 e9 k9;have X9:=Hd (zac X3.out k9 (by omega))
      have HE9:=Hd e9;have HT9:=Hd (RoT.of (O:=[]) (HF3.out.boxed F3.out k9) (FS.out.boxed F3.out (by decide) (by decide) (by decide) (by decide) k9) rfl)
      clear e9 k9;go_wp2
      refine bodyPost_ret (zax Tryz.results7 rfl rfl Tryz.underlying33 (by kernel_rfl) HE9.out) rfl ⟨_,rfl, ?_,X9.out⟩
      rw [HQ.out.1,HQ.out.2];exact HT9.out
    ·have hh:(m.view == r.view)=false:=by simpa using g3
     have HQ:=Hd (show zbu r m 3 (okR r m)=sameR r/\hearO r m 3 (okO r m)=[] by
      rw [HY.out.1,HY.out.2,HS3.out];have hB:okB r m=false:=by unfold okB;simp only [hh,Bool.true_and,Bool.false_and,Bool.and_true,Bool.and_false,Bool.true_or,Bool.false_or,Bool.or_true,Bool.or_false,Bool.not_true,Bool.not_false]
      unfold okR okO;rw [hB]
      exact ⟨rfl,rfl⟩)
     go_wp2
     (refine mrg (relE W3.heap.size) (fun _ _ _=>True) 29 ?_;simp only [Tc,Tz,Dc,Dz])
     (refine mla (fun W9' h9=>zdt F1.out h9) Tryz.underlying33 ?_;simp only [Act.put,Sa,Sz,Ss])
     (refine mla (fun W9' h9=>zi7 F2.out h9) Tryz.underlying37 ?_;simp only [Act.put,Sa,Sz,Ss])
     (refine mdt Tryz.func22 (fun W9' h9=>HHr.out W9' (Ext.trans X3.out h9)) ?_;simp only [Act.put,Sa,Sz,Ss])
     ((try simp only [qh,Bool.not_true,Bool.not_false]);(iterate 2 (refine mpl ?_;go_big_quiet_step (fail);refine mnil ?_));(refine mpl ?_;go_big_quiet_step (fail);refine mnil ?_);(refine ml1 (fun W9' h9=>show W9'.cell? _=some (.int .i64 r.mode) from za2 (Ext.box h9 F1.out) 2) Tryz.underlying3 ?_;simp only [Act.put,Sa,Sz,Ss]);(refine mpl ?_;go_big_quiet_step (fail);refine mnil ?_);(try simp only [g1,Bool.not_true,Bool.not_false]);(iterate 2 (refine mpl ?_;go_big_quiet_step (fail);refine mnil ?_)))
     (refine mla (fun W9' h9=>zdt F1.out h9) Tryz.underlying33 ?_;simp only [Act.put,Sa,Sz,Ss])
     (refine mdt Tryz.func23 (fun W9' h9=>zbq a A _ c r W9' HIV.out.1 HIV.out.2) ?_;simp only [Act.put,Sa,Sz,Ss])
     ((try simp only [g2,Bool.not_true,Bool.not_false]);(iterate 3 (refine mpl ?_;go_big_quiet_step (fail);refine mnil ?_));(refine mpl ?_;go_big_quiet_step (fail);refine mnil ?_);(refine ml1 (fun W9' h9=>show W9'.cell? _=some (.int .i64 m.view) from za2 (Ext.box h9 F2.out) 2) Tryz.underlying3 ?_;simp only [Act.put,Sa,Sz,Ss]);(refine mpl ?_;go_big_quiet_step (fail);refine mnil ?_);(refine ml1 (fun W9' h9=>show W9'.cell? _=some (.int .i64 r.view) from za2 (Ext.box h9 F1.out) 3) Tryz.underlying3 ?_;simp only [Act.put,Sa,Sz,Ss]);(refine mpl ?_;go_big_quiet_step (fail);refine mnil ?_);(try simp only [g3,Bool.not_true,Bool.not_false]);(iterate 2 (refine mpl ?_;go_big_quiet_step (fail);refine mnil ?_));(iterate 6 (refine msk ?_;simp only [Act.put,Sa,Sz,Ss]));(refine mpl ?_;go_big_quiet_step (fail);refine mnil ?_))
     refine Rm.wpMix_nil ?_;rintro w4 hW;have x:Ext W3 w4:=hW;obtain ⟨F1,F2,F3,E3,FS,HF3,X3⟩:Hid _/\Hid _/\Hid _/\Hid _/\Hid _/\Hid _/\Hid _:=⟨Hd (x.box F1.out),Hd (x.box F2.out),Hd (x.box F3.out),Hd (x.box E3.out),Hd (FS.out.keep x),Hd (HF3.out.keep x),Hd (Ext.trans X3.out x)⟩;have hsz_w4:=x.size;clear x hW;clear HHr
     (go_wp2_with (with_reducible refine za5 44 ?_);refine za6 (E3.out) rfl Tryz.underlying33 (by kernel_rfl) ?_;simp only [Act.put,Sa,Sz,Ss])
     (go_wp2_with (with_reducible refine za8 33 ?_);refine za3 ((w.heap.size+1+1)) (Rp.cs a1 A1 qs.length c1 (sameR r)) rfl rfl (F3.out) (by kernel_rfl) rfl (by simp [Value.oneCell']) ?_)
     intro W9 e9 k9;have X9:=Hd (zac X3.out k9 (by omega))
     have HE9:=Hd e9;have HT9:=Hd (RoT.of (O:=[]) (HF3.out.boxed F3.out k9) (FS.out.boxed F3.out (by decide) (by decide) (by decide) (by decide) k9) rfl)
     clear e9 k9;go_wp2
     refine bodyPost_ret (zax Tryz.results7 rfl rfl Tryz.underlying33 (by kernel_rfl) HE9.out) rfl ⟨_,rfl, ?_,X9.out⟩
     rw [HQ.out.1,HQ.out.2];exact HT9.out
  ·have hh:(r.mode == 1)=false:=by simpa using g1
   have HQ:=Hd (show zbu r m 3 (okR r m)=sameR r/\hearO r m 3 (okO r m)=[] by
    rw [HY.out.1,HY.out.2,HS3.out];have hB:okB r m=false:=by unfold okB;simp only [hh,Bool.true_and,Bool.false_and,Bool.and_true,Bool.and_false,Bool.true_or,Bool.false_or,Bool.or_true,Bool.or_false,Bool.not_true,Bool.not_false]
    unfold okR okO;rw [hB]
    exact ⟨rfl,rfl⟩)
   go_wp2
   (refine mrg (relE W3.heap.size) (fun _ _ _=>True) 29 ?_;simp only [Tc,Tz,Dc,Dz])
   (refine mla (fun W9' h9=>zdt F1.out h9) Tryz.underlying33 ?_;simp only [Act.put,Sa,Sz,Ss])
   (refine mla (fun W9' h9=>zi7 F2.out h9) Tryz.underlying37 ?_;simp only [Act.put,Sa,Sz,Ss])
   (refine mdt Tryz.func22 (fun W9' h9=>HHr.out W9' (Ext.trans X3.out h9)) ?_;simp only [Act.put,Sa,Sz,Ss])
   ((try simp only [qh,Bool.not_true,Bool.not_false]);(iterate 2 (refine mpl ?_;go_big_quiet_step (fail);refine mnil ?_));(refine mpl ?_;go_big_quiet_step (fail);refine mnil ?_);(refine ml1 (fun W9' h9=>show W9'.cell? _=some (.int .i64 r.mode) from za2 (Ext.box h9 F1.out) 2) Tryz.underlying3 ?_;simp only [Act.put,Sa,Sz,Ss]);(refine mpl ?_;go_big_quiet_step (fail);refine mnil ?_);(try simp only [g1,Bool.not_true,Bool.not_false]);(iterate 2 (refine mpl ?_;go_big_quiet_step (fail);refine mnil ?_));(iterate 3 (refine msk ?_;simp only [Act.put,Sa,Sz,Ss]));(iterate 2 (refine mpl ?_;go_big_quiet_step (fail);refine mnil ?_));(iterate 5 (refine msk ?_;simp only [Act.put,Sa,Sz,Ss]));(iterate 2 (refine mpl ?_;go_big_quiet_step (fail);refine mnil ?_));(iterate 6 (refine msk ?_;simp only [Act.put,Sa,Sz,Ss]));(refine mpl ?_;go_big_quiet_step (fail);refine mnil ?_))
   refine Rm.wpMix_nil ?_;rintro w4 hW;have x:Ext W3 w4:=hW;obtain ⟨F1,F2,F3,E3,FS,HF3,X3⟩:Hid _/\Hid _/\Hid _/\Hid _/\Hid _/\Hid _/\Hid _:=⟨Hd (x.box F1.out),Hd (x.box F2.out),Hd (x.box F3.out),Hd (x.box E3.out),Hd (FS.out.keep x),Hd (HF3.out.keep x),Hd (Ext.trans X3.out x)⟩;have hsz_w4:=x.size;clear x hW;clear HHr
   (go_wp2_with (with_reducible refine za5 44 ?_);refine za6 (E3.out) rfl Tryz.underlying33 (by kernel_rfl) ?_;simp only [Act.put,Sa,Sz,Ss])
   (go_wp2_with (with_reducible refine za8 33 ?_);refine za3 ((w.heap.size+1+1)) (Rp.cs a1 A1 qs.length c1 (sameR r)) rfl rfl (F3.out) (by kernel_rfl) rfl (by simp [Value.oneCell']) ?_)
   intro W9 e9 k9;have X9:=Hd (zac X3.out k9 (by omega))
   have HE9:=Hd e9;have HT9:=Hd (RoT.of (O:=[]) (HF3.out.boxed F3.out k9) (FS.out.boxed F3.out (by decide) (by decide) (by decide) (by decide) k9) rfl)
   clear e9 k9;go_wp2
   refine bodyPost_ret (zax Tryz.results7 rfl rfl Tryz.underlying33 (by kernel_rfl) HE9.out) rfl ⟨_,rfl, ?_,X9.out⟩
   rw [HQ.out.1,HQ.out.2];exact HT9.out
end Go.Proofs.YtckfjploafhenaaGreat
