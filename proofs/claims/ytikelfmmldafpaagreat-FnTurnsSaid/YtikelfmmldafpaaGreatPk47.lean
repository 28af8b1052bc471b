/- The keeper turns to a view. -/
import Derived.Test.YtikelfmmldafpaaGreatPk46
namespace Go.Proofs.YtikelfmmldafpaaGreat
open Go.ChangeShapes Go.WideShapes Go.ChangeAt Go.RowKit Go.Sort
set_option linter.unusedVariables false
set_option linter.unusedSimpArgs false
theorem row_log {w:World} {A:Option Addr} {c:Nat} {qs:List VtE} (hr:Rd VtE.enc 10 w A c qs) {k:Nat} (hk:k < qs.length):∃ ab ao,A=some ⟨ab,ao,none⟩∧∀ W,Ext w W→∀ j v,(Lg.cs qs[k].1 qs[k].2.log).toList[j]?=some v→W.cell? ⟨ab,ao+k * 10+6+j,none⟩=some v:=by
 obtain ⟨b,o,e,hb,hc⟩:=hr.2.2 (by omega)
 refine ⟨b,o,e,fun W hW j v hv=>?_⟩
 have hj:j < 4:=by
  have:=(List.getElem?_eq_some_iff.1 hv).1
  simpa using this
 have h1:=hc k hk (6+j) v (by
  rw [←hv]
  rcases j with _ | _ | _ | _ | j
  ·rfl
  ·rfl
  ·rfl
  ·rfl
  ·omega)
 have h2:=(Below.cell hW (p:=⟨b,o+k * 10+(6+j),none⟩) hb).trans h1
 rw [Nat.add_assoc (o+k * 10) 6 j]
 exact h2
abbrev lgZ:Obj := .cells #[.int .i64 0, .slice none 0 0, .slice none 0 0, .slice none 0 0] 30
section
variable {W0 w:World} {p:Nat} {a:LAd} {A:Option Addr} {c:Nat} {qs:List VtE} {R:Rp} {Ao:Option Addr} {co:Nat} {os:List OtE}
theorem bestLog_at {b:Nat} (h:bestL R.votes=b) (hb:b < R.votes.length):bestLog R.votes=R.votes[b].log:=by
 unfold bestLog
 rw [h]
 simp [hb]
theorem kq_at (he:qs.map Prod.snd=R.votes) {k:Nat} (hk:k < qs.length):∃ h:k < R.votes.length,R.votes[k]=qs[k].2:=by
 have hl:R.votes.length=qs.length:=by rw [←he,List.length_map]
 exact ⟨by omega,by simp [←he]⟩
set_option maxRecDepth 100000 in
set_option maxHeartbeats 8000000 in
theorem c_start (hk:KZ W0 w p a A c qs R Ao co os) (ht:RpT R) (hc:0 < cntV 6 R.votes) (hos:os.length≤40000) :
  Calls Tryz.prog 85 #[.pointer (some ⟨p,0,none⟩)] w fun e w'=>e = .returned (.tuple #[])∧∃ a' A' c' os',KZ W0 w' p a' none 0 [] (startX R) A' c' (os++os')∧List.map Prod.snd os'=allTo R.me (startM (startX R)) R.of.toNat:=by
 have hL:=hk.qlen
 have HK:=Hd hk
 have HT:=Hd ht
 have hr:=hk.rp.v.rd
 have HR:=Hd hr
 have hv20:=ht.votes
 have hq20:qs.length≤20:=by omega
 have HE:=Hd (fun k (h:k < qs.length)=>kq_at (R:=R) hk.rp.e h)
 have HS:=Hd (show LgS qs from fun q hq=>logOk_small (ht.vok q.2 (by rw [←hk.rp.e];exact List.mem_map_of_mem hq)).1)
 have HM:=Hd (fun k=>maxDo_b (l:=R.votes) (fun v hv=>by have:=ht.vok v hv;have:=logOk_facts (this.1);omega) k)
 have HB:=Hd (bestV_L hk.rp.e)
 obtain ⟨b,hb,hbl⟩:=best_there hv20 (fun v hv=>(ht.vok v hv).1) hc
 have HBL:=Hd (show bestLog R.votes=R.votes[b].log from bestLog_at hb hbl)
 have HBB:=Hd hb
 have hlok:=ht.vok _ (List.getElem_mem hbl)
 have HLok:=Hd hlok
 obtain ⟨hl0,hl1,hl2,hl3⟩:=logOk_facts hlok.1
 have hbq:b < qs.length:=by omega
 obtain ⟨hb2,hbe⟩:=HE.out b hbq
 have HBE:=Hd hbe
 rw [hbe] at hl0 hl1 hl2 hl3
 have d:=bx_cell hk.box
 have z:=bx_lt hk.box
 have hof:=ht.of
 have ho2:(R.of == 0)=false:=by simp;omega
 have HOf:=Hd hof
 clear hk ht hr hlok hbe hb hof
 go_enter Tryz.func85,Tryz.ntmps85
 go_wp2
 go_loopw [2,12] (fun n i wr=>∃ k:Nat,k≤qs.length∧i = .int .i64 k∧n = .int .i64 (maxDo R.votes k)∧Ext w wr) (fun _ i _=>qs.length - (intOf i).toNat)
 case atStart=>exact ⟨0,Nat.zero_le _,rfl,rfl,ext_refl _⟩
 case round =>
  obtain ⟨k,hk,rfl,rfl,X⟩:=hrel
  clear d z
  by_cases hlt:k < qs.length
  ·obtain ⟨ab,ao,hA,hab,a0,a1,a2,a3,a4,a5,a6,a7,a8,a9⟩:=(HR.out.1.keep X).atVtE hlt
   subst hA
   obtain ⟨h2,h3⟩:=HE.out k hlt
   cases g1:(qs[k].2.kind == 6)
   ·have HN:=Hd (show maxDo R.votes (k+1)=maxDo R.votes k by rw [maxDo_next h2,h3,g1];rfl)
    clear h3
    go_wp2
    go_roundw
    case rel=>exact ⟨k+1,by omega,by go_num,by rw [HN.out],Ext.trans X (ext_alloc _ _)⟩
    case measure=>simp [intOf] <;> omega
   ·have HN:=Hd (show maxDo R.votes (k+1)=max (maxDo R.votes k) qs[k].2.commit by rw [maxDo_next h2,h3,g1];rfl)
    clear h3
    go_wp2
    go_roundw
    case rel=>exact ⟨k+1,by omega,by go_num,by rw [HN.out],Ext.trans X (ext_alloc _ _)⟩
    case measure=>simp [intOf] <;> omega
  ·obtain rfl:k=qs.length:=by omega
   have K1:=Hd (HK.out.keep X)
   have HR1:=Hd (HR.out.keep X)
   have HN:=Hd (show maxDo R.votes qs.length=maxDo R.votes R.votes.length by rw [hL])
   obtain ⟨ab,ao,hA,hrow⟩:=row_log HR1.out.1 hbq
   have HA:=Hd hA
   have HRow:=Hd hrow
   have HBv:=Hd (show ∀ W,Ext wr W→Calls Tryz.prog 129 #[.slice A qs.length c] W fun e w'=>e = .returned (.int .i64 (b:Int))∧Ext W w' from fun W h=>by
    have h5:=c_iBestVote A c qs W (HR1.out.keep h) HS.out (by omega)
    rw [HB.out,HBB.out] at h5
    exact h5)
   clear hA hrow HK X
   go_wp2
   (refine Rm.wp_region_mix' (R:=relE wr.heap.size) (fun _ _ _=>True) (fun _ _ _ _ _ hq=>hq) 15 (by first | exact Nat.le_refl _ | omega | (simp;omega)) (by kernel_rfl) (by kernel_rfl) ?_;simp only [Tc,Tz,Dc,Dz])
   ((iterate 1 (refine Rm.wpMix_plain rfl rfl ?_;go_big_quiet_step (fail);refine wpQuiet_nil ?_));(refine Rm.wpMix_nilp rfl rfl rfl ?_;simp only [Act.put,Sa,Sz,Ss]);(iterate 2 (refine Rm.wpMix_plain rfl rfl ?_;go_big_quiet_step (fail);refine wpQuiet_nil ?_)))
   (refine Rm.wpMix_load1 (fun W9' h9=>show W9'.cell? _=some (.slice A qs.length c) from bx_cell (Ext.box h9 K1.out.box) 10) rfl rfl rfl Tryz.underlying31 rfl ?_;simp only [Act.put,Sa,Sz,Ss])
   ((iterate 1 (refine Rm.wpMix_plain rfl rfl ?_;go_big_quiet_step (fail);refine wpQuiet_nil ?_));(refine Rm.wpMix_nilp rfl rfl rfl ?_;simp only [Act.put,Sa,Sz,Ss]);(iterate 2 (refine Rm.wpMix_plain rfl rfl ?_;go_big_quiet_step (fail);refine wpQuiet_nil ?_)))
   (refine Rm.wpMix_load1 (fun W9' h9=>show W9'.cell? _=some (.slice A qs.length c) from bx_cell (Ext.box h9 K1.out.box) 10) rfl rfl rfl Tryz.underlying31 rfl ?_;simp only [Act.put,Sa,Sz,Ss])
   (refine Rm.wpMix_det rfl rfl rfl (enters Tryz.func129 (by kernel_rfl) rfl) (fun W9' h9=>HBv.out W9' h9) rfl ?_;simp only [Act.put,Sa,Sz,Ss])
   rw [HA.out]
   (iterate 2 (refine Rm.wpMix_plain rfl rfl ?_;go_big_quiet_step (fail);refine wpQuiet_nil ?_))
   (refine Rm.wpMix_loadAgg (fun W9' h9=>HRow.out W9' h9) rfl rfl rfl Tryz.underlying30 (by kernel_rfl) ?_;simp only [Act.put,Sa,Sz,Ss])
   (refine Rm.wpMix_alloc (lgZ) rfl (fun W=>by kernel_rfl) ?_;intro p5 hp5 hps5 hpi5;simp only [layVal,Act.put,Sa,Sz,Ss])
   refine Rm.wpMix_nil ?_
   rintro w2 ⟨h2,hz2⟩
   have x2:Ext wr w2:=h2
   have hp5':wr.heap.size≤p5:=hp5
   have HZ2:=Hd hz2
   have X2:=Hd x2
   clear h2 hz2 x2 hp5 hps5 hpi5 HRow HBv HR1
   (go_wp2_with (with_reducible refine wl_stopS 30 ?_);refine stop_store (p5) (Lg.cs qs[b].1 qs[b].2.log) rfl rfl (HZ2.out) (by kernel_rfl) rfl (by simp [Value.oneCell']) ?_)
   intro w3 e3 k3
   have K3:=Hd (K1.out.keep (ext_chg X2.out k3 (fun g hg=>by rw [Mi] at hg;omega)))
   have E3:=Hd e3
   have d3:=bx_cell K3.out.box
   have z3:=bx_lt K3.out.box
   clear e3 k3 K1 X2 HZ2
   simp only [Act.put,Sa,Sz,Ss]
   cases g1:(R.of == 1)
   ·have HX:=Hd (show R.lead R.view qs[b].2.log (maxDo R.votes qs.length)=startX R by
     unfold startX newC
     rw [HBL.out,HBE.out,HN.out,g1];rfl)
    go_wp2
    clear d3 z3
    (refine Rm.wp_region_mix' (R:=relE w3.heap.size) (fun _ _ _=>True) (fun _ _ _ _ _ hq=>hq) 8 (by first | exact Nat.le_refl _ | omega | (simp;omega)) (by kernel_rfl) (by kernel_rfl) ?_;simp only [Tc,Tz,Dc,Dz])
    ((iterate 2 (refine Rm.wpMix_plain rfl rfl ?_;go_big_quiet_step (fail);refine wpQuiet_nil ?_));(refine Rm.wpMix_nilp rfl rfl rfl ?_;simp only [Act.put,Sa,Sz,Ss]);(iterate 2 (refine Rm.wpMix_plain rfl rfl ?_;go_big_quiet_step (fail);refine wpQuiet_nil ?_));(refine Rm.wpMix_load1 (fun W9' h9=>show W9'.cell? _=some (.int .i64 R.view) from bx_cell (Ext.box h9 K3.out.box) 3) rfl rfl rfl Tryz.underlying3 rfl ?_;simp only [Act.put,Sa,Sz,Ss]))
    (refine Rm.wpMix_loadAgg (fun W9' h9=>cells_mid (cs:=Lg.cs qs[b].1 qs[b].2.log) (Ext.box h9 E3.out) [] [] rfl rfl) rfl rfl rfl Tryz.underlying30 (by kernel_rfl) ?_;simp only [Act.put,Sa,Sz,Ss])
    (iterate 1 (refine Rm.wpMix_plain rfl rfl ?_;go_big_quiet_step (fail);refine wpQuiet_nil ?_))
    refine Rm.wpMix_nil ?_
    rintro w5 hW
    have K5:=Hd (K3.out.keep (show Ext w3 w5 from hW))
    clear K3 E3 hW
    go_wp2_with fail
    refine (c_lead K5.out R.view qs[b].1 qs[b].2.log (maxDo R.votes qs.length) (fun W hc=>(LgO.chg (K5.out.rp.v.l _ (List.getElem_mem hbq)) hc (fun k hk hm=>by rw [Mi] at hm;subst hm;exact lg_box_apart K5.out.box (K5.out.rp.v.l _ (List.getElem_mem hbq)) (by decide) (by decide) (by decide) hk)).rd) (HS.out _ (List.getElem_mem hbq)) hl0 hl1 hl2).mono ?_
    rintro e w6 ⟨rfl,a6,k6⟩
    rw [HX.out] at k6
    have K6:=Hd k6
    clear k6 K5
    go_wp2_with fail
    refine (c_startMsg K6.out.box).mono ?_
    rintro e w7 ⟨rfl,x7⟩
    have K7:=Hd (K6.out.keep x7)
    clear K6 x7
    go_wp2_with fail
    refine (c_sendAllZ W0 p a6 none 0 [] (startX R) os Ao co a6 (startM (startX R)) w7 W0.heap.size R.of.toNat K7.out (show R.of=_ by have:=HOf.out;omega) (by have:=HOf.out;omega) K7.out.rp.l.lgF (show (startX R).log.small by rw [←HX.out];exact HS.out _ (List.getElem_mem hbq)) (by omega)).mono ?_
    rintro e w8 ⟨rfl,A8,c8,os8,k8,ho8⟩
    have K8:=Hd k8
    have HO8:=Hd ho8
    clear k8 ho8 K7
    go_wp2
    exact bodyPost_end (v := .tuple #[]) (by simp [results,Tryz.results85,go_sem]) rfl ⟨rfl,a6,A8,c8,os8,K8.out,HO8.out⟩
   ·have HX:=Hd (show R.lead R.view qs[b].2.log qs[b].2.log.fin=startX R by
     unfold startX newC
     rw [HBL.out,HBE.out,g1];rfl)
    (go_wp2_with (with_reducible refine wl_stop 44 ?_);refine stop_load (E3.out) rfl Tryz.underlying30 (by kernel_rfl) ?_;simp only [Act.put,Sa,Sz,Ss])
    go_wp2_with fail
    refine (c_end qs[b].1 qs[b].2.log _ (by omega) (by omega) (by omega)).mono ?_
    rintro e w4 ⟨rfl,x4⟩
    have K4:=Hd (K3.out.keep x4)
    have E4:=Hd (x4.box E3.out)
    clear K3 E3 d3 z3 x4
    go_wp2
    (refine Rm.wp_region_mix' (R:=relE w4.heap.size) (fun _ _ _=>True) (fun _ _ _ _ _ hq=>hq) 8 (by first | exact Nat.le_refl _ | omega | (simp;omega)) (by kernel_rfl) (by kernel_rfl) ?_;simp only [Tc,Tz,Dc,Dz])
    ((iterate 2 (refine Rm.wpMix_plain rfl rfl ?_;go_big_quiet_step (fail);refine wpQuiet_nil ?_));(refine Rm.wpMix_nilp rfl rfl rfl ?_;simp only [Act.put,Sa,Sz,Ss]);(iterate 2 (refine Rm.wpMix_plain rfl rfl ?_;go_big_quiet_step (fail);refine wpQuiet_nil ?_));(refine Rm.wpMix_load1 (fun W9' h9=>show W9'.cell? _=some (.int .i64 R.view) from bx_cell (Ext.box h9 K4.out.box) 3) rfl rfl rfl Tryz.underlying3 rfl ?_;simp only [Act.put,Sa,Sz,Ss]))
    (refine Rm.wpMix_loadAgg (fun W9' h9=>cells_mid (cs:=Lg.cs qs[b].1 qs[b].2.log) (Ext.box h9 E4.out) [] [] rfl rfl) rfl rfl rfl Tryz.underlying30 (by kernel_rfl) ?_;simp only [Act.put,Sa,Sz,Ss])
    (iterate 1 (refine Rm.wpMix_plain rfl rfl ?_;go_big_quiet_step (fail);refine wpQuiet_nil ?_))
    refine Rm.wpMix_nil ?_
    rintro w5 hW
    have K5:=Hd (K4.out.keep (show Ext w4 w5 from hW))
    clear K4 E4 hW
    go_wp2_with fail
    refine (c_lead K5.out R.view qs[b].1 qs[b].2.log (qs[b].2.log.fin) (fun W hc=>(LgO.chg (K5.out.rp.v.l _ (List.getElem_mem hbq)) hc (fun k hk hm=>by rw [Mi] at hm;subst hm;exact lg_box_apart K5.out.box (K5.out.rp.v.l _ (List.getElem_mem hbq)) (by decide) (by decide) (by decide) hk)).rd) (HS.out _ (List.getElem_mem hbq)) hl0 hl1 hl2).mono ?_
    rintro e w6 ⟨rfl,a6,k6⟩
    rw [HX.out] at k6
    have K6:=Hd k6
    clear k6 K5
    go_wp2_with fail
    refine (c_startMsg K6.out.box).mono ?_
    rintro e w7 ⟨rfl,x7⟩
    have K7:=Hd (K6.out.keep x7)
    clear K6 x7
    go_wp2_with fail
    refine (c_sendAllZ W0 p a6 none 0 [] (startX R) os Ao co a6 (startM (startX R)) w7 W0.heap.size R.of.toNat K7.out (show R.of=_ by have:=HOf.out;omega) (by have:=HOf.out;omega) K7.out.rp.l.lgF (show (startX R).log.small by rw [←HX.out];exact HS.out _ (List.getElem_mem hbq)) (by omega)).mono ?_
    rintro e w8 ⟨rfl,A8,c8,os8,k8,ho8⟩
    have K8:=Hd k8
    have HO8:=Hd ho8
    clear k8 ho8 K7
    go_wp2
    exact bodyPost_end (v := .tuple #[]) (by simp [results,Tryz.results85,go_sem]) rfl ⟨rfl,a6,A8,c8,os8,K8.out,HO8.out⟩
theorem KZ.cast {R':Rp} (h:KZ W0 w p a A c qs R Ao co os) (e:R=R'):KZ W0 w p a A c qs R' Ao co os:=e▸h
theorem votes_rd (hk:KZ W0 w p a A c qs R Ao co os):Rd VtE.enc 10 w A c qs:=hk.rp.v.rd.1
set_option maxRecDepth 100000 in
set_option maxHeartbeats 16000000 in
theorem c_look (hk:KZ W0 w p a A c qs R Ao co os) (ht:RpT R) (hos:os.length≤30000) :
  Calls Tryz.prog 49 #[.pointer (some ⟨p,0,none⟩)] w fun e w'=>e = .returned (.tuple #[])∧∃ a' A' c' qs' A2 c2 os',KZ W0 w' p a' A' c' qs' (lookR R) A2 c2 (os++os')∧List.map Prod.snd os'=lookO R:=by
 have HK:=Hd hk
 have HT:=Hd ht
 have HT1:=Hd ht.look1
 have HI:=Hd (look1_id R)
 have hq20:qs.length≤20:=by have:=hk.qlen;have:=ht.votes;omega
 have hof:=ht.of
 have ho2:(R.of == 0)=false:=by simp;omega
 have hof':R.of≠0:=by omega
 have HOf:=Hd hof
 have hv0:=ht.view0
 clear hk ht hof
 go_enter Tryz.func49,Tryz.ntmps49
 go_wp2_with fail
 refine (c_count 5 p a A c qs R _ w HK.out.box (votes_rd HK.out) HK.out.rp.e (by omega)).mono ?_
 rintro e w1 ⟨rfl,x1⟩
 have K1:=Hd (HK.out.keep x1)
 clear HK x1
 go_wp2_with fail
 refine (c_half p a A qs.length c R _ w1 K1.out.box HOf.out).mono ?_
 rintro e w2 ⟨rfl,x2⟩
 have K2:=Hd (K1.out.keep x2)
 have d2:=bx_cell K2.out.box
 have z2:=bx_lt K2.out.box
 clear K1 x2
 cases g1:decide ((R.of - 1) / 2≤(cntV 5 R.votes:Int))
 ·have hB1:look1B R=false:=by unfold look1B halfI;rw [g1];rfl
  have hl1:look1 R=R:=by simp only [look1,hB1,Bool.true_and,Bool.false_and,Bool.and_true,Bool.and_false,Bool.not_true,Bool.not_false,Bf,if_false,if_true,eq_self,List.append_nil,List.nil_append,List.cons_append,List.map_nil,List.map_cons]
  have HO1:=Hd (show look1O R=[] by simp only [look1O,hB1,Bool.true_and,Bool.false_and,Bool.and_true,Bool.and_false,Bool.not_true,Bool.not_false,Bf,if_false,if_true,eq_self,List.append_nil,List.nil_append,List.cons_append,List.map_nil,List.map_cons])
  have K4:=Hd (show KZ W0 w2 p a A c qs (look1 R) Ao co os by rw [hl1];exact K2.out)
  clear hB1 hl1 K2 d2 z2
  go_wp2_with fail
  refine (c_isPrimary p a A qs.length c (look1 R) _ _ K4.out.box HT1.out.of HT1.out.view0).mono ?_
  rintro e v1 ⟨rfl,y1⟩
  have J1:=Hd (K4.out.keep y1)
  clear K4 y1
  cases gl:leadsB (look1 R)
  ·have HF:=Hd (show look1 R=lookR R∧List.map Prod.snd ([]:List OtE)=lookO R by
   have hb:look2B (look1 R)=false:=by unfold look2B halfI;rw [gl];rfl
   constructor <;> simp only [lookR,lookO,hb,HO1.out,Bool.true_and,Bool.false_and,Bool.and_true,Bool.and_false,Bool.not_true,Bool.not_false,Bf,if_false,if_true,eq_self,List.append_nil,List.nil_append,List.cons_append,List.map_nil,List.map_cons])
   go_wp2
   exact bodyPost_end (v := .tuple #[]) (by simp [results,Tryz.results49,go_sem]) rfl ⟨rfl,a,A,c,qs,Ao,co,[],by rw [List.append_nil];exact J1.out.cast HF.out.1,HF.out.2⟩
  ·go_wp2_with fail
   refine (c_count 6 p a A c qs (look1 R) _ _ J1.out.box (votes_rd J1.out) J1.out.rp.e (by have:=J1.out.qlen;have:=HT1.out.votes;omega)).mono ?_
   rintro e v2 ⟨rfl,y2⟩
   have J2:=Hd (J1.out.keep y2)
   clear J1 y2
   go_wp2_with fail
   refine (c_half p a A qs.length c (look1 R) _ v2 J2.out.box HT1.out.of).mono ?_
   rintro e v3 ⟨rfl,y3⟩
   have J3:=Hd (J2.out.keep y3)
   clear J2 y3
   cases g5:decide (((look1 R).of - 1) / 2 < (cntV 6 (look1 R).votes:Int))
   ·have HF:=Hd (show look1 R=lookR R∧List.map Prod.snd ([]:List OtE)=lookO R by
    have hb:look2B (look1 R)=false:=by unfold look2B halfI;rw [gl,g5];rfl
    constructor <;> simp only [lookR,lookO,hb,HO1.out,Bool.true_and,Bool.false_and,Bool.and_true,Bool.and_false,Bool.not_true,Bool.not_false,Bf,if_false,if_true,eq_self,List.append_nil,List.nil_append,List.cons_append,List.map_nil,List.map_cons])
    go_wp2
    exact bodyPost_end (v := .tuple #[]) (by simp [results,Tryz.results49,go_sem]) rfl ⟨rfl,a,A,c,qs,Ao,co,[],by rw [List.append_nil];exact J3.out.cast HF.out.1,HF.out.2⟩
   ·have hb:look2B (look1 R)=true:=by unfold look2B halfI;rw [gl,g5];rfl
    have HF:=Hd (show startX (look1 R)=lookR R∧allTo (look1 R).me (startM (startX (look1 R))) (look1 R).of.toNat=lookO R by
     constructor <;> simp only [lookR,lookO,hb,HO1.out,HI.out.1,HI.out.2.1,Bool.true_and,Bool.false_and,Bool.and_true,Bool.and_false,Bool.not_true,Bool.not_false,Bf,if_false,if_true,eq_self,List.append_nil,List.nil_append,List.cons_append,List.map_nil,List.map_cons])
    have hcp:0 < cntV 6 (look1 R).votes:=by have:=HT1.out.of;simp at g5;omega
    clear hb
    go_wp2_with fail
    refine (c_start J3.out HT1.out hcp (by omega)).mono ?_
    rintro e v4 ⟨rfl,a9,A9,c9,os9,k9,ho9⟩
    rw [HF.out.2] at ho9
    have K9:=Hd (k9.cast HF.out.1)
    have HO9:=Hd ho9
    clear k9 ho9 J3 hcp
    go_wp2
    exact bodyPost_end (v := .tuple #[]) (by simp [results,Tryz.results49,go_sem]) rfl ⟨rfl,a9,none,0,[],A9,c9,os9,K9.out,HO9.out⟩
 ·go_wp2_with fail
  refine (c_find 6 R.me p a A c qs R _ w2 K2.out.box (votes_rd K2.out) K2.out.rp.e (by omega)).mono ?_
  rintro e w3 ⟨rfl,x3⟩
  have K3:=Hd (K2.out.keep x3)
  clear K2 x3
  cases g2:decide (findV 6 R.me R.votes < 0)
  ·have hB1:look1B R=false:=by unfold look1B halfI;rw [g1,g2];rfl
   have hl1:look1 R=R:=by simp only [look1,hB1,Bool.true_and,Bool.false_and,Bool.and_true,Bool.and_false,Bool.not_true,Bool.not_false,Bf,if_false,if_true,eq_self,List.append_nil,List.nil_append,List.cons_append,List.map_nil,List.map_cons]
   have HO1:=Hd (show look1O R=[] by simp only [look1O,hB1,Bool.true_and,Bool.false_and,Bool.and_true,Bool.and_false,Bool.not_true,Bool.not_false,Bf,if_false,if_true,eq_self,List.append_nil,List.nil_append,List.cons_append,List.map_nil,List.map_cons])
   have K4:=Hd (show KZ W0 w3 p a A c qs (look1 R) Ao co os by rw [hl1];exact K3.out)
   clear hB1 hl1 K3 d2 z2
   go_wp2_with fail
   refine (c_isPrimary p a A qs.length c (look1 R) _ _ K4.out.box HT1.out.of HT1.out.view0).mono ?_
   rintro e v1 ⟨rfl,y1⟩
   have J1:=Hd (K4.out.keep y1)
   clear K4 y1
   cases gl:leadsB (look1 R)
   ·have HF:=Hd (show look1 R=lookR R∧List.map Prod.snd ([]:List OtE)=lookO R by
    have hb:look2B (look1 R)=false:=by unfold look2B halfI;rw [gl];rfl
    constructor <;> simp only [lookR,lookO,hb,HO1.out,Bool.true_and,Bool.false_and,Bool.and_true,Bool.and_false,Bool.not_true,Bool.not_false,Bf,if_false,if_true,eq_self,List.append_nil,List.nil_append,List.cons_append,List.map_nil,List.map_cons])
    go_wp2
    exact bodyPost_end (v := .tuple #[]) (by simp [results,Tryz.results49,go_sem]) rfl ⟨rfl,a,A,c,qs,Ao,co,[],by rw [List.append_nil];exact J1.out.cast HF.out.1,HF.out.2⟩
   ·go_wp2_with fail
    refine (c_count 6 p a A c qs (look1 R) _ _ J1.out.box (votes_rd J1.out) J1.out.rp.e (by have:=J1.out.qlen;have:=HT1.out.votes;omega)).mono ?_
    rintro e v2 ⟨rfl,y2⟩
    have J2:=Hd (J1.out.keep y2)
    clear J1 y2
    go_wp2_with fail
    refine (c_half p a A qs.length c (look1 R) _ v2 J2.out.box HT1.out.of).mono ?_
    rintro e v3 ⟨rfl,y3⟩
    have J3:=Hd (J2.out.keep y3)
    clear J2 y3
    cases g5:decide (((look1 R).of - 1) / 2 < (cntV 6 (look1 R).votes:Int))
    ·have HF:=Hd (show look1 R=lookR R∧List.map Prod.snd ([]:List OtE)=lookO R by
     have hb:look2B (look1 R)=false:=by unfold look2B halfI;rw [gl,g5];rfl
     constructor <;> simp only [lookR,lookO,hb,HO1.out,Bool.true_and,Bool.false_and,Bool.and_true,Bool.and_false,Bool.not_true,Bool.not_false,Bf,if_false,if_true,eq_self,List.append_nil,List.nil_append,List.cons_append,List.map_nil,List.map_cons])
     go_wp2
     exact bodyPost_end (v := .tuple #[]) (by simp [results,Tryz.results49,go_sem]) rfl ⟨rfl,a,A,c,qs,Ao,co,[],by rw [List.append_nil];exact J3.out.cast HF.out.1,HF.out.2⟩
    ·have hb:look2B (look1 R)=true:=by unfold look2B halfI;rw [gl,g5];rfl
     have HF:=Hd (show startX (look1 R)=lookR R∧allTo (look1 R).me (startM (startX (look1 R))) (look1 R).of.toNat=lookO R by
      constructor <;> simp only [lookR,lookO,hb,HO1.out,HI.out.1,HI.out.2.1,Bool.true_and,Bool.false_and,Bool.and_true,Bool.and_false,Bool.not_true,Bool.not_false,Bf,if_false,if_true,eq_self,List.append_nil,List.nil_append,List.cons_append,List.map_nil,List.map_cons])
     have hcp:0 < cntV 6 (look1 R).votes:=by have:=HT1.out.of;simp at g5;omega
     clear hb
     go_wp2_with fail
     refine (c_start J3.out HT1.out hcp (by omega)).mono ?_
     rintro e v4 ⟨rfl,a9,A9,c9,os9,k9,ho9⟩
     rw [HF.out.2] at ho9
     have K9:=Hd (k9.cast HF.out.1)
     have HO9:=Hd ho9
     clear k9 ho9 J3 hcp
     go_wp2
     exact bodyPost_end (v := .tuple #[]) (by simp [results,Tryz.results49,go_sem]) rfl ⟨rfl,a9,none,0,[],A9,c9,os9,K9.out,HO9.out⟩
  ·have hB1:look1B R=true:=by unfold look1B halfI;rw [g1,g2];rfl
   have HL1:=Hd (show R.voted (doV R)=look1 R by simp only [look1,hB1,Bool.true_and,Bool.false_and,Bool.and_true,Bool.and_false,Bool.not_true,Bool.not_false,Bf,if_false,if_true,eq_self,List.append_nil,List.nil_append,List.cons_append,List.map_nil,List.map_cons])
   have HO1:=Hd (show look1O R=if (!leadsB (look1 R))=true then [⟨R.view % R.of,doM R⟩] else [] by
    have e:leadsB (look1 R)=leadsB R:=by rw [←HL1.out];exact leads_voted R _
    simp only [look1O,hB1,e,Bool.true_and,Bool.false_and,Bool.and_true,Bool.and_false,Bool.not_true,Bool.not_false,Bf,if_false,if_true,eq_self,List.append_nil,List.nil_append,List.cons_append,List.map_nil,List.map_cons])
   have HDM:=Hd (show doM (look1 R)=doM R by rw [←HL1.out];exact doM_voted R _)
   clear hB1 d2 z2
   go_wp2
   (refine Rm.wp_region_mix' (R:=relE w3.heap.size) (fun _ _ _=>True) (fun _ _ _ _ _ hq=>hq) 27 (by first | exact Nat.le_refl _ | omega | (simp;omega)) (by kernel_rfl) (by kernel_rfl) ?_;simp only [Tc,Tz,Dc,Dz])
   ((iterate 2 (refine Rm.wpMix_plain rfl rfl ?_;go_big_quiet_step (fail);refine wpQuiet_nil ?_));(refine Rm.wpMix_nilp rfl rfl rfl ?_;simp only [Act.put,Sa,Sz,Ss]);(iterate 2 (refine Rm.wpMix_plain rfl rfl ?_;go_big_quiet_step (fail);refine wpQuiet_nil ?_));(refine Rm.wpMix_load1 (fun W9' h9=>show W9'.cell? _=some (.int .i64 R.me) from bx_cell (Ext.box h9 K3.out.box) 0) rfl rfl rfl Tryz.underlying3 rfl ?_;simp only [Act.put,Sa,Sz,Ss]);(iterate 1 (refine Rm.wpMix_plain rfl rfl ?_;go_big_quiet_step (fail);refine wpQuiet_nil ?_));(refine Rm.wpMix_nilp rfl rfl rfl ?_;simp only [Act.put,Sa,Sz,Ss]);(iterate 2 (refine Rm.wpMix_plain rfl rfl ?_;go_big_quiet_step (fail);refine wpQuiet_nil ?_));(refine Rm.wpMix_load1 (fun W9' h9=>show W9'.cell? _=some (.int .i64 R.view) from bx_cell (Ext.box h9 K3.out.box) 3) rfl rfl rfl Tryz.underlying3 rfl ?_;simp only [Act.put,Sa,Sz,Ss]);(iterate 1 (refine Rm.wpMix_plain rfl rfl ?_;go_big_quiet_step (fail);refine wpQuiet_nil ?_));(refine Rm.wpMix_nilp rfl rfl rfl ?_;simp only [Act.put,Sa,Sz,Ss]);(iterate 2 (refine Rm.wpMix_plain rfl rfl ?_;go_big_quiet_step (fail);refine wpQuiet_nil ?_));(refine Rm.wpMix_load1 (fun W9' h9=>show W9'.cell? _=some (.int .i64 R.normal) from bx_cell (Ext.box h9 K3.out.box) 4) rfl rfl rfl Tryz.underlying3 rfl ?_;simp only [Act.put,Sa,Sz,Ss]);(iterate 1 (refine Rm.wpMix_plain rfl rfl ?_;go_big_quiet_step (fail);refine wpQuiet_nil ?_));(refine Rm.wpMix_nilp rfl rfl rfl ?_;simp only [Act.put,Sa,Sz,Ss]);(iterate 2 (refine Rm.wpMix_plain rfl rfl ?_;go_big_quiet_step (fail);refine wpQuiet_nil ?_));(refine Rm.wpMix_load1 (fun W9' h9=>show W9'.cell? _=some (.int .i64 R.commit) from bx_cell (Ext.box h9 K3.out.box) 5) rfl rfl rfl Tryz.underlying3 rfl ?_;simp only [Act.put,Sa,Sz,Ss]);(iterate 1 (refine Rm.wpMix_plain rfl rfl ?_;go_big_quiet_step (fail);refine wpQuiet_nil ?_));(refine Rm.wpMix_nilp rfl rfl rfl ?_;simp only [Act.put,Sa,Sz,Ss]);(iterate 2 (refine Rm.wpMix_plain rfl rfl ?_;go_big_quiet_step (fail);refine wpQuiet_nil ?_)))
   (refine Rm.wpMix_loadAgg (fun W9' h9=>kp_log K3.out.box h9) rfl rfl rfl Tryz.underlying30 (by kernel_rfl) ?_;simp only [Act.put,Sa,Sz,Ss])
   (iterate 1 (refine Rm.wpMix_plain rfl rfl ?_;go_big_quiet_step (fail);refine wpQuiet_nil ?_))
   refine Rm.wpMix_nil ?_
   rintro w4 hW
   have K4:=Hd (K3.out.keep (show Ext w3 w4 from hW))
   clear K3 hW
   go_wp2_with fail
   refine (c_vote K4.out a (doV R) K4.out.rp.l.rd (logOk_small HT.out.lok)).mono ?_
   rintro e w5 ⟨rfl,A5,c5,qs5,k5⟩
   rw [HL1.out] at k5
   have K5:=Hd k5
   clear k5 K4
   go_wp2_with fail
   refine (c_isPrimary p a A5 qs5.length c5 (look1 R) _ _ K5.out.box HT1.out.of HT1.out.view0).mono ?_
   rintro e w6 ⟨rfl,x6⟩
   have K6:=Hd (K5.out.keep x6)
   clear K5 x6
   cases gl:leadsB (look1 R)
   ·have hp1:(look1 R).of≠0:=by rw [HI.out.2.1];exact hof'
    have hp2:((look1 R).of == 0)=false:=by rw [HI.out.2.1];exact ho2
    have hp3:0≤(look1 R).view:=by rw [HI.out.2.2.2.1];exact hv0
    go_wp2
    (refine Rm.wp_region_mix' (R:=relE w6.heap.size) (fun _ _ _=>True) (fun _ _ _ _ _ hq=>hq) 14 (by first | exact Nat.le_refl _ | omega | (simp;omega)) (by kernel_rfl) (by kernel_rfl) ?_;simp only [Tc,Tz,Dc,Dz])
    ((iterate 2 (refine Rm.wpMix_plain rfl rfl ?_;go_big_quiet_step (fail);refine wpQuiet_nil ?_));(refine Rm.wpMix_nilp rfl rfl rfl ?_;simp only [Act.put,Sa,Sz,Ss]);(iterate 2 (refine Rm.wpMix_plain rfl rfl ?_;go_big_quiet_step (fail);refine wpQuiet_nil ?_));(refine Rm.wpMix_load1 (fun W9' h9=>show W9'.cell? _=some (.int .i64 (look1 R).view) from bx_cell (Ext.box h9 K6.out.box) 3) rfl rfl rfl Tryz.underlying3 rfl ?_;simp only [Act.put,Sa,Sz,Ss]);(iterate 1 (refine Rm.wpMix_plain rfl rfl ?_;go_big_quiet_step (fail);refine wpQuiet_nil ?_));(refine Rm.wpMix_nilp rfl rfl rfl ?_;simp only [Act.put,Sa,Sz,Ss]);(iterate 2 (refine Rm.wpMix_plain rfl rfl ?_;go_big_quiet_step (fail);refine wpQuiet_nil ?_));(refine Rm.wpMix_load1 (fun W9' h9=>show W9'.cell? _=some (.int .i64 (look1 R).of) from bx_cell (Ext.box h9 K6.out.box) 1) rfl rfl rfl Tryz.underlying3 rfl ?_;simp only [Act.put,Sa,Sz,Ss]);(iterate 2 (refine Rm.wpMix_plain rfl rfl ?_;go_big_quiet_step (fail);refine wpQuiet_nil ?_)))
    (refine Rm.wpMix_det rfl rfl rfl (enters Tryz.func84 (by kernel_rfl) rfl) (fun W9' h9=>c_doMsg (Ext.box h9 K6.out.box)) rfl ?_;simp only [Act.put,Sa,Sz,Ss])
    refine Rm.wpMix_nil ?_
    rintro w7 hW
    have K7:=Hd (K6.out.keep (show Ext w6 w7 from hW))
    clear K6 hW
    go_wp2_with fail
    refine (c_sendZ W0 p a A5 c5 qs5 (look1 R) os Ao co ((look1 R).view % (look1 R).of) a (doM (look1 R)) w7 K7.out K7.out.rp.l.rd (logOk_small HT1.out.lok) (by omega)).mono ?_
    rintro e w8 ⟨rfl,A8,c8,a8,k8,cg⟩
    have K8:=Hd k8
    clear k8 cg K7 hp1 hp2 hp3
    have HO2:=Hd (show look1O R=List.map Prod.snd [(a8,(⟨(look1 R).view % (look1 R).of,doM (look1 R)⟩:Ot))] by
     rw [HO1.out,gl,HDM.out,HI.out.2.1,HI.out.2.2.2.1];rfl)
    go_wp2_with fail
    refine (c_isPrimary p a A5 qs5.length c5 (look1 R) _ _ K8.out.box HT1.out.of HT1.out.view0).mono ?_
    rintro e v1 ⟨rfl,y1⟩
    have J1:=Hd (K8.out.keep y1)
    clear K8 y1
    rw [gl]
    have HF:=Hd (show look1 R=lookR R∧List.map Prod.snd ([(a8,(⟨(look1 R).view % (look1 R).of,doM (look1 R)⟩:Ot))]:List OtE)=lookO R by
     have hb:look2B (look1 R)=false:=by unfold look2B halfI;rw [gl];rfl
     constructor <;> simp only [lookR,lookO,hb,HO2.out,Bool.true_and,Bool.false_and,Bool.and_true,Bool.and_false,Bool.not_true,Bool.not_false,Bf,if_false,if_true,eq_self,List.append_nil,List.nil_append,List.cons_append,List.map_nil,List.map_cons])
    go_wp2
    exact bodyPost_end (v := .tuple #[]) (by simp [results,Tryz.results49,go_sem]) rfl ⟨rfl,a,A5,c5,qs5,A8,c8,[(a8,(⟨(look1 R).view % (look1 R).of,doM (look1 R)⟩:Ot))],J1.out.cast HF.out.1,HF.out.2⟩
   ·have HO2:=Hd (show look1O R=[] by rw [HO1.out,gl];rfl)
    go_wp2_with fail
    refine (c_isPrimary p a A5 qs5.length c5 (look1 R) _ _ K6.out.box HT1.out.of HT1.out.view0).mono ?_
    rintro e v1 ⟨rfl,y1⟩
    have J1:=Hd (K6.out.keep y1)
    clear K6 y1
    rw [gl]
    go_wp2_with fail
    refine (c_count 6 p a A5 c5 qs5 (look1 R) _ _ J1.out.box (votes_rd J1.out) J1.out.rp.e (by have:=J1.out.qlen;have:=HT1.out.votes;omega)).mono ?_
    rintro e v2 ⟨rfl,y2⟩
    have J2:=Hd (J1.out.keep y2)
    clear J1 y2
    go_wp2_with fail
    refine (c_half p a A5 qs5.length c5 (look1 R) _ v2 J2.out.box HT1.out.of).mono ?_
    rintro e v3 ⟨rfl,y3⟩
    have J3:=Hd (J2.out.keep y3)
    clear J2 y3
    cases g5:decide (((look1 R).of - 1) / 2 < (cntV 6 (look1 R).votes:Int))
    ·have HF:=Hd (show look1 R=lookR R∧List.map Prod.snd ([]:List OtE)=lookO R by
     have hb:look2B (look1 R)=false:=by unfold look2B halfI;rw [gl,g5];rfl
     constructor <;> simp only [lookR,lookO,hb,HO2.out,Bool.true_and,Bool.false_and,Bool.and_true,Bool.and_false,Bool.not_true,Bool.not_false,Bf,if_false,if_true,eq_self,List.append_nil,List.nil_append,List.cons_append,List.map_nil,List.map_cons])
     go_wp2
     exact bodyPost_end (v := .tuple #[]) (by simp [results,Tryz.results49,go_sem]) rfl ⟨rfl,a,A5,c5,qs5,Ao,co,[],by rw [List.append_nil];exact J3.out.cast HF.out.1,HF.out.2⟩
    ·have hb:look2B (look1 R)=true:=by unfold look2B halfI;rw [gl,g5];rfl
     have HF:=Hd (show startX (look1 R)=lookR R∧allTo (look1 R).me (startM (startX (look1 R))) (look1 R).of.toNat=lookO R by
      constructor <;> simp only [lookR,lookO,hb,HO2.out,HI.out.1,HI.out.2.1,Bool.true_and,Bool.false_and,Bool.and_true,Bool.and_false,Bool.not_true,Bool.not_false,Bf,if_false,if_true,eq_self,List.append_nil,List.nil_append,List.cons_append,List.map_nil,List.map_cons])
     have hcp:0 < cntV 6 (look1 R).votes:=by have:=HT1.out.of;simp at g5;omega
     clear hb
     go_wp2_with fail
     refine (c_start J3.out HT1.out hcp (by omega)).mono ?_
     rintro e v4 ⟨rfl,a9,A9,c9,os9,k9,ho9⟩
     rw [HF.out.2] at ho9
     have K9:=Hd (k9.cast HF.out.1)
     have HO9:=Hd ho9
     clear k9 ho9 J3 hcp
     go_wp2
     exact bodyPost_end (v := .tuple #[]) (by simp [results,Tryz.results49,go_sem]) rfl ⟨rfl,a9,none,0,[],A9,c9,os9,K9.out,HO9.out⟩
end
end Go.Proofs.YtikelfmmldafpaaGreat
