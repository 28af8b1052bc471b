/- FnTurns: a replica that turned is right, in the next view, and says so to all others. -/
import Derived.Test.YtikelfmmldafpaaGreatPk44
import Derived.Test.YtikelfmmldafpaaGreatPk14
import Derived.Test.YtikelfmmldafpaaGreatPk13
import Derived.Test.YtikelfmmldafpaaGreatPk16
namespace Go.Proofs.YtikelfmmldafpaaGreat.l19
open Go.ChangeShapes Go.WideShapes Go.ChangeAt Go.RowKit Go.Sort
set_option linter.unusedVariables false
set_option linter.unusedSimpArgs false
theorem rpOk_mk {R:Rp} (h1:ofB R.of=true) (h2:inB R.me 0 (R.of - 1)=true) (h3:inB R.view 0 1000000000=true) (h4:inB R.normal 0 1000000000=true) (h5:inB R.cell 0 1000000000=true) (h6:inB R.nonce 0 1000000000=true) (h7:hasNum R.log R.commit=true) (h8:R.votes=[]) (h9:rpTail R=true):rpOk R=true:=by
 unfold rpOk
 rw [h1,h2,h3,h4,h5,h6,h7,h8,h9]
 rfl
structure Parts (r:Rp):Prop where
 of:ofB r.of=true
 me:inB r.me 0 (r.of - 1)=true
 view:inB r.view 0 1000000000=true
 normal:inB r.normal 0 1000000000=true
 cell:inB r.cell 0 1000000000=true
 nonce:inB r.nonce 0 1000000000=true
 num:hasNum r.log r.commit=true
 tail:rpTail r=true
theorem parts {r:Rp} (h:rpOk r=true):Parts r:=by
 unfold rpOk at h
 simp only [Bool.and_eq_true] at h
 obtain ⟨⟨⟨⟨⟨⟨⟨⟨⟨h1,h2⟩,h3⟩,h4⟩,h5⟩,h6⟩,h7⟩,_⟩,_⟩,h10⟩:=h
 exact ⟨h1,h2,h3,h4,h5,h6,h7,h10⟩
theorem len_all {me:Int} {m:Mg} (h0:0≤me):∀ k:Nat,((allTo me m k).length:Int)=if me < k then (k:Int) - 1 else k
 | 0=>by
  rw [if_neg (by omega)]
  rfl
 | k+1=>by
  have ih:=len_all h0 (m:=m) k
  rw [allTo_next,List.length_append]
  by_cases h:(k:Int)=me
  ·rw [if_neg (by simp [h]),if_pos (by omega)]
   rw [if_neg (by omega)] at ih
   simp only [List.length_nil]
   omega
  ·rw [if_pos (by simp [h])]
   simp only [List.length_cons,List.length_nil]
   split at ih
   ·rw [if_pos (by omega)]
    omega
   ·rw [if_neg (by omega)]
    omega
theorem turn_parts {r:Rp} (h:turnB r=true):liveB r=true∧r.view < 1000000000:=by
 unfold turnB at h
 simpa using h
theorem begin_ok {r:Rp} (h:rpOk r=true) (hb:turnB r=true):((beginR r (r.view+1)).view=r.view+1∧(beginR r (r.view+1)).cell=r.view+1)∧rpOk (beginR r (r.view+1))=true∧r.of - 1≤((beginO r (r.view+1)).length:Int):=by
 obtain ⟨hl,hv⟩:=turn_parts hb
 have hT:=rpOk_T h hl
 have g:=parts h
 have hv0:=hT.view0
 have hme0:=hT.me0
 have hme1:=hT.me1
 have hview:inB (r.view+1) 0 1000000000=true:=(inB_yes _ _ _).2 ⟨by omega,by omega⟩
 have hlen:r.of - 1≤((beginO r (r.view+1)).length:Int):=by
  have:=len_all hT.me0 (m:=turnM r.me (r.view+1)) r.of.toNat
  unfold beginO
  rw [List.length_append]
  split at this <;> omega
 have hof:=hT.of
 by_cases ho:r.of=1
 ·have hme:r.me=0:=by omega
  have ht:=hT.turned (v:=r.view+1) (by omega) (by omega)
  have e1:look1 (r.turned (r.view+1))=(r.turned (r.view+1)).votesTo [doV (r.turned (r.view+1))]:=by
   unfold look1
   rw [if_pos]
   ·unfold Rp.voted
    rw [if_pos (show (r.turned (r.view+1)).votes.length < 20 from (show (0:Nat) < 20 by decide))]
    rfl
   ·unfold look1B halfI
    show (decide ((r.of - 1) / 2≤((cntV 5 []:Nat):Int)) && decide (findV 6 r.me [] < 0))=true
    rw [ho]
    rfl
  have hc:cntV 6 [doV (r.turned (r.view+1))]=1:=rfl
  have e2:look2B ((r.turned (r.view+1)).votesTo [doV (r.turned (r.view+1))])=true:=by
   unfold look2B leadsB halfI
   show ((r.me == (r.view+1) % r.of) && decide ((r.of - 1) / 2 < ((cntV 6 [doV (r.turned (r.view+1))]:Nat):Int)))=true
   rw [hc,hme,ho,Int.emod_one]
   rfl
  have e3:bestLog [doV (r.turned (r.view+1))]=r.log:=by
   obtain ⟨b,hb,hbl⟩:=best_there (l:=[doV (r.turned (r.view+1))]) (by simp) (fun v hv=>by rw [Mi] at hv;subst hv;exact hT.lok) (by rw [hc];decide)
   obtain rfl:b=0:=by simpa using hbl
   unfold bestLog
   rw [hb]
   rfl
  have e4:beginR r (r.view+1)=(r.turned (r.view+1)).lead (r.view+1) r.log r.log.fin:=by
   unfold beginR lookR
   rw [e1,if_pos e2]
   unfold startX newC
   show ((r.turned (r.view+1)).votesTo [doV (r.turned (r.view+1))]).lead (r.view+1) (bestLog [doV (r.turned (r.view+1))]) (if (r.of == 1)=true then (bestLog [doV (r.turned (r.view+1))]).fin else _)=_
   rw [e3,if_pos (by simp [ho])]
   rfl
  rw [e4]
  have hf:=logOk_facts hT.lok
  have hcommit:min r.log.fin r.log.fin=r.log.fin:=by omega
  refine ⟨⟨rfl,rfl⟩,rpOk_mk g.of g.me hview hview hview g.nonce ?_ rfl ?_,hlen⟩
  ·unfold hasNum
   show (logOk r.log && inB (min r.log.fin r.log.fin) r.log.base r.log.fin)=true
   rw [hT.lok,hcommit]
   exact (inB_yes _ _ _).2 ⟨by unfold Lg.fin;omega,by omega⟩
  ·unfold rpTail
   show ((((1:Int) == 1) && ((r.view+1 == r.view+1) && (r.view+1 == r.view+1))) || _ || _)=true
   simp
 ·have e1:look1 (r.turned (r.view+1))=r.turned (r.view+1):=by
   unfold look1
   rw [if_neg]
   unfold look1B halfI
   show ¬ ((decide ((r.of - 1) / 2≤((cntV 5 []:Nat):Int)) && decide (findV 6 r.me [] < 0))=true)
   have:cntV 5 []=0:=rfl
   rw [this]
   simp
   omega
  have e2:look2B (r.turned (r.view+1))=false:=by
   unfold look2B halfI
   show (leadsB (r.turned (r.view+1)) && decide ((r.of - 1) / 2 < ((cntV 6 []:Nat):Int)))=false
   have:cntV 6 []=0:=rfl
   rw [this]
   have h2:decide ((r.of - 1) / 2 < ((0:Nat):Int))=false:=by simp;omega
   rw [h2,Bool.and_false]
  have e4:beginR r (r.view+1)=r.turned (r.view+1):=by
   unfold beginR lookR
   rw [e1,e2]
   rfl
  rw [e4]
  refine ⟨⟨rfl,rfl⟩,rpOk_mk g.of g.me hview g.normal hview g.nonce g.num rfl ?_,hlen⟩
  have ht:=g.tail
  have hn:r.normal≤r.view+1:=by
   unfold rpTail at ht
   unfold liveB at hl
   simp only [Bool.or_eq_true,Bool.and_eq_true,beq_iff_eq,decide_eq_true_eq] at ht hl
   omega
  unfold rpTail
  show (_ || (((2:Int) == 2) && (decide (r.normal≤r.view+1) && (r.view+1 == r.view+1))) || _)=true
  rw [decide_eq_true hn]
  simp
end Go.Proofs.YtikelfmmldafpaaGreat.l19
namespace Go.Proofs.YtikelfmmldafpaaGreat
open Go.ChangeShapes Go.WideShapes Go.ChangeAt Go.RowKit Go.Sort
set_option linter.unusedVariables false
set_option linter.unusedSimpArgs false
section
variable {W0 w:World} {p:Nat} {a:LAd} {A:Option Addr} {c:Nat} {qs:List VtE} {R:Rp} {Ao:Option Addr} {co:Nat} {os:List OtE}
set_option maxRecDepth 100000 in
set_option maxHeartbeats 8000000 in
theorem c_follows (hk:KZ W0 w p a A c qs R Ao co os) (am:LAd) (m:Mg) (hos:os.length≤100000) (ho:R.of=1∨R.of=3∨R.of=5) (h0:0≤R.view) :
  Calls Tryz.prog 29 #[.pointer (some ⟨p,0,none⟩),Mg.val am m] w fun e w'=>e = .returned (.bool (liveB R && followB R m))∧∃ A' c' os',KZ W0 w' p a A c qs R A' c' (os++os')∧List.map Prod.snd os'=followO R m:=by
 have X0:=ext_alloc w (Mg.obj am m)
 have HK:=Hd (hk.keep X0)
 have HM:=Hd (hNew (w:=w) (o:=Mg.obj am m) rfl)
 have ho':R.of≠0:=by omega
 have ho2:(R.of == 0)=false:=by simpa using ho'
 have HO:=Hd ho
 clear hk X0 ho
 go_enter Tryz.func29,Tryz.ntmps29
 go_wp2_with fail
 refine (c_awake p a A qs.length c R _ _ HK.out.box).mono ?_
 rintro e w1 ⟨rfl,x1⟩
 have K1:=Hd (HK.out.keep x1)
 have M1:=Hd (x1.box HM.out)
 clear HK HM x1
 cases gl:liveB R
 ·have HF:=Hd (show (liveB R && followB R m)=false∧([]:List Ot)=followO R m from ⟨by rw [gl];rfl,by simp [followO,gl]⟩)
  clear gl
  go_wp2
  go_ret
  exact ⟨ret_bool HF.out.1.symm,Ao,co,[],by simpa using K1.out,HF.out.2⟩
 ·cases g0:decide (R.view < m.view)
  ·have HF0:=Hd (show ([]:List Ot)=followO R m by simp [followO,g0])
   go_wp2
   (refine Rm.wp_region_mix' (R:=relE w1.heap.size) (fun _ _ _=>True) (fun _ _ _ _ _ hq=>hq) 8 (by first | exact Nat.le_refl _ | omega | (simp;omega)) (by kernel_rfl) (by kernel_rfl) ?_;simp only [Tc,Tz,Dc,Dz])
   ((iterate 1 (refine Rm.wpMix_plain rfl rfl ?_;go_big_quiet_step (fail);refine wpQuiet_nil ?_));(refine Rm.wpMix_load1 (fun W9' h9=>show W9'.cell? _=some (.int .i64 m.view) from bx_cell (Ext.box h9 M1.out) 2) rfl rfl rfl Tryz.underlying3 rfl ?_;simp only [Act.put,Sa,Sz,Ss]);(iterate 1 (refine Rm.wpMix_plain rfl rfl ?_;go_big_quiet_step (fail);refine wpQuiet_nil ?_));(refine Rm.wpMix_nilp rfl rfl rfl ?_;simp only [Act.put,Sa,Sz,Ss]);(iterate 2 (refine Rm.wpMix_plain rfl rfl ?_;go_big_quiet_step (fail);refine wpQuiet_nil ?_));(refine Rm.wpMix_load1 (fun W9' h9=>show W9'.cell? _=some (.int .i64 R.view) from bx_cell (Ext.box h9 K1.out.box) 3) rfl rfl rfl Tryz.underlying3 rfl ?_;simp only [Act.put,Sa,Sz,Ss]);(iterate 1 (refine Rm.wpMix_plain rfl rfl ?_;go_big_quiet_step (fail);refine wpQuiet_nil ?_));(try simp only [g0,Bool.not_true,Bool.not_false]))
   refine Rm.wpMix_nil ?_
   rintro w2 hW2
   have x2:Ext w1 w2:=hW2
   have K2:=Hd (K1.out.keep x2)
   have M2:=Hd (x2.box M1.out)
   clear K1 M1 x2 hW2
   go_wp2
   cases g1:(m.view == R.view)
   ·have HF:=Hd (show false=(liveB R && followB R m) by simp [gl,followB,g1])
    (refine Rm.wp_region_mix' (R:=relE w2.heap.size) (fun _ _ _=>True) (fun _ _ _ _ _ hq=>hq) 38 (by first | exact Nat.le_refl _ | omega | (simp;omega)) (by kernel_rfl) (by kernel_rfl) ?_;simp only [Tc,Tz,Dc,Dz])
    ((iterate 1 (refine Rm.wpMix_plain rfl rfl ?_;go_big_quiet_step (fail);refine wpQuiet_nil ?_));(refine Rm.wpMix_load1 (fun W9' h9=>show W9'.cell? _=some (.int .i64 m.view) from bx_cell (Ext.box h9 M2.out) 2) rfl rfl rfl Tryz.underlying3 rfl ?_;simp only [Act.put,Sa,Sz,Ss]);(iterate 1 (refine Rm.wpMix_plain rfl rfl ?_;go_big_quiet_step (fail);refine wpQuiet_nil ?_));(refine Rm.wpMix_nilp rfl rfl rfl ?_;simp only [Act.put,Sa,Sz,Ss]);(iterate 2 (refine Rm.wpMix_plain rfl rfl ?_;go_big_quiet_step (fail);refine wpQuiet_nil ?_));(refine Rm.wpMix_load1 (fun W9' h9=>show W9'.cell? _=some (.int .i64 R.view) from bx_cell (Ext.box h9 K2.out.box) 3) rfl rfl rfl Tryz.underlying3 rfl ?_;simp only [Act.put,Sa,Sz,Ss]);(iterate 1 (refine Rm.wpMix_plain rfl rfl ?_;go_big_quiet_step (fail);refine wpQuiet_nil ?_));(try simp only [g1,Bool.not_true,Bool.not_false]);(iterate 1 (refine Rm.wpMix_plain rfl rfl ?_;go_big_quiet_step (fail);refine wpQuiet_nil ?_));(iterate 6 (refine Rm.wpMix_skip rfl rfl ?_;simp only [Act.put,Sa,Sz,Ss]));(iterate 2 (refine Rm.wpMix_plain rfl rfl ?_;go_big_quiet_step (fail);refine wpQuiet_nil ?_));(iterate 3 (refine Rm.wpMix_skip rfl rfl ?_;simp only [Act.put,Sa,Sz,Ss]));(iterate 2 (refine Rm.wpMix_plain rfl rfl ?_;go_big_quiet_step (fail);refine wpQuiet_nil ?_));(iterate 14 (refine Rm.wpMix_skip rfl rfl ?_;simp only [Act.put,Sa,Sz,Ss]));(iterate 2 (refine Rm.wpMix_plain rfl rfl ?_;go_big_quiet_step (fail);refine wpQuiet_nil ?_)))
    refine Rm.wpMix_nil ?_
    rintro w3 hW3
    have K3:=Hd (K2.out.keep (show Ext w2 w3 from hW3))
    clear hW3
    go_wp2
    go_ret
    exact ⟨ret_bool HF.out,Ao,co,[],by simpa using K3.out,HF0.out⟩
   ·cases g2:(R.mode == 1)
    ·have HF:=Hd (show false=(liveB R && followB R m) by simp [gl,followB,g2])
     (refine Rm.wp_region_mix' (R:=relE w2.heap.size) (fun _ _ _=>True) (fun _ _ _ _ _ hq=>hq) 38 (by first | exact Nat.le_refl _ | omega | (simp;omega)) (by kernel_rfl) (by kernel_rfl) ?_;simp only [Tc,Tz,Dc,Dz])
     ((iterate 1 (refine Rm.wpMix_plain rfl rfl ?_;go_big_quiet_step (fail);refine wpQuiet_nil ?_));(refine Rm.wpMix_load1 (fun W9' h9=>show W9'.cell? _=some (.int .i64 m.view) from bx_cell (Ext.box h9 M2.out) 2) rfl rfl rfl Tryz.underlying3 rfl ?_;simp only [Act.put,Sa,Sz,Ss]);(iterate 1 (refine Rm.wpMix_plain rfl rfl ?_;go_big_quiet_step (fail);refine wpQuiet_nil ?_));(refine Rm.wpMix_nilp rfl rfl rfl ?_;simp only [Act.put,Sa,Sz,Ss]);(iterate 2 (refine Rm.wpMix_plain rfl rfl ?_;go_big_quiet_step (fail);refine wpQuiet_nil ?_));(refine Rm.wpMix_load1 (fun W9' h9=>show W9'.cell? _=some (.int .i64 R.view) from bx_cell (Ext.box h9 K2.out.box) 3) rfl rfl rfl Tryz.underlying3 rfl ?_;simp only [Act.put,Sa,Sz,Ss]);(iterate 1 (refine Rm.wpMix_plain rfl rfl ?_;go_big_quiet_step (fail);refine wpQuiet_nil ?_));(try simp only [g1,Bool.not_true,Bool.not_false]);(iterate 2 (refine Rm.wpMix_plain rfl rfl ?_;go_big_quiet_step (fail);refine wpQuiet_nil ?_));(refine Rm.wpMix_nilp rfl rfl rfl ?_;simp only [Act.put,Sa,Sz,Ss]);(iterate 2 (refine Rm.wpMix_plain rfl rfl ?_;go_big_quiet_step (fail);refine wpQuiet_nil ?_));(refine Rm.wpMix_load1 (fun W9' h9=>show W9'.cell? _=some (.int .i64 R.mode) from bx_cell (Ext.box h9 K2.out.box) 2) rfl rfl rfl Tryz.underlying3 rfl ?_;simp only [Act.put,Sa,Sz,Ss]);(iterate 1 (refine Rm.wpMix_plain rfl rfl ?_;go_big_quiet_step (fail);refine wpQuiet_nil ?_));(try simp only [g2,Bool.not_true,Bool.not_false]);(iterate 2 (refine Rm.wpMix_plain rfl rfl ?_;go_big_quiet_step (fail);refine wpQuiet_nil ?_));(iterate 3 (refine Rm.wpMix_skip rfl rfl ?_;simp only [Act.put,Sa,Sz,Ss]));(iterate 2 (refine Rm.wpMix_plain rfl rfl ?_;go_big_quiet_step (fail);refine wpQuiet_nil ?_));(iterate 14 (refine Rm.wpMix_skip rfl rfl ?_;simp only [Act.put,Sa,Sz,Ss]));(iterate 2 (refine Rm.wpMix_plain rfl rfl ?_;go_big_quiet_step (fail);refine wpQuiet_nil ?_)))
     refine Rm.wpMix_nil ?_
     rintro w3 hW3
     have K3:=Hd (K2.out.keep (show Ext w2 w3 from hW3))
     clear hW3
     go_wp2
     go_ret
     exact ⟨ret_bool HF.out,Ao,co,[],by simpa using K3.out,HF0.out⟩
    ·cases g3:leadsB R
     ·have HF:=Hd (show (m.frm == R.view % R.of)=(liveB R && followB R m) by simp [gl,followB,g1,g2,g3])
      (refine Rm.wp_region_mix' (R:=relE w2.heap.size) (fun _ _ _=>True) (fun _ _ _ _ _ hq=>hq) 38 (by first | exact Nat.le_refl _ | omega | (simp;omega)) (by kernel_rfl) (by kernel_rfl) ?_;simp only [Tc,Tz,Dc,Dz])
      ((iterate 1 (refine Rm.wpMix_plain rfl rfl ?_;go_big_quiet_step (fail);refine wpQuiet_nil ?_));(refine Rm.wpMix_load1 (fun W9' h9=>show W9'.cell? _=some (.int .i64 m.view) from bx_cell (Ext.box h9 M2.out) 2) rfl rfl rfl Tryz.underlying3 rfl ?_;simp only [Act.put,Sa,Sz,Ss]);(iterate 1 (refine Rm.wpMix_plain rfl rfl ?_;go_big_quiet_step (fail);refine wpQuiet_nil ?_));(refine Rm.wpMix_nilp rfl rfl rfl ?_;simp only [Act.put,Sa,Sz,Ss]);(iterate 2 (refine Rm.wpMix_plain rfl rfl ?_;go_big_quiet_step (fail);refine wpQuiet_nil ?_));(refine Rm.wpMix_load1 (fun W9' h9=>show W9'.cell? _=some (.int .i64 R.view) from bx_cell (Ext.box h9 K2.out.box) 3) rfl rfl rfl Tryz.underlying3 rfl ?_;simp only [Act.put,Sa,Sz,Ss]);(iterate 1 (refine Rm.wpMix_plain rfl rfl ?_;go_big_quiet_step (fail);refine wpQuiet_nil ?_));(try simp only [g1,Bool.not_true,Bool.not_false]);(iterate 2 (refine Rm.wpMix_plain rfl rfl ?_;go_big_quiet_step (fail);refine wpQuiet_nil ?_));(refine Rm.wpMix_nilp rfl rfl rfl ?_;simp only [Act.put,Sa,Sz,Ss]);(iterate 2 (refine Rm.wpMix_plain rfl rfl ?_;go_big_quiet_step (fail);refine wpQuiet_nil ?_));(refine Rm.wpMix_load1 (fun W9' h9=>show W9'.cell? _=some (.int .i64 R.mode) from bx_cell (Ext.box h9 K2.out.box) 2) rfl rfl rfl Tryz.underlying3 rfl ?_;simp only [Act.put,Sa,Sz,Ss]);(iterate 1 (refine Rm.wpMix_plain rfl rfl ?_;go_big_quiet_step (fail);refine wpQuiet_nil ?_));(try simp only [g2,Bool.not_true,Bool.not_false]);(iterate 3 (refine Rm.wpMix_plain rfl rfl ?_;go_big_quiet_step (fail);refine wpQuiet_nil ?_)))
      (refine Rm.wpMix_det rfl rfl rfl (enters Tryz.func59 (by kernel_rfl) rfl) (fun W9' h9=>c_isPrimary p a A qs.length c R _ W9' (Ext.box h9 K2.out.box) HO.out h0) rfl ?_;simp only [Act.put,Sa,Sz,Ss])
      ((try simp only [g3,Bool.not_true,Bool.not_false]);(iterate 4 (refine Rm.wpMix_plain rfl rfl ?_;go_big_quiet_step (fail);refine wpQuiet_nil ?_));(refine Rm.wpMix_load1 (fun W9' h9=>show W9'.cell? _=some (.int .i64 m.frm) from bx_cell (Ext.box h9 M2.out) 1) rfl rfl rfl Tryz.underlying3 rfl ?_;simp only [Act.put,Sa,Sz,Ss]);(iterate 1 (refine Rm.wpMix_plain rfl rfl ?_;go_big_quiet_step (fail);refine wpQuiet_nil ?_));(refine Rm.wpMix_nilp rfl rfl rfl ?_;simp only [Act.put,Sa,Sz,Ss]);(iterate 2 (refine Rm.wpMix_plain rfl rfl ?_;go_big_quiet_step (fail);refine wpQuiet_nil ?_));(refine Rm.wpMix_load1 (fun W9' h9=>show W9'.cell? _=some (.int .i64 R.view) from bx_cell (Ext.box h9 K2.out.box) 3) rfl rfl rfl Tryz.underlying3 rfl ?_;simp only [Act.put,Sa,Sz,Ss]);(iterate 1 (refine Rm.wpMix_plain rfl rfl ?_;go_big_quiet_step (fail);refine wpQuiet_nil ?_));(refine Rm.wpMix_nilp rfl rfl rfl ?_;simp only [Act.put,Sa,Sz,Ss]);(iterate 2 (refine Rm.wpMix_plain rfl rfl ?_;go_big_quiet_step (fail);refine wpQuiet_nil ?_));(refine Rm.wpMix_load1 (fun W9' h9=>show W9'.cell? _=some (.int .i64 R.of) from bx_cell (Ext.box h9 K2.out.box) 1) rfl rfl rfl Tryz.underlying3 rfl ?_;simp only [Act.put,Sa,Sz,Ss]);(iterate 4 (refine Rm.wpMix_plain rfl rfl ?_;go_big_quiet_step (fail);refine wpQuiet_nil ?_)))
      refine Rm.wpMix_nil ?_
      rintro w3 hW3
      have K3:=Hd (K2.out.keep (show Ext w2 w3 from hW3))
      clear hW3
      go_wp2
      go_ret
      exact ⟨ret_bool HF.out,Ao,co,[],by simpa using K3.out,HF0.out⟩
     ·have HF:=Hd (show false=(liveB R && followB R m) by simp [gl,followB,g3])
      (refine Rm.wp_region_mix' (R:=relE w2.heap.size) (fun _ _ _=>True) (fun _ _ _ _ _ hq=>hq) 38 (by first | exact Nat.le_refl _ | omega | (simp;omega)) (by kernel_rfl) (by kernel_rfl) ?_;simp only [Tc,Tz,Dc,Dz])
      ((iterate 1 (refine Rm.wpMix_plain rfl rfl ?_;go_big_quiet_step (fail);refine wpQuiet_nil ?_));(refine Rm.wpMix_load1 (fun W9' h9=>show W9'.cell? _=some (.int .i64 m.view) from bx_cell (Ext.box h9 M2.out) 2) rfl rfl rfl Tryz.underlying3 rfl ?_;simp only [Act.put,Sa,Sz,Ss]);(iterate 1 (refine Rm.wpMix_plain rfl rfl ?_;go_big_quiet_step (fail);refine wpQuiet_nil ?_));(refine Rm.wpMix_nilp rfl rfl rfl ?_;simp only [Act.put,Sa,Sz,Ss]);(iterate 2 (refine Rm.wpMix_plain rfl rfl ?_;go_big_quiet_step (fail);refine wpQuiet_nil ?_));(refine Rm.wpMix_load1 (fun W9' h9=>show W9'.cell? _=some (.int .i64 R.view) from bx_cell (Ext.box h9 K2.out.box) 3) rfl rfl rfl Tryz.underlying3 rfl ?_;simp only [Act.put,Sa,Sz,Ss]);(iterate 1 (refine Rm.wpMix_plain rfl rfl ?_;go_big_quiet_step (fail);refine wpQuiet_nil ?_));(try simp only [g1,Bool.not_true,Bool.not_false]);(iterate 2 (refine Rm.wpMix_plain rfl rfl ?_;go_big_quiet_step (fail);refine wpQuiet_nil ?_));(refine Rm.wpMix_nilp rfl rfl rfl ?_;simp only [Act.put,Sa,Sz,Ss]);(iterate 2 (refine Rm.wpMix_plain rfl rfl ?_;go_big_quiet_step (fail);refine wpQuiet_nil ?_));(refine Rm.wpMix_load1 (fun W9' h9=>show W9'.cell? _=some (.int .i64 R.mode) from bx_cell (Ext.box h9 K2.out.box) 2) rfl rfl rfl Tryz.underlying3 rfl ?_;simp only [Act.put,Sa,Sz,Ss]);(iterate 1 (refine Rm.wpMix_plain rfl rfl ?_;go_big_quiet_step (fail);refine wpQuiet_nil ?_));(try simp only [g2,Bool.not_true,Bool.not_false]);(iterate 3 (refine Rm.wpMix_plain rfl rfl ?_;go_big_quiet_step (fail);refine wpQuiet_nil ?_)))
      (refine Rm.wpMix_det rfl rfl rfl (enters Tryz.func59 (by kernel_rfl) rfl) (fun W9' h9=>c_isPrimary p a A qs.length c R _ W9' (Ext.box h9 K2.out.box) HO.out h0) rfl ?_;simp only [Act.put,Sa,Sz,Ss])
      ((try simp only [g3,Bool.not_true,Bool.not_false]);(iterate 3 (refine Rm.wpMix_plain rfl rfl ?_;go_big_quiet_step (fail);refine wpQuiet_nil ?_));(iterate 14 (refine Rm.wpMix_skip rfl rfl ?_;simp only [Act.put,Sa,Sz,Ss]));(iterate 2 (refine Rm.wpMix_plain rfl rfl ?_;go_big_quiet_step (fail);refine wpQuiet_nil ?_)))
      refine Rm.wpMix_nil ?_
      rintro w3 hW3
      have K3:=Hd (K2.out.keep (show Ext w2 w3 from hW3))
      clear hW3
      go_wp2
      go_ret
      exact ⟨ret_bool HF.out,Ao,co,[],by simpa using K3.out,HF0.out⟩
  ·have HF:=Hd (show false=(liveB R && followB R m) by
    have:(m.view == R.view)=false:=by simp at g0 ⊢;omega
    simp [gl,followB,this])
   have HF0:=Hd (show ([⟨m.frm,askM2 R m.view R.commit⟩]:List Ot)=followO R m by simp [followO,gl,g0])
   go_wp2
   (refine Rm.wp_region_mix' (R:=relE w1.heap.size) (fun _ _ _=>True) (fun _ _ _ _ _ hq=>hq) 8 (by first | exact Nat.le_refl _ | omega | (simp;omega)) (by kernel_rfl) (by kernel_rfl) ?_;simp only [Tc,Tz,Dc,Dz])
   ((iterate 1 (refine Rm.wpMix_plain rfl rfl ?_;go_big_quiet_step (fail);refine wpQuiet_nil ?_));(refine Rm.wpMix_load1 (fun W9' h9=>show W9'.cell? _=some (.int .i64 m.view) from bx_cell (Ext.box h9 M1.out) 2) rfl rfl rfl Tryz.underlying3 rfl ?_;simp only [Act.put,Sa,Sz,Ss]);(iterate 1 (refine Rm.wpMix_plain rfl rfl ?_;go_big_quiet_step (fail);refine wpQuiet_nil ?_));(refine Rm.wpMix_nilp rfl rfl rfl ?_;simp only [Act.put,Sa,Sz,Ss]);(iterate 2 (refine Rm.wpMix_plain rfl rfl ?_;go_big_quiet_step (fail);refine wpQuiet_nil ?_));(refine Rm.wpMix_load1 (fun W9' h9=>show W9'.cell? _=some (.int .i64 R.view) from bx_cell (Ext.box h9 K1.out.box) 3) rfl rfl rfl Tryz.underlying3 rfl ?_;simp only [Act.put,Sa,Sz,Ss]);(iterate 1 (refine Rm.wpMix_plain rfl rfl ?_;go_big_quiet_step (fail);refine wpQuiet_nil ?_));(try simp only [g0,Bool.not_true,Bool.not_false]))
   refine Rm.wpMix_nil ?_
   rintro w2 hW2
   have x2:Ext w1 w2:=hW2
   have K2:=Hd (K1.out.keep x2)
   have M2:=Hd (x2.box M1.out)
   clear K1 M1 x2 hW2
   go_wp2
   (refine Rm.wp_region_mix' (R:=relE w2.heap.size) (fun _ _ _=>True) (fun _ _ _ _ _ hq=>hq) 10 (by first | exact Nat.le_refl _ | omega | (simp;omega)) (by kernel_rfl) (by kernel_rfl) ?_;simp only [Tc,Tz,Dc,Dz])
   ((iterate 2 (refine Rm.wpMix_plain rfl rfl ?_;go_big_quiet_step (fail);refine wpQuiet_nil ?_));(refine Rm.wpMix_load1 (fun W9' h9=>show W9'.cell? _=some (.int .i64 m.frm) from bx_cell (Ext.box h9 M2.out) 1) rfl rfl rfl Tryz.underlying3 rfl ?_;simp only [Act.put,Sa,Sz,Ss]);(iterate 1 (refine Rm.wpMix_plain rfl rfl ?_;go_big_quiet_step (fail);refine wpQuiet_nil ?_));(refine Rm.wpMix_load1 (fun W9' h9=>show W9'.cell? _=some (.int .i64 m.view) from bx_cell (Ext.box h9 M2.out) 2) rfl rfl rfl Tryz.underlying3 rfl ?_;simp only [Act.put,Sa,Sz,Ss]);(iterate 1 (refine Rm.wpMix_plain rfl rfl ?_;go_big_quiet_step (fail);refine wpQuiet_nil ?_));(refine Rm.wpMix_nilp rfl rfl rfl ?_;simp only [Act.put,Sa,Sz,Ss]);(iterate 2 (refine Rm.wpMix_plain rfl rfl ?_;go_big_quiet_step (fail);refine wpQuiet_nil ?_));(refine Rm.wpMix_load1 (fun W9' h9=>show W9'.cell? _=some (.int .i64 R.commit) from bx_cell (Ext.box h9 K2.out.box) 5) rfl rfl rfl Tryz.underlying3 rfl ?_;simp only [Act.put,Sa,Sz,Ss]))
   refine Rm.wpMix_nil ?_
   rintro w3 hW3
   have K3:=Hd (K2.out.keep (show Ext w2 w3 from hW3))
   clear K2 M2 hW3
   go_wp2_with fail
   refine (c_askState K3.out m.frm m.view R.commit hos).mono ?_
   rintro e w4 ⟨rfl,A4,c4,a4,k4⟩
   have K4:=Hd k4
   clear k4
   go_wp2
   go_ret
   exact ⟨ret_bool HF.out,A4,c4,_,K4.out,HF0.out⟩
end
theorem KZ.ko {W0 w:World} {p:Nat} {a:LAd} {A:Option Addr} {c:Nat} {qs:List VtE} {R R':Rp} {Ao:Option Addr} {co:Nat} {os:List OtE} {O:List Ot} (h:KZ W0 w p a A c qs R Ao co os) (hR:R=R') (hO:os.map Prod.snd=O):KO W0 w p R' O:=by
 subst hR
 exact ⟨a,A,c,qs,Ao,co,os,h,hO⟩
section
variable {W0 W:World} {p P:Nat} {r:Rp} {am:LAd} {m:Mg}
set_option maxRecDepth 100000 in
set_option maxHeartbeats 8000000 in
theorem c_old1 (hk:KO W0 W p r []) (hP:W0.heap[P]?=some (Mg.obj am m)) (hold:m.view < r.view) (hb:(rpOk r && hearB r m 2)=true) :
  Calls Tryz.prog 28 #[.pointer (some ⟨p,0,none⟩), .pointer (some ⟨P,0,none⟩)] W fun e w'=>e = .returned (.tuple #[])∧KO W0 w' p r []:=by
 obtain ⟨a,A,c,qs,Ao,co,os,hk,hos⟩:=hk
 obtain rfl:os=[]:=by simpa using hos
 have G:=Hd (rpOk_good (hear_facts hb).1)
 have HK:=Hd hk
 have HM:=Hd (hk.x.box hP)
 have gf:(liveB r && followB r m)=false:=by
  have:(m.view == r.view)=false:=by simp;omega
  unfold followB
  rw [this]
  simp
 have go0:followO r m=[]:=by
  unfold followO
  have:decide (r.view < m.view)=false:=by simp;omega
  rw [this]
  simp
 have HF:=Hd gf
 have HO:=Hd go0
 clear hk hP hos gf go0
 go_enter Tryz.func28,Tryz.ntmps28
 (go_wp2_with (with_reducible refine wl_stop 4 ?_);refine stop_load (HM.out) rfl Tryz.underlying43 (by kernel_rfl) ?_;simp only [Act.put,Sa,Sz,Ss])
 go_wp2_with fail
 refine (c_follows HK.out am m (by simp) G.out.of G.out.view0).mono ?_
 rintro e w1 ⟨rfl,A1,c1,os1,k1,ho1⟩
 obtain rfl:os1=[]:=by rw [HO.out] at ho1;simpa using ho1
 have K1:=Hd k1
 clear k1 ho1 HK HM
 have gf:=HF.out
 go_wp2
 exact bodyPost_ret (v := .tuple #[]) (by simp [results,Tryz.results28,go_sem]) rfl ⟨rfl,K1.out.ko rfl rfl⟩
end
set_option maxRecDepth 100000 in
set_option maxHeartbeats 4000000 in
theorem c_iOldPrepare (a:LAd) (A:Option Addr) (c:Nat) (ps:List VtE) (r:Rp) (am:LAd) (m:Mg) (w:World) (hr:RpR w a A c ps r) (hs:r.log.small) (hn:ps.length≤1048576) (hv:LgS ps) (hm:LgR w am m.log) (hms:m.log.small) (hold:m.view < r.view) :
  Calls Tryz.prog 10 #[Rp.val a A ps.length c r,Mg.val am m] w fun e w'=>∃ v,e = .returned v∧RoY w' w.heap.size (hearR2 r m 2 r) (hearO r m 2 []) v∧Ext w w':=by
 have X0:Ext w (((w.alloc (Rp.obj a A ps.length c r)).alloc (Mg.obj am m)).alloc Rp.zobj):=ext_to (ext_to (ext_alloc _ _) _) _
 have D1:=Hd (hOld (o:=Rp.zobj) (hOld (o:=Mg.obj am m) (hNew (w:=w) (o:=Rp.obj a A ps.length c r) rfl)))
 have D2:=Hd (hOld (o:=Rp.zobj) (hNew (w:=w.alloc (Rp.obj a A ps.length c r)) (o:=Mg.obj am m) (k:=w.heap.size+1) (by simp)))
 have D3:=Hd (hNew (w:=(w.alloc (Rp.obj a A ps.length c r)).alloc (Mg.obj am m)) (o:=Rp.zobj) (k:=w.heap.size+1+1) (by simp))
 have HM:=Hd (hm.keep X0)
 have HH:=Hd (c_hears3 a A c ps r am m 2 28 #[.pointer (some ⟨w.heap.size+1,0,none⟩)] r [] (((w.alloc (Rp.obj a A ps.length c r)).alloc (Mg.obj am m)).alloc Rp.zobj) (hr.keep X0) hs hn hv (hm.keep X0) hms (enters Tryz.func28 (by kernel_rfl) rfl)
  (fun h1 W0 W p hx hk=>c_old1 hk (Ext.box hx D2.out) hold h1))
 have HX0:=Hd X0
 clear X0 hr hm hv HM
 go_enter Tryz.func10,Tryz.ntmps10
 (go_wp2_with (with_reducible refine wl_stop 6 ?_);refine stop_load (D1.out) rfl Tryz.underlying33 (by kernel_rfl) ?_;simp only [Act.put,Sa,Sz,Ss])
 (go_wp2_with (with_reducible refine wl_stop 7 ?_);refine stop_load (D2.out) rfl Tryz.underlying43 (by kernel_rfl) ?_;simp only [Act.put,Sa,Sz,Ss])
 go_wp2_with fail
 refine HH.out.mono ?_
 rintro e w1 ⟨v,rfl,⟨a1,A1,c1,qs,Ao,co,os,rfl,h1,h2,h3,h4⟩,x1⟩
 have E3:=Hd (x1.box D3.out)
 have X1:=Hd (Ext.trans HX0.out x1)
 have H1:=Hd h1
 have H2:=Hd h2
 have H3:=Hd h3
 have H4:=Hd h4
 clear h1 h2 h3 h4 x1 HH D1 D2 D3
 (go_wp2_with (with_reducible refine wl_stopS 33 ?_);refine stop_store ((w.heap.size+1+1)) (Rp.cs a1 A1 qs.length c1 (hearR2 r m 2 r)) rfl rfl (E3.out) (by kernel_rfl) rfl (by simp [Value.oneCell']) ?_)
 intro W9 e9 k9
 have HE9:=Hd e9
 have HF:=Hd (RoY.kept0 H1.out H2.out H3.out H4.out k9 (B':=w.heap.size) (by simp) (by simp;omega))
 have HX9:=Hd (chg_new X1.out k9 (by omega))
 clear e9 k9
 go_wp2
 exact bodyPost_ret (results_box2 Tryz.results10 rfl rfl Tryz.underlying33 (by kernel_rfl) HE9.out) rfl ⟨_,rfl,HF.out,HX9.out⟩
end Go.Proofs.YtikelfmmldafpaaGreat
