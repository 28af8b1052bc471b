/- FnTurns: the walk of the law. -/
import Derived.Test.YtikelfmmldafpaaGreatPk43
import Derived.Test.YtikelfmmldafpaaGreatPk45
import Derived.Test.YtikelfmmldafpaaGreatPk48
import Derived.Test.YtikelfmmldafpaaGreatPk51
namespace Go.Proofs.YtikelfmmldafpaaGreat.l19
open Go.ChangeShapes Go.WideShapes Go.ChangeAt Go.RowKit Go.Joins Go.Deep Go.Sort
set_option linter.unusedVariables false
set_option linter.unusedSimpArgs false
theorem c_iLogEnd (a:LAd) (l:Lg) (s1:l.cells.length≤1048576) (s2:l.seats.length≤1048576) (s3:l.ents.length≤1048576) (w:World) (hr:LgR w a l) (hok:logOk l=true) :
  Calls Tryz.prog 11 #[Lg.val a l] w fun e w'=>e = .returned (.int .i64 l.fin)∧Ext w w':=by
 have X0:=ext_alloc w (Lg.obj a l)
 have hb:=(inB_yes _ _ _).1 (of_decide_eq_true hok).1
 obtain ⟨hb0,hb1⟩:=hb
 have hcon:=c_iLogOk a l s1 s2 s3 _ (hr.keep X0)
 rw [hok] at hcon
 go_enter Tryz.func11,Tryz.ntmps11
 go_wp2_with fail
 refine hcon.mono ?_
 rintro e w1 ⟨rfl,x1⟩
 have b1:=bx_cell (x1.box (hNew (w:=w) (o:=Lg.obj a l) rfl))
 clear hcon
 go_wp2_with fail
 refine (c_end a l w1 (by omega) (by omega) s3).mono ?_
 rintro e w2 ⟨rfl,x2⟩
 go_wp2
 go_ret
 exact ⟨rfl,Ext.trans X0 (Ext.trans x1 x2)⟩
theorem said_none {r:Rp} (h:(rpOk r && turnB r)=false):turnO r=[]:=by
 unfold turnO
 rw [h]
 rfl
structure Next (r R:Rp) (O:List Ot):Prop where
 view:R.view=r.view+1
 cell:R.cell=r.view+1
 ok:rpOk R=true
 len:r.of - 1≤(O.length:Int)
theorem next_of {r:Rp} (h:rpOk r=true) (hb:turnB r=true):Next r (turnR r) (turnO r):=by
 obtain ⟨⟨h1,h2⟩,h3,h4⟩:=begin_ok h hb
 have e1:turnR r=beginR r (r.view+1):=by unfold turnR;rw [if_pos h,if_pos hb]
 have e2:turnO r=beginO r (r.view+1):=by unfold turnO;rw [h,hb];rfl
 rw [e1,e2]
 exact ⟨h1,h2,h3,h4⟩
def oldM (r:Rp):Mg:=⟨2,Int.tmod (r.me+1) r.of,r.view,r.log.fin+1,0,0,0,1,1,0,1,0,0,Lg.none⟩
theorem hear_old {R:Rp} {m:Mg} (h:rpOk R=true):hearR2 R m 2 R=R∧hearO R m 2 []=[]:=by
 unfold hearR2 hearO
 rw [if_pos h]
 constructor
 ·split <;> rfl
 ·split <;> rfl
theorem no_turn {r:Rp} (h:rpOk r=true) (hl:liveB r=true) (hb:turnB r=false):r.view=1000000000:=by
 have h1:=(inB_yes _ _ _).1 (parts h).view
 unfold turnB at hb
 rw [hl] at hb
 simp at hb
 omega
theorem live_modes {r:Rp}:(liveB r=false→(r.mode != 1)=true∧(r.mode != 2)=true)∧(liveB r=true→(r.mode != 1)=false∨((r.mode != 1)=true∧(r.mode != 2)=false)):=by
 unfold liveB
 by_cases h1:r.mode=1
 ·simp [h1]
 ·by_cases h2:r.mode=2
  ·simp [h2]
  ·simp [h1,h2]
theorem logs_ok {R:Rp} (h:rpOk R=true) {qs:List VtE} (hq:qs.map Prod.snd=R.votes):logOk R.log=true∧R.log.small∧LgS qs∧qs.length≤1048576:=by
 have g:=rpOk_good h
 have hall:∀ q∈qs,q.2.log.small:=fun q hm=>by
  have h1:q.2∈R.votes:=by rw [←hq];exact List.mem_map_of_mem hm
  unfold rpOk at h
  simp only [Bool.and_eq_true] at h
  exact logOk_small (vtOk_log (List.all_eq_true.1 h.1.2 _ h1)).1
 have hn:qs.length≤20:=by have:=g.votes;rw [←hq,List.length_map] at this;exact this
 exact ⟨g.lok,logOk_small g.lok,hall,by omega⟩
set_option maxHeartbeats 8000000 in
set_option maxRecDepth 100000 in
theorem walk (A:Option Addr) (n c:Nat) (w:World) (hb:BytesR w A n) (hnc:n≤c) (hcm:c≤9223372036854775807):Calls Tryz.prog 3 #[.slice A n c] w fun e w'=>e = .returned (.bool true)∧Ext w w':=by
 by_cases hn:n≤1048576
 ·go_enter Tryz.func3,Tryz.ntmps3
  go_wp2_with fail
  refine (c_big_no A n c w hn).mono ?_
  rintro e w0 ⟨rfl,x0⟩
  have hc:CodeOk w0 A n w0.heap.size:=⟨hn,fun h0=>by
   obtain ⟨b,o,e,hbl,hcell⟩:=hb h0
   exact ⟨b,o,e,Nat.lt_of_lt_of_le hbl x0.size,fun k hk=>by
    obtain ⟨y,hy,hy2⟩:=hcell k hk
    exact ⟨y,hy,(old_cell x0 hbl).trans hy2⟩⟩⟩
  go_wp2_with fail
  refine (Ai.turn_draw hc hnc hcm).mono ?_
  rintro e w1 ⟨a,V,d,ps,r,rfl,hr,_,hl,hpl,hs,x1⟩
  have HR:=Hd hr
  have HS:=Hd (show LgS ps from fun p hp=>hs p hp)
  have HL:=Hd (show r.log.small from hl)
  have X1:=Hd (Ext.trans x0 x1)
  have Z1:=Hd (hNew (w:=w1) (o:=Rp.zobj) rfl)
  clear hc hb x0 x1 hr hl hs
  (go_wp2_with (with_reducible refine wl_stopS 33 ?_);refine stop_store (w1.heap.size) (Rp.cs a V ps.length d r) rfl rfl (Z1.out) (by kernel_rfl) rfl (by simp [Value.oneCell']) ?_)
  intro w2 e2 k2
  have x2:=chg_new (ext_alloc w1 Rp.zobj) k2 (Nat.le_refl _)
  have E2:=Hd e2
  have R2:=Hd (HR.out.keep x2)
  have X2:=Hd (Ext.trans X1.out x2)
  clear e2 k2 x2 Z1 X1 HR
  obtain ⟨R,hRR⟩:∃ R,turnR r=R:=⟨_,rfl⟩
  obtain ⟨O,hOO⟩:∃ O,turnO r=O:=⟨_,rfl⟩
  have HI:=c_iTurn a V d ps r w2 R2.out HL.out hpl HS.out
  have HT:=fun W h=>c_sTurn a V d ps r W h HL.out hpl HS.out
  have HK:=Hd (fun W h=>c_sReplicaOk a V d ps r W h HL.out hpl HS.out)
  simp only [hRR,hOO] at HI HT
  have HI:=Hd HI
  have HT:=Hd HT
  have HRR:=Hd hRR
  have HOO:=Hd hOO
  clear hRR hOO
  (go_wp2_with (with_reducible refine wl_stop 16 ?_);refine stop_load (E2.out) rfl Tryz.underlying33 (by kernel_rfl) ?_;simp only [Act.put,Sa,Sz,Ss])
  go_wp2_with fail
  refine HI.out.mono ?_
  rintro e w3 ⟨v3,rfl,⟨a3,A3,c3,qs3,Ao,co,os,rfl,o3,oo3,hm3,_⟩,x3⟩
  have E3:=Hd (x3.box E2.out)
  have R3:=Hd (R2.out.keep x3)
  have X3:=Hd (Ext.trans X2.out x3)
  have O3:=Hd o3.rd
  have HM3:=Hd hm3
  have Z3:=Hd (hNew (w:=w3) (o:=Rp.zobj) rfl)
  have s3:=bx_lt E3.out
  clear o3 oo3 hm3 x3 E2 R2 X2 HI
  (go_wp2_with (with_reducible refine wl_stopS 33 ?_);refine stop_store (w3.heap.size) (Rp.cs a3 A3 qs3.length c3 R) rfl rfl (Z3.out) (by kernel_rfl) rfl (by simp [Value.oneCell']) ?_)
  intro w4 e4 k4
  have x4:=chg_new (ext_alloc w3 Rp.zobj) k4 (Nat.le_refl _)
  have F4:=Hd e4
  have E4:=Hd (x4.box E3.out)
  have R4:=Hd (R3.out.keep x4)
  have O4:=Hd (O3.out.keep x4)
  have X4:=Hd (Ext.trans X3.out x4)
  clear e4 k4 x4 Z3 E3 R3 O3 X3
  (go_wp2_with (with_reducible refine wl_stop 21 ?_);refine stop_load (E4.out) rfl Tryz.underlying33 (by kernel_rfl) ?_;simp only [Act.put,Sa,Sz,Ss])
  go_wp2_with fail
  refine (HT.out _ R4.out).mono ?_
  rintro e w5 ⟨v5,rfl,⟨a5,A5,c5,qs5,Ap,cp,op,rfl,_,_,hm5,_⟩,x5⟩
  have E5:=Hd (x5.box E4.out)
  have F5:=Hd (x5.box F4.out)
  have R5:=Hd (R4.out.keep x5)
  have O5:=Hd (O4.out.keep x5)
  have X5:=Hd (Ext.trans X4.out x5)
  have Z5:=Hd (hNew (w:=w5) (o:=Rp.zobj) rfl)
  have hlen:(((os.length:Nat):Int) != ((op.length:Nat):Int))=false:=by
   have:os.length=op.length:=by
    have h1:=congrArg List.length (HM3.out.trans hm5.symm)
    simpa using h1
   simp [this]
  have s5:=bx_lt E5.out
  have t5:=bx_lt F5.out
  clear hm5 x5 E4 F4 R4 O4 X4 HT
  (go_wp2_with (with_reducible refine wl_stopS 33 ?_);refine stop_store (w5.heap.size) (Rp.cs a5 A5 qs5.length c5 R) rfl rfl (Z5.out) (by kernel_rfl) rfl (by simp [Value.oneCell']) ?_)
  intro w6 e6 k6
  have x6:=chg_new (ext_alloc w5 Rp.zobj) k6 (Nat.le_refl _)
  have G6:=Hd e6
  have E6:=Hd (x6.box E5.out)
  have F6:=Hd (x6.box F5.out)
  have R6:=Hd (R5.out.keep x6)
  have O6:=Hd (O5.out.keep x6)
  have X6:=Hd (Ext.trans X5.out x6)
  clear e6 k6 x6 Z5 E5 F5 R5 O5 X5
  have dB:=bx_cell F6.out
  have dC:=bx_cell G6.out
  have v1:(R.view != R.view)=false:=by simp
  have v2:(R.mode != R.mode)=false:=by simp
  (go_wp2_with (with_reducible refine wl_stop 44 ?_);refine stop_load (E6.out) rfl Tryz.underlying33 (by kernel_rfl) ?_;simp only [Act.put,Sa,Sz,Ss])
  go_wp2_with fail
  refine (HK.out _ R6.out).mono ?_
  rintro e w7 ⟨rfl,x7⟩
  have E7:=Hd (x7.box E6.out)
  have F7:=Hd (x7.box F6.out)
  have R7:=Hd (R6.out.keep x7)
  have O7:=Hd (O6.out.keep x7)
  have X7:=Hd (Ext.trans X6.out x7)
  clear x7 E6 F6 G6 R6 O6 X6 HK dB dC v1 v2 hlen
  have HRQ:=Hd O7.out.e
  cases q:rpOk r
  ·have hO:O=[]:=by rw [←HOO.out];exact said_none (by rw [q];rfl)
   obtain rfl:os=[]:=by have:=HM3.out;rw [hO] at this;simpa using this
   clear hO q
   go_wp2
   go_ret
   exact ⟨rfl,X7.out⟩
  ·cases hl:liveB r
   ·have hO:O=[]:=by rw [←HOO.out];exact said_none (by unfold turnB;rw [hl];simp)
    obtain rfl:os=[]:=by have:=HM3.out;rw [hO] at this;simpa using this
    obtain ⟨m1,m2⟩:=(live_modes (r:=r)).1 hl
    have dA:=bx_cell E7.out
    clear hO q hl
    go_wp2
    go_ret
    exact ⟨rfl,X7.out⟩
   ·cases tb:turnB r
    ·have hO:O=[]:=by rw [←HOO.out];exact said_none (by rw [tb];simp)
     obtain rfl:os=[]:=by have:=HM3.out;rw [hO] at this;simpa using this
     have hmx:(r.view == 1000000000)=true:=by simp [no_turn q hl tb]
     have dA:=bx_cell E7.out
     rcases (live_modes (r:=r)).2 hl with m1 | ⟨m1,m2⟩
     all_goals
      clear hO q hl tb
      go_wp2
      go_ret
      exact ⟨rfl,X7.out⟩
    ·rcases (live_modes (r:=r)).2 hl with m1 | ⟨m1,m2⟩
     all_goals
      have N:=next_of q tb
      rw [HRR.out,HOO.out] at N
      have g:=rpOk_good q
      have hof:=g.of
      have lok:=g.lok
      have hLk:=Hd lok
      have n0:(r.view == 1000000000)=false:=by
       have:=(turn_parts tb).2
       simp
       omega
      have n1:(R.view != r.view+1)=false:=by simp [N.view]
      have n2:(R.cell != R.view)=false:=by simp [N.view,N.cell]
      have n3:decide (((os.length:Nat):Int) < r.of - 1)=false:=by
       have h1:=N.len
       rw [←HM3.out,List.length_map] at h1
       simp
       omega
      have n4:r.of≠0:=by omega
      have n5:(r.of == 0)=false:=by simpa using n4
      have n6:-1000000000≤r.me∧r.me≤1000000000:=by have:=rpOk_facts q;omega
      have n7:0≤r.log.fin∧r.log.fin≤2000000000:=by have:=logOk_facts lok;unfold Lg.fin;omega
      obtain ⟨l1,l2,l3,l4⟩:=logs_ok N.ok HRQ.out
      have HN:=Hd N
      have HL3:=Hd l3
      have HSm:=Hd l2
      have HLk:=Hd l1
      have dA:=bx_cell E7.out
      have dB:=bx_cell F7.out
      have hv1:=rpOk_good q
      have hv0:=hv1.view0
      have hvm:=hv1.view1
      clear N g hof lok l1 l2 l3 q tb hv1
      go_wp2
      (refine Rm.wp_region_mix' (R:=relE w7.heap.size) (fun _ _ _=>True) (fun _ _ _ _ _ hq=>hq) 15 (by first | exact Nat.le_refl _ | omega | (simp;omega)) (by kernel_rfl) (by kernel_rfl) ?_;simp only [Tc,Tz,Dc,Dz])
      ((iterate 1 (refine Rm.wpMix_plain rfl rfl ?_;go_big_quiet_step (fail);refine wpQuiet_nil ?_));(refine Rm.wpMix_load1 (fun W9' h9=>show W9'.cell? _=some (.int .i64 r.me) from bx_cell (Ext.box h9 E7.out) 0) rfl rfl rfl Tryz.underlying3 rfl ?_;simp only [Act.put,Sa,Sz,Ss]);(iterate 2 (refine Rm.wpMix_plain rfl rfl ?_;go_big_quiet_step (fail);refine wpQuiet_nil ?_));(refine Rm.wpMix_load1 (fun W9' h9=>show W9'.cell? _=some (.int .i64 r.of) from bx_cell (Ext.box h9 E7.out) 1) rfl rfl rfl Tryz.underlying3 rfl ?_;simp only [Act.put,Sa,Sz,Ss]);(iterate 2 (refine Rm.wpMix_plain rfl rfl ?_;go_big_quiet_step (fail);refine wpQuiet_nil ?_));(refine Rm.wpMix_load1 (fun W9' h9=>show W9'.cell? _=some (.int .i64 r.view) from bx_cell (Ext.box h9 E7.out) 3) rfl rfl rfl Tryz.underlying3 rfl ?_;simp only [Act.put,Sa,Sz,Ss]);(iterate 1 (refine Rm.wpMix_plain rfl rfl ?_;go_big_quiet_step (fail);refine wpQuiet_nil ?_)))
      (refine Rm.wpMix_loadAgg (fun W9' h9=>rp_log E7.out h9) rfl rfl rfl Tryz.underlying30 (by kernel_rfl) ?_;simp only [Act.put,Sa,Sz,Ss])
      (refine Rm.wpMix_det rfl rfl rfl (enters Tryz.func9 (by kernel_rfl) rfl) (fun W9' h9=>c_sLogEnd a r.log HL.out.1 HL.out.2.1 HL.out.2.2 W9' (R7.out.l.keep h9) hLk.out) rfl ?_;simp only [Act.put,Sa,Sz,Ss])
      (iterate 3 (refine Rm.wpMix_plain rfl rfl ?_;go_big_quiet_step (fail);refine wpQuiet_nil ?_))
      (refine Rm.wpMix_alloc (Mg.zobj) rfl (fun W=>by kernel_rfl) ?_;intro p5 hp5 hps5 hpi5;simp only [layVal,Act.put,Sa,Sz,Ss])
      refine Rm.wpMix_nil ?_
      rintro w8 ⟨h8,hz8⟩
      have x8:Ext w7 w8:=h8
      have hp5':w7.heap.size≤p5:=hp5
      have HZ8:=Hd hz8
      have HX8:=Hd x8
      clear h8 hz8 x8 hp5 hps5 hpi5 n0 n1 n2 n3 dA dB
      (go_wp2_with (with_reducible refine wl_stopS 43 ?_);refine stop_store (p5) (Mg.cs LAd.none (oldM r)) rfl rfl (HZ8.out) (by kernel_rfl) rfl (by simp [Value.oneCell']) ?_)
      intro w9 e9 k9
      have x9:Ext w7 w9:=ext_chg HX8.out k9 (fun g hg=>by rw [Mi] at hg;omega)
      have M9:=Hd e9
      have F9:=Hd (x9.box F7.out)
      have O9:=Hd (O7.out.keep x9)
      have X9:=Hd (Ext.trans X7.out x9)
      have s9:=bx_lt F9.out
      clear e9 k9 x9 HZ8 HX8 E7 F7 R7 O7 X7
      (go_wp2_with (with_reducible refine wl_stop 101 ?_);refine stop_load (F9.out) rfl Tryz.underlying33 (by kernel_rfl) ?_;simp only [Act.put,Sa,Sz,Ss])
      (go_wp2_with (with_reducible refine wl_stop 102 ?_);refine stop_load (M9.out) rfl Tryz.underlying43 (by kernel_rfl) ?_;simp only [Act.put,Sa,Sz,Ss])
      have HP:=c_iOldPrepare a3 A3 c3 qs3 R LAd.none (oldM r) w9 O9.out HSm.out l4 HL3.out (none_lgF w9 0).rd (show Lg.none.small from ⟨by decide,by decide,by decide⟩) (by have:=HN.out.view;show r.view < R.view;omega)
      rw [(hear_old HN.out.ok).1,(hear_old HN.out.ok).2] at HP
      have HP:=Hd HP
      go_wp2_with fail
      refine HP.out.mono ?_
      rintro e w10 ⟨v10,rfl,⟨a10,A10,c10,qs10,Aq,cq,oq,rfl,o10,_,hm10,_⟩,x10⟩
      obtain rfl:oq=[]:=by simpa using hm10
      have F10:=Hd (x10.box F9.out)
      have O10:=Hd (O9.out.keep x10)
      have P10:=Hd o10.rd
      have X10:=Hd (Ext.trans X9.out x10)
      have Z10:=Hd (hNew (w:=w10) (o:=Rp.zobj) rfl)
      have s10:=bx_lt F10.out
      clear o10 hm10 x10 F9 M9 O9 X9 HP
      (go_wp2_with (with_reducible refine wl_stopS 33 ?_);refine stop_store (w10.heap.size) (Rp.cs a10 A10 qs10.length c10 R) rfl rfl (Z10.out) (by kernel_rfl) rfl (by simp [Value.oneCell']) ?_)
      intro w11 e11 k11
      have x11:=chg_new (ext_alloc w10 Rp.zobj) k11 (Nat.le_refl _)
      have G11:=e11
      have F11:=x11.box F10.out
      have O11:=Hd (O10.out.keep x11)
      have P11:=Hd (P10.out.keep x11)
      have X11:=Hd (Ext.trans X10.out x11)
      have dB:=bx_cell F11
      have dG:=bx_cell G11
      have lB:=bx_lt F11
      have lG:=bx_lt G11
      have HC1:=Hd (fun W (h:Ext w11 W)=>c_iLogEnd a10 R.log HSm.out.1 HSm.out.2.1 HSm.out.2.2 W (P11.out.l.keep h) HLk.out)
      have HC2:=Hd (fun W (h:Ext w11 W)=>c_iLogEnd a3 R.log HSm.out.1 HSm.out.2.1 HSm.out.2.2 W (O11.out.l.keep h) HLk.out)
      have v1:(R.view == R.view)=true:=by simp
      have v2:(R.log.fin == R.log.fin)=true:=by simp
      clear e11 k11 x11 Z10 F10 O10 P10 X10 F11 G11
      go_wp2
      (refine wp_region_mix' (fun _ _ _ _ _ hq=>hq) 20 (by kernel_rfl) (by kernel_rfl) (fun hg=>?_);simp only [headOps,Tc,Tz,List.filter_cons,List.filter_nil,isAlloc,Bool.not_false,Bf,if_true,if_false,List.append_nil,Dc,Dz])
      (repeat (first | (refine wpMix_plain rfl rfl ?_;go_big_quiet_step (fail);refine wpQuiet_nil ?_) | (refine wpMix_skip rfl rfl ?_;simp only [Act.put,Sa,Sz,Ss]) | (refine wpMix_det rfl rfl rfl (enters Tryz.func11 (by kernel_rfl) rfl) (fun W hW=>HC1.out W hW) rfl ?_;simp only [Act.put,Sa,Sz,Ss]) | (refine wpMix_det rfl rfl rfl (enters Tryz.func11 (by kernel_rfl) rfl) (fun W hW=>HC2.out W hW) rfl ?_;simp only [Act.put,Sa,Sz,Ss])))
      (refine wpMix_nil ?_;intro w12 hw12)
      go_wp2
      go_ret
      exact ⟨rfl,Ext.trans X11.out hw12⟩
 ·go_enter Tryz.func3,Tryz.ntmps3
  go_wp2_with fail
  refine (c_big_yes A n c w (by omega) (by omega)).mono ?_
  rintro e w0 ⟨rfl,x0⟩
  go_wp2
  go_ret
  exact ⟨rfl,x0⟩
end Go.Proofs.YtikelfmmldafpaaGreat.l19
