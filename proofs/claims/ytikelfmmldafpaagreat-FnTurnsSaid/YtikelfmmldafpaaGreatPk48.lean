/- The keeper begins to turn; what is done at a message to turn, and at what others say of themselves. -/
import Derived.Test.YtikelfmmldafpaaGreatPk47
import Derived.Test.YtikelfmmldafpaaGreatPk45
import Derived.Test.YtikelfmmldafpaaGreatPk16
namespace Go.Proofs.YtikelfmmldafpaaGreat
open Go.ChangeShapes Go.WideShapes Go.ChangeAt Go.RowKit Go.Sort
set_option linter.unusedVariables false
set_option linter.unusedSimpArgs false
section
variable {W0 w:World} {p:Nat} {a:LAd} {A:Option Addr} {c:Nat} {qs:List VtE} {R:Rp} {Ao:Option Addr} {co:Nat} {os:List OtE}
theorem none_F (w:World) (B:Nat):LgF w B LAd.none Lg.none:=⟨RdF.nil _ _ _ _ _,RdF.nil _ _ _ _ _,RdF.nil _ _ _ _ _⟩
set_option maxRecDepth 100000 in
set_option maxHeartbeats 8000000 in
theorem c_begin (hk:KZ W0 w p a A c qs R Ao co os) (ht:RpT R) (view:Int) (h0:0≤view) (h1:view≤1000000000) (hos:os.length≤20000) :
  Calls Tryz.prog 16 #[.pointer (some ⟨p,0,none⟩), .int .i64 view] w fun e w'=>e = .returned (.tuple #[])∧∃ a' A' c' qs' A2 c2 os',KZ W0 w' p a' A' c' qs' (beginR R view) A2 c2 (os++os')∧List.map Prod.snd os'=beginO R view:=by
 have B0:=hk.box
 have d:=bx_cell B0
 have g:=bx_frozen B0
 have z:=bx_lt B0
 have P0:=box_put (box_put (box_put (box_put B0 2 (.int .i64 2)) 3 (.int .i64 view)) 11 (.int .i64 view)) 10 (.slice none 0 0)
 simp only [Sa,Sz,Ss] at P0
 have c0:=chg_set (chg_set (chg_set (chg_set (Chg.refl w [p]) (p:=⟨p,2,none⟩) (by simp) (.int .i64 2)) (p:=⟨p,3,none⟩) (by simp) (.int .i64 view)) (p:=⟨p,11,none⟩) (by simp) (.int .i64 view)) (p:=⟨p,10,none⟩) (by simp) (.slice none 0 0)
 have HP0:=Hd (hk.novotes (R':=R.turned view) c0 P0 rfl rfl)
 have HT:=Hd ht
 have HTT:=Hd (ht.turned h0 h1)
 clear hk B0 P0 c0 ht
 go_enter Tryz.func16,Tryz.ntmps16
 go_wp2_with fail
 refine (c_sendAllZ W0 p a none 0 [] (R.turned view) os Ao co LAd.none (turnM R.me view) _ W0.heap.size R.of.toNat HP0.out (show R.of=_ by have:=HT.out.of;omega) (by have:=HT.out.of;omega) (none_F _ _) (show Lg.none.small from none_small) (by omega)).mono ?_
 rintro e w2 ⟨rfl,A2,c2,os2,k2,ho2⟩
 have hl2:os2.length≤5:=by
  have h2:=congrArg List.length ho2
  rw [List.length_map] at h2
  have h3:=allTo_len (R.turned view).me (turnM R.me view) R.of.toNat
  have h4:=HT.out.of
  omega
 have K2:=Hd k2
 have HO2:=Hd ho2
 clear k2 ho2 d g z HP0
 go_wp2_with fail
 refine (c_look K2.out HTT.out (by rw [List.length_append];omega)).mono ?_
 rintro e w3 ⟨rfl,a3,A3,c3,qs3,A4,c4,os3,k3,ho3⟩
 have K3:=Hd (show KZ W0 w3 p a3 A3 c3 qs3 (beginR R view) A4 c4 (os++(os2++os3)) by rw [←List.append_assoc];exact k3)
 have HO3:=Hd (show List.map Prod.snd (os2++os3)=beginO R view by rw [List.map_append,HO2.out,ho3];rfl)
 clear k3 ho3 K2
 go_wp2
 exact bodyPost_end (v := .tuple #[]) (by simp [results,Tryz.results16,go_sem]) rfl ⟨rfl,a3,A3,c3,qs3,A4,c4,os2++os3,K3.out,HO3.out⟩
end
section
variable {W0 W:World} {p P Q:Nat} {r:Rp} {am:LAd} {m:Mg}
end
theorem turn_no {r:Rp} (h:rpOk r=true) (hb:turnB r=false):turnR r=r∧turnO r=[]:=by
 constructor
 ·unfold turnR;rw [if_pos h,hb];rfl
 ·unfold turnO;rw [h,hb];rfl
theorem turn_yes {r:Rp} (h:rpOk r=true) (hb:turnB r=true):turnR r=beginR r (r.view+1)∧turnO r=beginO r (r.view+1):=by
 constructor
 ·unfold turnR;rw [if_pos h,hb];rfl
 ·unfold turnO;rw [h,hb];rfl
set_option maxRecDepth 100000 in
set_option maxHeartbeats 8000000 in
theorem c_iTurn (a:LAd) (A:Option Addr) (c:Nat) (ps:List VtE) (r:Rp) (w:World) (hr:RpR w a A c ps r) (hs:r.log.small) (hn:ps.length≤1048576) (hv:LgS ps) :
  Calls Tryz.prog 6 #[Rp.val a A ps.length c r] w fun e w'=>∃ v,e = .returned v∧RoY w' w.heap.size (turnR r) (turnO r) v∧Ext w w':=by
 have X0:Ext w ((w.alloc (Rp.obj a A ps.length c r)).alloc Rp.zobj):=ext_to (ext_alloc _ _) _
 have hcon:=c_iReplicaOk a A c ps r _ (hr.keep X0) hs hn hv
 have HCp:=Hd (fun W (h:Ext w W)=>c_copyReplica a A c ps r W (hr.keep h) hs hn hv)
 have D1:=Hd (hOld (o:=Rp.zobj) (hNew (w:=w) (o:=Rp.obj a A ps.length c r) rfl))
 have D3:=Hd (hNew (w:=w.alloc (Rp.obj a A ps.length c r)) (o:=Rp.zobj) (k:=w.heap.size+1) (by simp))
 have HX0:=Hd X0
 clear X0 hr hv hs
 cases q:rpOk r
 ·rw [q] at hcon
  have HC:=Hd hcon
  have HR:=Hd (show turnR r=Rp.zero∧turnO r=[] by simp [turnR,turnO,q])
  clear q hcon HCp
  go_enter Tryz.func6,Tryz.ntmps6
  (go_wp2_with (with_reducible refine wl_stop 5 ?_);refine stop_load (D1.out) rfl Tryz.underlying33 (by kernel_rfl) ?_;simp only [Act.put,Sa,Sz,Ss])
  go_wp2_with fail
  refine HC.out.mono ?_
  rintro e w1 ⟨rfl,x1⟩
  have HB:=Hd (x1.box D3.out)
  (go_wp2_with (with_reducible refine wl_stopS 33 ?_);refine stop_store ((w.heap.size+1)) #[.int .i64 0, .int .i64 0, .int .i64 0, .int .i64 0, .int .i64 0, .int .i64 0, .int .i64 0, .slice none 0 0, .slice none 0 0, .slice none 0 0, .slice none 0 0, .int .i64 0, .int .i64 0] rfl rfl (HB.out) (by kernel_rfl) rfl (by simp [Value.oneCell']) ?_)
  intro W4 E4 C4
  have hX4:=Hd (chg_new (Ext.trans HX0.out x1) C4 (by omega))
  go_wp2
  refine bodyPost_ret (results_box2 Tryz.results6 rfl rfl Tryz.underlying33 (by kernel_rfl) E4) rfl ⟨_,rfl, ?_,hX4.out⟩
  rw [HR.out.1,HR.out.2]
  exact ⟨LAd.none,none,0,[],none,0,[],rfl,RpO.none _ _ _ _ rfl rfl,OsO.nil _ _ _,rfl,by simp [vsF,LAd.fp,LAd.none,blk]⟩
 ·rw [q] at hcon
  have HC:=Hd hcon
  have HL:=Hd (show liveB r=true→RpT r from fun h=>rpOk_T q h)
  have HN:=Hd (turn_no q)
  have HY:=Hd (turn_yes q)
  have hg:=rpOk_good q
  have hv0:=hg.view0
  have hv1:=hg.view1
  clear q hcon hg
  go_enter Tryz.func6,Tryz.ntmps6
  (go_wp2_with (with_reducible refine wl_stop 5 ?_);refine stop_load (D1.out) rfl Tryz.underlying33 (by kernel_rfl) ?_;simp only [Act.put,Sa,Sz,Ss])
  go_wp2_with fail
  refine HC.out.mono ?_
  rintro e v1 ⟨rfl,x1⟩
  have B1:=Hd (x1.box D1.out)
  have B3:=Hd (x1.box D3.out)
  have X1:=Hd (Ext.trans HX0.out x1)
  have hs01:=HX0.out.size
  clear D1 D3 HX0 HC x1
  (go_wp2_with (with_reducible refine wl_stop 9 ?_);refine stop_load (B1.out) rfl Tryz.underlying33 (by kernel_rfl) ?_;simp only [Act.put,Sa,Sz,Ss])
  go_wp2_with fail
  refine (HCp.out _ X1.out).mono ?_
  rintro e w2 ⟨a',A',c',qs,rfl,hql,o2,x2⟩
  have HL2:=Hd hql
  have hs2:=X1.out.size
  have hs12:=x2.size
  have hlt2:=bx_lt B3.out
  have hoa:=o2.kept (ext_alloc w2 (Kp.obj a' A' ps.length c' r (.slice none 0 0)))
  have hka:KZ v1 (w2.alloc (Kp.obj a' A' ps.length c' r (.slice none 0 0))) w2.heap.size a' A' c' qs r none 0 []:=⟨by rw [HL2.out];exact hNew rfl,Ext.trans x2 (ext_alloc _ _),x2.size,hoa.wide (Nat.le_refl _) (by simp),World.ownsRow_nil _ _ _ _,OsQ.nil _ _,by simp⟩
  have HK0:=Hd hka
  clear o2 x2 hql B1 HCp hoa hka
  go_wp2_with fail
  refine (c_awake w2.heap.size a' A' qs.length c' r _ _ HK0.out.box).mono ?_
  rintro e w3 ⟨rfl,x3⟩
  have K3:=Hd (HK0.out.keep x3)
  clear x3 HK0
  cases gl:liveB r
  ·have HF:=Hd (HN.out (by unfold turnB;rw [gl];rfl))
   have HM:=Hd (show List.map Prod.snd ([]:List OtE)=[] from rfl)
   go_wp2
   refine code_go (F:=fun W=>KZ v1 W w2.heap.size a' A' c' qs r none 0 []) K3.out ?_
   intro W kz
   obtain ⟨a2,ha2⟩:∃ x,a'=x:=⟨_,rfl⟩
   obtain ⟨A2,hA2⟩:∃ x,A'=x:=⟨_,rfl⟩
   obtain ⟨c2,hc2⟩:∃ x,c'=x:=⟨_,rfl⟩
   obtain ⟨qs2,hqs2⟩:∃ x,qs=x:=⟨_,rfl⟩
   obtain ⟨Ao,hAo⟩:∃ x:Option Addr,x=none:=⟨_,rfl⟩
   obtain ⟨co,hco⟩:∃ x:Nat,x=0:=⟨_,rfl⟩
   obtain ⟨os,hos⟩:∃ x:List OtE,x=[]:=⟨_,rfl⟩
   rw [←hos] at HM
   rw [ha2,hA2,hc2,hqs2,←hos] at kz
   rw [←hAo,←hco] at kz
   clear K3 ha2 hA2 hc2 hqs2 hAo hco hos
   have BX:=Hd kz.box
   have RO:=Hd kz.rp
   have OO:=Hd kz.oso
   have DD:=Hd kz.dd
   have XK:=Hd kz.x
   have DW:=Hd (kz.x.box B3.out)
   have hsW:=kz.x.size
   have hlw:=kz.low
   have hs1':=X1.out.size
   clear kz
   have hq9:w.heap.size+1 < W.heap.size:=by omega
   have M:=Hd (fun W' (h:(relS (w.heap.size+1) (.cells (Rp.cs a2 A2 qs2.length c2 r) 33) W.heap.size hq9).rel W W')=>cells_mid (cs:=Rp.cs a2 A2 qs2.length c2 r) (relS_box BX.out (by omega) W' h) [] [.slice Ao (List.length os) co] rfl rfl)
   (refine Rm.wp_region_mix' (R:=relS (w.heap.size+1) (.cells (Rp.cs a2 A2 qs2.length c2 r) 33) W.heap.size hq9) (stored (w.heap.size+1) (.cells (Rp.cs a2 A2 qs2.length c2 r) 33)) (fun _ _ _ _ _ hq=>hq) 9 (by first | exact Nat.le_refl _ | omega | (simp;omega)) (by kernel_rfl) (by kernel_rfl) ?_;simp only [Tc,Tz,Dc,Dz])
   (iterate 1 (refine Rm.wpMix_plain rfl rfl ?_;go_big_quiet_step (fail);refine wpQuiet_nil ?_))
   (refine Rm.wpMix_nilp rfl rfl rfl ?_;simp only [Act.put,Sa,Sz,Ss])
   (iterate 1 (refine Rm.wpMix_plain rfl rfl ?_;go_big_quiet_step (fail);refine wpQuiet_nil ?_))
   (refine Rm.wpMix_loadAgg (M.out) rfl rfl rfl Tryz.underlying33 (by kernel_rfl) ?_;simp only [Act.put,Sa,Sz,Ss])
   (iterate 1 (refine Rm.wpMix_plain rfl rfl ?_;go_big_quiet_step (fail);refine wpQuiet_nil ?_))
   (refine Rm.wpMix_nilp rfl rfl rfl ?_;simp only [Act.put,Sa,Sz,Ss])
   (iterate 1 (refine Rm.wpMix_plain rfl rfl ?_;go_big_quiet_step (fail);refine wpQuiet_nil ?_))
   (refine Rm.wpMix_load1 (fun W' h=>show W'.cell? _=some (.slice Ao (List.length os) co) from bx_cell (relS_box BX.out (by omega) W' h) 13) rfl rfl rfl Tryz.underlying35 rfl ?_;simp only [Act.put,Sa,Sz,Ss])
   refine wpMix_st DW.out rfl rfl rfl rfl rfl (by kernel_rfl) rfl (by simp [Value.oneCell']) ?_
   simp only [Act.put,Sa,Sz,Ss]
   refine Rm.wpMix_nil ?_
   rintro W9 ⟨h9,E9⟩
   have c9:=h9.1
   have HE9:=Hd E9
   have HR9:=Hd ((RO.out.chgAny c9 (fun k h1 h2 hm=>by rw [Mi] at hm;omega)).wide (B':=w.heap.size) (by omega) c9.size)
   have HO9:=Hd ((OO.out.chg c9 (fun k hk hm=>by rw [Mi] at hm;have:=OO.out.low k hk;omega)).wide (B':=w.heap.size) (by omega) c9.size)
   have HX9:=Hd (ext_chg (Ext.trans X1.out XK.out) c9 (fun g hg=>by rw [Mi] at hg;omega))
   clear E9 h9 c9 M
   go_wp2
   refine bodyPost_ret (results_box2 Tryz.results6 rfl rfl Tryz.underlying33 (by kernel_rfl) HE9.out) rfl ⟨_,rfl, ?_,HX9.out⟩
   rw [HF.out.1,HF.out.2]
   exact ⟨a2,A2,c2,qs2,Ao,co,os,rfl,HR9.out,HO9.out,HM.out,DD.out⟩
  ·have d3:=bx_cell K3.out.box
   have z3:=bx_lt K3.out.box
   cases g0:decide (r.view < 1000000000)
   ·have HF:=Hd (HN.out (by unfold turnB;rw [gl,g0];rfl))
    have HM:=Hd (show List.map Prod.snd ([]:List OtE)=[] from rfl)
    go_wp2
    clear d3 z3
    refine code_go (F:=fun W=>KZ v1 W w2.heap.size a' A' c' qs r none 0 []) K3.out ?_
    intro W kz
    obtain ⟨a2,ha2⟩:∃ x,a'=x:=⟨_,rfl⟩
    obtain ⟨A2,hA2⟩:∃ x,A'=x:=⟨_,rfl⟩
    obtain ⟨c2,hc2⟩:∃ x,c'=x:=⟨_,rfl⟩
    obtain ⟨qs2,hqs2⟩:∃ x,qs=x:=⟨_,rfl⟩
    obtain ⟨Ao,hAo⟩:∃ x:Option Addr,x=none:=⟨_,rfl⟩
    obtain ⟨co,hco⟩:∃ x:Nat,x=0:=⟨_,rfl⟩
    obtain ⟨os,hos⟩:∃ x:List OtE,x=[]:=⟨_,rfl⟩
    rw [←hos] at HM
    rw [ha2,hA2,hc2,hqs2,←hos] at kz
    rw [←hAo,←hco] at kz
    clear K3 ha2 hA2 hc2 hqs2 hAo hco hos
    have BX:=Hd kz.box
    have RO:=Hd kz.rp
    have OO:=Hd kz.oso
    have DD:=Hd kz.dd
    have XK:=Hd kz.x
    have DW:=Hd (kz.x.box B3.out)
    have hsW:=kz.x.size
    have hlw:=kz.low
    have hs1':=X1.out.size
    clear kz
    have hq9:w.heap.size+1 < W.heap.size:=by omega
    have M:=Hd (fun W' (h:(relS (w.heap.size+1) (.cells (Rp.cs a2 A2 qs2.length c2 r) 33) W.heap.size hq9).rel W W')=>cells_mid (cs:=Rp.cs a2 A2 qs2.length c2 r) (relS_box BX.out (by omega) W' h) [] [.slice Ao (List.length os) co] rfl rfl)
    (refine Rm.wp_region_mix' (R:=relS (w.heap.size+1) (.cells (Rp.cs a2 A2 qs2.length c2 r) 33) W.heap.size hq9) (stored (w.heap.size+1) (.cells (Rp.cs a2 A2 qs2.length c2 r) 33)) (fun _ _ _ _ _ hq=>hq) 9 (by first | exact Nat.le_refl _ | omega | (simp;omega)) (by kernel_rfl) (by kernel_rfl) ?_;simp only [Tc,Tz,Dc,Dz])
    (iterate 1 (refine Rm.wpMix_plain rfl rfl ?_;go_big_quiet_step (fail);refine wpQuiet_nil ?_))
    (refine Rm.wpMix_nilp rfl rfl rfl ?_;simp only [Act.put,Sa,Sz,Ss])
    (iterate 1 (refine Rm.wpMix_plain rfl rfl ?_;go_big_quiet_step (fail);refine wpQuiet_nil ?_))
    (refine Rm.wpMix_loadAgg (M.out) rfl rfl rfl Tryz.underlying33 (by kernel_rfl) ?_;simp only [Act.put,Sa,Sz,Ss])
    (iterate 1 (refine Rm.wpMix_plain rfl rfl ?_;go_big_quiet_step (fail);refine wpQuiet_nil ?_))
    (refine Rm.wpMix_nilp rfl rfl rfl ?_;simp only [Act.put,Sa,Sz,Ss])
    (iterate 1 (refine Rm.wpMix_plain rfl rfl ?_;go_big_quiet_step (fail);refine wpQuiet_nil ?_))
    (refine Rm.wpMix_load1 (fun W' h=>show W'.cell? _=some (.slice Ao (List.length os) co) from bx_cell (relS_box BX.out (by omega) W' h) 13) rfl rfl rfl Tryz.underlying35 rfl ?_;simp only [Act.put,Sa,Sz,Ss])
    refine wpMix_st DW.out rfl rfl rfl rfl rfl (by kernel_rfl) rfl (by simp [Value.oneCell']) ?_
    simp only [Act.put,Sa,Sz,Ss]
    refine Rm.wpMix_nil ?_
    rintro W9 ⟨h9,E9⟩
    have c9:=h9.1
    have HE9:=Hd E9
    have HR9:=Hd ((RO.out.chgAny c9 (fun k h1 h2 hm=>by rw [Mi] at hm;omega)).wide (B':=w.heap.size) (by omega) c9.size)
    have HO9:=Hd ((OO.out.chg c9 (fun k hk hm=>by rw [Mi] at hm;have:=OO.out.low k hk;omega)).wide (B':=w.heap.size) (by omega) c9.size)
    have HX9:=Hd (ext_chg (Ext.trans X1.out XK.out) c9 (fun g hg=>by rw [Mi] at hg;omega))
    clear E9 h9 c9 M
    go_wp2
    refine bodyPost_ret (results_box2 Tryz.results6 rfl rfl Tryz.underlying33 (by kernel_rfl) HE9.out) rfl ⟨_,rfl, ?_,HX9.out⟩
    rw [HF.out.1,HF.out.2]
    exact ⟨a2,A2,c2,qs2,Ao,co,os,rfl,HR9.out,HO9.out,HM.out,DD.out⟩
   ·have HT:=Hd (HL.out gl)
    have HF:=Hd (HY.out (by unfold turnB;rw [gl,g0];rfl))
    go_wp2_with fail
    refine (c_begin K3.out HT.out (r.view+1) (by omega) (by simp at g0;omega) (by simp)).mono ?_
    rintro e w4 ⟨rfl,a2,A2,c2,qs2,Ao,co,os,k4,ho4⟩
    have K4:=Hd (show KZ v1 w4 w2.heap.size a2 A2 c2 qs2 (beginR r (r.view+1)) Ao co os from k4)
    have HM:=Hd ho4
    clear k4 ho4 K3 d3 z3
    go_wp2
    refine code_go (F:=fun W=>KZ v1 W w2.heap.size a2 A2 c2 qs2 (beginR r (r.view+1)) Ao co os) K4.out ?_
    intro W kz
    clear K4
    have BX:=Hd kz.box
    have RO:=Hd kz.rp
    have OO:=Hd kz.oso
    have DD:=Hd kz.dd
    have XK:=Hd kz.x
    have DW:=Hd (kz.x.box B3.out)
    have hsW:=kz.x.size
    have hlw:=kz.low
    have hs1':=X1.out.size
    clear kz
    have hq9:w.heap.size+1 < W.heap.size:=by omega
    have M:=Hd (fun W' (h:(relS (w.heap.size+1) (.cells (Rp.cs a2 A2 qs2.length c2 (beginR r (r.view+1))) 33) W.heap.size hq9).rel W W')=>cells_mid (cs:=Rp.cs a2 A2 qs2.length c2 (beginR r (r.view+1))) (relS_box BX.out (by omega) W' h) [] [.slice Ao (List.length os) co] rfl rfl)
    (refine Rm.wp_region_mix' (R:=relS (w.heap.size+1) (.cells (Rp.cs a2 A2 qs2.length c2 (beginR r (r.view+1))) 33) W.heap.size hq9) (stored (w.heap.size+1) (.cells (Rp.cs a2 A2 qs2.length c2 (beginR r (r.view+1))) 33)) (fun _ _ _ _ _ hq=>hq) 9 (by first | exact Nat.le_refl _ | omega | (simp;omega)) (by kernel_rfl) (by kernel_rfl) ?_;simp only [Tc,Tz,Dc,Dz])
    (iterate 1 (refine Rm.wpMix_plain rfl rfl ?_;go_big_quiet_step (fail);refine wpQuiet_nil ?_))
    (refine Rm.wpMix_nilp rfl rfl rfl ?_;simp only [Act.put,Sa,Sz,Ss])
    (iterate 1 (refine Rm.wpMix_plain rfl rfl ?_;go_big_quiet_step (fail);refine wpQuiet_nil ?_))
    (refine Rm.wpMix_loadAgg (M.out) rfl rfl rfl Tryz.underlying33 (by kernel_rfl) ?_;simp only [Act.put,Sa,Sz,Ss])
    (iterate 1 (refine Rm.wpMix_plain rfl rfl ?_;go_big_quiet_step (fail);refine wpQuiet_nil ?_))
    (refine Rm.wpMix_nilp rfl rfl rfl ?_;simp only [Act.put,Sa,Sz,Ss])
    (iterate 1 (refine Rm.wpMix_plain rfl rfl ?_;go_big_quiet_step (fail);refine wpQuiet_nil ?_))
    (refine Rm.wpMix_load1 (fun W' h=>show W'.cell? _=some (.slice Ao (List.length os) co) from bx_cell (relS_box BX.out (by omega) W' h) 13) rfl rfl rfl Tryz.underlying35 rfl ?_;simp only [Act.put,Sa,Sz,Ss])
    refine wpMix_st DW.out rfl rfl rfl rfl rfl (by kernel_rfl) rfl (by simp [Value.oneCell']) ?_
    simp only [Act.put,Sa,Sz,Ss]
    refine Rm.wpMix_nil ?_
    rintro W9 ⟨h9,E9⟩
    have c9:=h9.1
    have HE9:=Hd E9
    have HR9:=Hd ((RO.out.chgAny c9 (fun k h1 h2 hm=>by rw [Mi] at hm;omega)).wide (B':=w.heap.size) (by omega) c9.size)
    have HO9:=Hd ((OO.out.chg c9 (fun k hk hm=>by rw [Mi] at hm;have:=OO.out.low k hk;omega)).wide (B':=w.heap.size) (by omega) c9.size)
    have HX9:=Hd (ext_chg (Ext.trans X1.out XK.out) c9 (fun g hg=>by rw [Mi] at hg;omega))
    clear E9 h9 c9 M
    go_wp2
    refine bodyPost_ret (results_box2 Tryz.results6 rfl rfl Tryz.underlying33 (by kernel_rfl) HE9.out) rfl ⟨_,rfl, ?_,HX9.out⟩
    rw [HF.out.1,HF.out.2]
    exact ⟨a2,A2,c2,qs2,Ao,co,os,rfl,HR9.out,HO9.out,HM.out,DD.out⟩
end Go.Proofs.YtikelfmmldafpaaGreat
