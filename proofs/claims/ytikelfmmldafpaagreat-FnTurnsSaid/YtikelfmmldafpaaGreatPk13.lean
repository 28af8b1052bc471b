/- The program's hears: a replica hears a message of a kind, and something is done that may change it. -/
import Derived.Test.YtikelfmmldafpaaGreatPk12
namespace Go.Proofs.YtikelfmmldafpaaGreat
open Go.ChangeShapes Go.WideShapes Go.ChangeAt Go.RowKit Go.Sort
set_option linter.unusedVariables false
set_option linter.unusedSimpArgs false
def hearB (r:Rp) (m:Mg) (kind:Int):Bool:=iFits m && ((m.kind == kind) && (if sHas (iForm kind) 70=true then inB m.frm 0 (r.of - 1) && (m.frm != r.me) else true))
def hearO (r:Rp) (m:Mg) (kind:Int) (O:List Ot):List Ot:=if (rpOk r && hearB r m kind)=true then O else []
def hearR2 (r:Rp) (m:Mg) (kind:Int) (R2:Rp):Rp:=if rpOk r=true then (if hearB r m kind=true then R2 else r) else Rp.zero
set_option maxRecDepth 100000 in
set_option maxHeartbeats 8000000 in
theorem c_hears3 (a:LAd) (A:Option Addr) (c:Nat) (ps:List VtE) (r:Rp) (am:LAd) (m:Mg) (kind:Int) (fn:Nat) (caps:Array Value) (R2:Rp) (O:List Ot) (w:World) (hr:RpR w a A c ps r) (hs:r.log.small) (hn:ps.length≤1048576) (hv:LgS ps) (hm:LgR w am m.log) (hms:m.log.small)
  (eg:∀ args w,(callFunc fn args).run Tryz.prog w = .ok (.enter fn args) w)
  (hdo:(rpOk r && hearB r m kind)=true→∀ (W0 W:World) (p:Nat),Ext w W0→KO W0 W p r []→Calls Tryz.prog fn (#[.pointer (some ⟨p,0,none⟩)]++caps) W fun e w'=>e = .returned (.tuple #[])∧KO W0 w' p R2 O) :
  Calls Tryz.prog 27 #[Rp.val a A ps.length c r,Mg.val am m, .int .i64 kind, .func (.func fn) #[] caps] w fun e w'=>∃ v,e = .returned v∧RoY w' w.heap.size (hearR2 r m kind R2) (hearO r m kind O) v∧Ext w w':=by
 have X0:Ext w (((w.alloc (Rp.obj a A ps.length c r)).alloc (Mg.obj am m)).alloc Rp.zobj):=ext_to (ext_to (ext_alloc _ _) _) _
 have hcon:=c_iReplicaOk a A c ps r _ (hr.keep X0) hs hn hv
 have HCp:=Hd (fun W (h:Ext w W)=>c_copyReplica a A c ps r W (hr.keep h) hs hn hv)
 have HFt:=Hd (fun W (h:Ext w W)=>c_iMsgFits am m W hms (hm.keep h))
 have D1:=Hd (hOld (o:=Rp.zobj) (hOld (o:=Mg.obj am m) (hNew (w:=w) (o:=Rp.obj a A ps.length c r) rfl)))
 have D2:=Hd (hOld (o:=Rp.zobj) (hNew (w:=w.alloc (Rp.obj a A ps.length c r)) (o:=Mg.obj am m) (k:=w.heap.size+1) (by simp)))
 have D3:=Hd (hNew (w:=(w.alloc (Rp.obj a A ps.length c r)).alloc (Mg.obj am m)) (o:=Rp.zobj) (k:=w.heap.size+1+1) (by simp))
 have HX0:=Hd X0
 clear X0 hr hv hs hm
 cases q:rpOk r
 ·rw [q] at hcon
  have HC:=Hd hcon
  have HR:=Hd (show hearR2 r m kind R2=Rp.zero∧hearO r m kind O=[] by simp [hearR2,hearO,q])
  clear q hcon HCp hdo HFt
  go_enter Tryz.func27,Tryz.ntmps27
  (go_wp2_with (with_reducible refine wl_stop 12 ?_);refine stop_load (D1.out) rfl Tryz.underlying33 (by kernel_rfl) ?_;simp only [Act.put,Sa,Sz,Ss])
  go_wp2_with fail
  refine HC.out.mono ?_
  rintro e w1 ⟨rfl,x1⟩
  have HB:=Hd (x1.box D3.out)
  (go_wp2_with (with_reducible refine wl_stopS 33 ?_);refine stop_store ((w.heap.size+1+1)) #[.int .i64 0, .int .i64 0, .int .i64 0, .int .i64 0, .int .i64 0, .int .i64 0, .int .i64 0, .slice none 0 0, .slice none 0 0, .slice none 0 0, .slice none 0 0, .int .i64 0, .int .i64 0] rfl rfl (HB.out) (by kernel_rfl) rfl (by simp [Value.oneCell']) ?_)
  intro W4 E4 C4
  have hX4:=Hd (chg_new (Ext.trans HX0.out x1) C4 (by omega))
  go_wp2
  refine bodyPost_ret (results_box2 Tryz.results27 rfl rfl Tryz.underlying33 (by kernel_rfl) E4) rfl ⟨_,rfl, ?_,hX4.out⟩
  rw [HR.out.1,HR.out.2]
  exact ⟨LAd.none,none,0,[],none,0,[],rfl,RpO.none _ _ _ _ rfl rfl,OsO.nil _ _ _,rfl,by simp [vsF,LAd.fp,LAd.none,blk]⟩
 ·rw [q] at hcon
  have HC:=Hd hcon
  have hfacts:=rpOk_facts q
  have HR:=Hd (show hearR2 r m kind R2=(if hearB r m kind=true then R2 else r)∧hearO r m kind O=(if hearB r m kind=true then O else []) by simp [hearR2,hearO,q])
  rw [q] at hdo
  have HDo:=Hd hdo
  clear q hcon hdo
  go_enter Tryz.func27,Tryz.ntmps27
  (go_wp2_with (with_reducible refine wl_stop 12 ?_);refine stop_load (D1.out) rfl Tryz.underlying33 (by kernel_rfl) ?_;simp only [Act.put,Sa,Sz,Ss])
  go_wp2_with fail
  refine HC.out.mono ?_
  rintro e v1 ⟨rfl,x1⟩
  have B1:=Hd (x1.box D1.out)
  have B2:=Hd (x1.box D2.out)
  have B3:=Hd (x1.box D3.out)
  have B3':=Hd (x1.box D3.out)
  have X1:=Hd (Ext.trans HX0.out x1)
  have hs01:=HX0.out.size
  clear D1 D2 D3 HX0 HC x1
  (go_wp2_with (with_reducible refine wl_stop 16 ?_);refine stop_load (B1.out) rfl Tryz.underlying33 (by kernel_rfl) ?_;simp only [Act.put,Sa,Sz,Ss])
  go_wp2_with fail
  refine (HCp.out _ X1.out).mono ?_
  rintro e w2 ⟨a',A',c',qs,rfl,hql,o2,x2⟩
  have HO2:=Hd o2
  have X2:=Hd (Ext.trans X1.out x2)
  have HL:=Hd hql
  have hs2:=X2.out.size
  have hs1:=X1.out.size
  have hs12:=x2.size
  have hlt2:=bx_lt B3.out
  have G1:=Hd (hOld (o:=Kp.obj a' A' ps.length c' r (.slice none 0 0)) (x2.box B1.out))
  have G2:=Hd (hOld (o:=Kp.obj a' A' ps.length c' r (.slice none 0 0)) (x2.box B2.out))
  have G3:=Hd (hOld (o:=Kp.obj a' A' ps.length c' r (.slice none 0 0)) (x2.box B3.out))
  have hoa:=o2.kept (ext_alloc w2 (Kp.obj a' A' ps.length c' r (.slice none 0 0)))
  have hka:KZ v1 (w2.alloc (Kp.obj a' A' ps.length c' r (.slice none 0 0))) w2.heap.size a' A' c' qs r none 0 []:=⟨by rw [HL.out];exact hNew rfl,Ext.trans x2 (ext_alloc _ _),x2.size,hoa.wide (Nat.le_refl _) (by simp),World.ownsRow_nil _ _ _ _,OsQ.nil _ _,by simp⟩
  have HK0:=Hd (show KO v1 (w2.alloc (Kp.obj a' A' ps.length c' r (.slice none 0 0))) w2.heap.size r [] from ⟨a',A',c',qs,none,0,[],hka,rfl⟩)
  have XW0:=Hd (Ext.trans X2.out (ext_alloc w2 (Kp.obj a' A' ps.length c' r (.slice none 0 0))))
  clear o2 x2 hql B1 B2 B3 HCp hoa hka HO2 HL
  (go_wp2_with (with_reducible refine wl_stop 20 ?_);refine stop_load (G2.out) rfl Tryz.underlying43 (by kernel_rfl) ?_;simp only [Act.put,Sa,Sz,Ss])
  go_wp2_with fail
  refine (HFt.out _ XW0.out).mono ?_
  rintro e w3 ⟨rfl,x3⟩
  have E1:=Hd (x3.box G1.out)
  have E2:=Hd (x3.box G2.out)
  have X3:=Hd x3
  have d1:=bx_cell E1.out
  have d2:=bx_cell E2.out
  have z1:=bx_lt E1.out
  have z2:=bx_lt E2.out
  have hw:-1000000≤r.of - 1∧r.of - 1≤1000000:=by omega
  clear x3 G1 G2 HFt
  have hF:=iForm_small kind
  have hFl:=fun W=>c_fields kind W
  obtain ⟨F,hFe⟩:∃ F,iForm kind=F:=⟨_,rfl⟩
  rw [hFe] at hF hFl
  have HFl:=Hd hFl
  have HFe:=Hd hFe
  clear hFl hFe
  cases qf:iFits m
  ·have HR':=Hd (show hearR2 r m kind R2=r∧hearO r m kind O=[] by rw [HR.out.1,HR.out.2];simp [hearB,HFe.out,qf])
   go_wp2_with (first | (go_at_call 58;refine (HFl.out _).mono ?_;rintro e w1 ⟨rfl,hx⟩;obtain ⟨hc1,hf1,hs1⟩:=hx.rules;(try simp at hs1);have z0:w.heap.size < w1.heap.size:=(by omega);have z1:w.heap.size+1 < w1.heap.size:=(by omega)) | (go_at_call 57;refine (c_has _ _ hF _).mono ?_;rintro e w1 ⟨rfl,hx⟩;obtain ⟨hc1,hf1,hs1⟩:=hx.rules;(try simp at hs1);have z0:w.heap.size < w1.heap.size:=(by omega);have z1:w.heap.size+1 < w1.heap.size:=(by omega)) | (go_at_call 39;refine (c_from _ _ _ _).mono ?_;rintro e w1 ⟨rfl,hx⟩;obtain ⟨hc1,hf1,hs1⟩:=hx.rules;(try simp at hs1);have z0:w.heap.size < w1.heap.size:=(by omega);have z1:w.heap.size+1 < w1.heap.size:=(by omega)))
   refine code_go (F:=fun W=>KO v1 W w2.heap.size r []∧W.heap[w.heap.size+1+1]?=some Rp.zobj) ?_ ?_
   ·have XX:Ext (w2.alloc (Kp.obj a' A' ps.length c' r (.slice none 0 0))) w3:=by
     exact X3.out
    exact ⟨HK0.out.keep XX,XX.box G3.out⟩
   rintro W ⟨kd,dW⟩
   have DW:=Hd dW
   clear dW d1 d2 z1 z2
   obtain ⟨a2,A2,c2,qs2,Ao,co,os,kz,hmO⟩:=kd
   have BX:=Hd kz.box
   have RO:=Hd kz.rp
   have OO:=Hd kz.oso
   have DD:=Hd kz.dd
   have XK:=Hd kz.x
   have HM:=Hd hmO
   have hsW:=kz.x.size
   have hlw:=kz.low
   have hs1':=X1.out.size
   clear kz hmO
   have hq9:w.heap.size+1+1 < W.heap.size:=by omega
   have M:=Hd (fun W' (h:(relS (w.heap.size+1+1) (.cells (Rp.cs a2 A2 qs2.length c2 r) 33) W.heap.size hq9).rel W W')=>cells_mid (cs:=Rp.cs a2 A2 qs2.length c2 r) (relS_box BX.out (by omega) W' h) [] [.slice Ao (List.length os) co] rfl rfl)
   (refine Rm.wp_region_mix' (R:=relS (w.heap.size+1+1) (.cells (Rp.cs a2 A2 qs2.length c2 r) 33) W.heap.size hq9) (stored (w.heap.size+1+1) (.cells (Rp.cs a2 A2 qs2.length c2 r) 33)) (fun _ _ _ _ _ hq=>hq) 9 (by first | exact Nat.le_refl _ | omega | (simp;omega)) (by kernel_rfl) (by kernel_rfl) ?_;simp only [Tc,Tz,Dc,Dz])
   (iterate 1 (refine Rm.wpMix_plain rfl rfl ?_;go_big_quiet_step (fail);refine wpQuiet_nil ?_))
   (refine Rm.wpMix_nilp rfl rfl rfl ?_;simp only [Act.put,Sa,Sz,Ss])
   (iterate 1 (refine Rm.wpMix_plain rfl rfl ?_;go_big_quiet_step (fail);refine wpQuiet_nil ?_))
   (refine Rm.wpMix_loadAgg (M.out) rfl rfl rfl Tryz.underlying33 (by kernel_rfl) ?_;simp only [Act.put,Sa,Sz,Ss])
   (iterate 1 (refine Rm.wpMix_plain rfl rfl ?_;go_big_quiet_step (fail);refine wpQuiet_nil ?_))
   (refine Rm.wpMix_nilp rfl rfl rfl ?_;simp only [Act.put,Sa,Sz,Ss])
   (iterate 1 (refine Rm.wpMix_plain rfl rfl ?_;go_big_quiet_step (fail);refine wpQuiet_nil ?_))
   (refine Rm.wpMix_load1 (fun W' h=>show W'.cell? _=some (.slice Ao (List.length os) co) from bx_cell (relS_box BX.out (by omega) W' h) 13) rfl rfl rfl Tryz.underlying35 rfl ?_;simp only [Act.put,Sa,Sz,Ss])
   refine wpMix_st DW.out rfl rfl rfl rfl rfl (by kernel_rfl) rfl (by simp [Value.oneCell']) ?_
   simp only [Act.put,Sa,Sz,Ss]
   refine Rm.wpMix_nil ?_
   rintro W9 ⟨h9,E9⟩
   have c9:=h9.1
   have HE9:=Hd E9
   have HR9:=Hd ((RO.out.chgAny c9 (fun k h1 h2 hm=>by rw [Mi] at hm;omega)).wide (B':=w.heap.size) (by omega) c9.size)
   have HO9:=Hd ((OO.out.chg c9 (fun k hk hm=>by rw [Mi] at hm;have:=OO.out.low k hk;omega)).wide (B':=w.heap.size) (by omega) c9.size)
   have HX9:=Hd (ext_chg (Ext.trans X1.out XK.out) c9 (fun g hg=>by rw [Mi] at hg;omega))
   clear E9 h9 c9 M
   go_wp2
   refine bodyPost_ret (results_box2 Tryz.results27 rfl rfl Tryz.underlying33 (by kernel_rfl) HE9.out) rfl ⟨_,rfl, ?_,HX9.out⟩
   rw [HR'.out.1,HR'.out.2]
   exact ⟨a2,A2,c2,qs2,Ao,co,os,rfl,HR9.out,HO9.out,HM.out,DD.out⟩
  ·cases qk:(m.kind == kind)
   ·have HR':=Hd (show hearR2 r m kind R2=r∧hearO r m kind O=[] by rw [HR.out.1,HR.out.2];simp [hearB,HFe.out,qf,qk])
    go_wp2_with (first | (go_at_call 58;refine (HFl.out _).mono ?_;rintro e w1 ⟨rfl,hx⟩;obtain ⟨hc1,hf1,hs1⟩:=hx.rules;(try simp at hs1);have z0:w.heap.size < w1.heap.size:=(by omega);have z1:w.heap.size+1 < w1.heap.size:=(by omega)) | (go_at_call 57;refine (c_has _ _ hF _).mono ?_;rintro e w1 ⟨rfl,hx⟩;obtain ⟨hc1,hf1,hs1⟩:=hx.rules;(try simp at hs1);have z0:w.heap.size < w1.heap.size:=(by omega);have z1:w.heap.size+1 < w1.heap.size:=(by omega)) | (go_at_call 39;refine (c_from _ _ _ _).mono ?_;rintro e w1 ⟨rfl,hx⟩;obtain ⟨hc1,hf1,hs1⟩:=hx.rules;(try simp at hs1);have z0:w.heap.size < w1.heap.size:=(by omega);have z1:w.heap.size+1 < w1.heap.size:=(by omega)))
    refine code_go (F:=fun W=>KO v1 W w2.heap.size r []∧W.heap[w.heap.size+1+1]?=some Rp.zobj) ?_ ?_
    ·have XX:Ext (w2.alloc (Kp.obj a' A' ps.length c' r (.slice none 0 0))) w3:=by
      exact X3.out
     exact ⟨HK0.out.keep XX,XX.box G3.out⟩
    rintro W ⟨kd,dW⟩
    have DW:=Hd dW
    clear dW d1 d2 z1 z2
    obtain ⟨a2,A2,c2,qs2,Ao,co,os,kz,hmO⟩:=kd
    have BX:=Hd kz.box
    have RO:=Hd kz.rp
    have OO:=Hd kz.oso
    have DD:=Hd kz.dd
    have XK:=Hd kz.x
    have HM:=Hd hmO
    have hsW:=kz.x.size
    have hlw:=kz.low
    have hs1':=X1.out.size
    clear kz hmO
    have hq9:w.heap.size+1+1 < W.heap.size:=by omega
    have M:=Hd (fun W' (h:(relS (w.heap.size+1+1) (.cells (Rp.cs a2 A2 qs2.length c2 r) 33) W.heap.size hq9).rel W W')=>cells_mid (cs:=Rp.cs a2 A2 qs2.length c2 r) (relS_box BX.out (by omega) W' h) [] [.slice Ao (List.length os) co] rfl rfl)
    (refine Rm.wp_region_mix' (R:=relS (w.heap.size+1+1) (.cells (Rp.cs a2 A2 qs2.length c2 r) 33) W.heap.size hq9) (stored (w.heap.size+1+1) (.cells (Rp.cs a2 A2 qs2.length c2 r) 33)) (fun _ _ _ _ _ hq=>hq) 9 (by first | exact Nat.le_refl _ | omega | (simp;omega)) (by kernel_rfl) (by kernel_rfl) ?_;simp only [Tc,Tz,Dc,Dz])
    (iterate 1 (refine Rm.wpMix_plain rfl rfl ?_;go_big_quiet_step (fail);refine wpQuiet_nil ?_))
    (refine Rm.wpMix_nilp rfl rfl rfl ?_;simp only [Act.put,Sa,Sz,Ss])
    (iterate 1 (refine Rm.wpMix_plain rfl rfl ?_;go_big_quiet_step (fail);refine wpQuiet_nil ?_))
    (refine Rm.wpMix_loadAgg (M.out) rfl rfl rfl Tryz.underlying33 (by kernel_rfl) ?_;simp only [Act.put,Sa,Sz,Ss])
    (iterate 1 (refine Rm.wpMix_plain rfl rfl ?_;go_big_quiet_step (fail);refine wpQuiet_nil ?_))
    (refine Rm.wpMix_nilp rfl rfl rfl ?_;simp only [Act.put,Sa,Sz,Ss])
    (iterate 1 (refine Rm.wpMix_plain rfl rfl ?_;go_big_quiet_step (fail);refine wpQuiet_nil ?_))
    (refine Rm.wpMix_load1 (fun W' h=>show W'.cell? _=some (.slice Ao (List.length os) co) from bx_cell (relS_box BX.out (by omega) W' h) 13) rfl rfl rfl Tryz.underlying35 rfl ?_;simp only [Act.put,Sa,Sz,Ss])
    refine wpMix_st DW.out rfl rfl rfl rfl rfl (by kernel_rfl) rfl (by simp [Value.oneCell']) ?_
    simp only [Act.put,Sa,Sz,Ss]
    refine Rm.wpMix_nil ?_
    rintro W9 ⟨h9,E9⟩
    have c9:=h9.1
    have HE9:=Hd E9
    have HR9:=Hd ((RO.out.chgAny c9 (fun k h1 h2 hm=>by rw [Mi] at hm;omega)).wide (B':=w.heap.size) (by omega) c9.size)
    have HO9:=Hd ((OO.out.chg c9 (fun k hk hm=>by rw [Mi] at hm;have:=OO.out.low k hk;omega)).wide (B':=w.heap.size) (by omega) c9.size)
    have HX9:=Hd (ext_chg (Ext.trans X1.out XK.out) c9 (fun g hg=>by rw [Mi] at hg;omega))
    clear E9 h9 c9 M
    go_wp2
    refine bodyPost_ret (results_box2 Tryz.results27 rfl rfl Tryz.underlying33 (by kernel_rfl) HE9.out) rfl ⟨_,rfl, ?_,HX9.out⟩
    rw [HR'.out.1,HR'.out.2]
    exact ⟨a2,A2,c2,qs2,Ao,co,os,rfl,HR9.out,HO9.out,HM.out,DD.out⟩
   ·cases qh:sHas F 70
    ·have HR':=Hd (show hearR2 r m kind R2=R2∧hearO r m kind O=O by rw [HR.out.1,HR.out.2];simp [hearB,HFe.out,qf,qk,qh])
     have hB:hearB r m kind=true:=by simp [hearB,HFe.out,qf,qk,qh]
     go_wp2_with (first | (go_at_call 58;refine (HFl.out _).mono ?_;rintro e w1 ⟨rfl,hx⟩;obtain ⟨hc1,hf1,hs1⟩:=hx.rules;(try simp at hs1);have z0:w.heap.size < w1.heap.size:=(by omega);have z1:w.heap.size+1 < w1.heap.size:=(by omega)) | (go_at_call 57;refine (c_has _ _ hF _).mono ?_;rintro e w1 ⟨rfl,hx⟩;obtain ⟨hc1,hf1,hs1⟩:=hx.rules;(try simp at hs1);have z0:w.heap.size < w1.heap.size:=(by omega);have z1:w.heap.size+1 < w1.heap.size:=(by omega)) | (go_at_call 39;refine (c_from _ _ _ _).mono ?_;rintro e w1 ⟨rfl,hx⟩;obtain ⟨hc1,hf1,hs1⟩:=hx.rules;(try simp at hs1);have z0:w.heap.size < w1.heap.size:=(by omega);have z1:w.heap.size+1 < w1.heap.size:=(by omega)))
     have XX:Ext (w2.alloc (Kp.obj a' A' ps.length c' r (.slice none 0 0))) w1:=by
      have X3:=X3.out
      (repeat (first | with_reducible exact ext_refl _ | with_reducible refine ext_to ?_ _ | with_reducible refine ext_set ?_ (by first | (simp;done) | (simp;omega) | omega) _ | with_reducible refine ext_drew ?_ | with_reducible refine Ext.trans ?_ (by assumption)))
     refine (HDo.out (by rw [hB];rfl) v1 _ w2.heap.size X1.out (HK0.out.keep XX)).mono ?_
     rintro e W ⟨rfl,kd⟩
     have DW:=Hd (show W.heap[w.heap.size+1+1]?=some Rp.zobj by obtain ⟨_,_,_,_,_,_,_,kz,_⟩:=kd;exact kz.x.box B3'.out)
     clear XX d1 d2 z1 z2
     go_wp2
     obtain ⟨a2,A2,c2,qs2,Ao,co,os,kz,hmO⟩:=kd
     have BX:=Hd kz.box
     have RO:=Hd kz.rp
     have OO:=Hd kz.oso
     have DD:=Hd kz.dd
     have XK:=Hd kz.x
     have HM:=Hd hmO
     have hsW:=kz.x.size
     have hlw:=kz.low
     have hs1':=X1.out.size
     clear kz hmO
     have hq9:w.heap.size+1+1 < W.heap.size:=by omega
     have M:=Hd (fun W' (h:(relS (w.heap.size+1+1) (.cells (Rp.cs a2 A2 qs2.length c2 R2) 33) W.heap.size hq9).rel W W')=>cells_mid (cs:=Rp.cs a2 A2 qs2.length c2 R2) (relS_box BX.out (by omega) W' h) [] [.slice Ao (List.length os) co] rfl rfl)
     (refine Rm.wp_region_mix' (R:=relS (w.heap.size+1+1) (.cells (Rp.cs a2 A2 qs2.length c2 R2) 33) W.heap.size hq9) (stored (w.heap.size+1+1) (.cells (Rp.cs a2 A2 qs2.length c2 R2) 33)) (fun _ _ _ _ _ hq=>hq) 9 (by first | exact Nat.le_refl _ | omega | (simp;omega)) (by kernel_rfl) (by kernel_rfl) ?_;simp only [Tc,Tz,Dc,Dz])
     (iterate 1 (refine Rm.wpMix_plain rfl rfl ?_;go_big_quiet_step (fail);refine wpQuiet_nil ?_))
     (refine Rm.wpMix_nilp rfl rfl rfl ?_;simp only [Act.put,Sa,Sz,Ss])
     (iterate 1 (refine Rm.wpMix_plain rfl rfl ?_;go_big_quiet_step (fail);refine wpQuiet_nil ?_))
     (refine Rm.wpMix_loadAgg (M.out) rfl rfl rfl Tryz.underlying33 (by kernel_rfl) ?_;simp only [Act.put,Sa,Sz,Ss])
     (iterate 1 (refine Rm.wpMix_plain rfl rfl ?_;go_big_quiet_step (fail);refine wpQuiet_nil ?_))
     (refine Rm.wpMix_nilp rfl rfl rfl ?_;simp only [Act.put,Sa,Sz,Ss])
     (iterate 1 (refine Rm.wpMix_plain rfl rfl ?_;go_big_quiet_step (fail);refine wpQuiet_nil ?_))
     (refine Rm.wpMix_load1 (fun W' h=>show W'.cell? _=some (.slice Ao (List.length os) co) from bx_cell (relS_box BX.out (by omega) W' h) 13) rfl rfl rfl Tryz.underlying35 rfl ?_;simp only [Act.put,Sa,Sz,Ss])
     refine wpMix_st DW.out rfl rfl rfl rfl rfl (by kernel_rfl) rfl (by simp [Value.oneCell']) ?_
     simp only [Act.put,Sa,Sz,Ss]
     refine Rm.wpMix_nil ?_
     rintro W9 ⟨h9,E9⟩
     have c9:=h9.1
     have HE9:=Hd E9
     have HR9:=Hd ((RO.out.chgAny c9 (fun k h1 h2 hm=>by rw [Mi] at hm;omega)).wide (B':=w.heap.size) (by omega) c9.size)
     have HO9:=Hd ((OO.out.chg c9 (fun k hk hm=>by rw [Mi] at hm;have:=OO.out.low k hk;omega)).wide (B':=w.heap.size) (by omega) c9.size)
     have HX9:=Hd (ext_chg (Ext.trans X1.out XK.out) c9 (fun g hg=>by rw [Mi] at hg;omega))
     clear E9 h9 c9 M
     go_wp2
     refine bodyPost_ret (results_box2 Tryz.results27 rfl rfl Tryz.underlying33 (by kernel_rfl) HE9.out) rfl ⟨_,rfl, ?_,HX9.out⟩
     rw [HR'.out.1,HR'.out.2]
     exact ⟨a2,A2,c2,qs2,Ao,co,os,rfl,HR9.out,HO9.out,HM.out,DD.out⟩
    ·cases qi:inB m.frm 0 (r.of - 1)
     ·have HR':=Hd (show hearR2 r m kind R2=r∧hearO r m kind O=[] by rw [HR.out.1,HR.out.2];simp [hearB,HFe.out,qf,qk,qh,qi])
      go_wp2_with (first | (go_at_call 58;refine (HFl.out _).mono ?_;rintro e w1 ⟨rfl,hx⟩;obtain ⟨hc1,hf1,hs1⟩:=hx.rules;(try simp at hs1);have z0:w.heap.size < w1.heap.size:=(by omega);have z1:w.heap.size+1 < w1.heap.size:=(by omega)) | (go_at_call 57;refine (c_has _ _ hF _).mono ?_;rintro e w1 ⟨rfl,hx⟩;obtain ⟨hc1,hf1,hs1⟩:=hx.rules;(try simp at hs1);have z0:w.heap.size < w1.heap.size:=(by omega);have z1:w.heap.size+1 < w1.heap.size:=(by omega)) | (go_at_call 39;refine (c_from _ _ _ _).mono ?_;rintro e w1 ⟨rfl,hx⟩;obtain ⟨hc1,hf1,hs1⟩:=hx.rules;(try simp at hs1);have z0:w.heap.size < w1.heap.size:=(by omega);have z1:w.heap.size+1 < w1.heap.size:=(by omega)))
      refine code_go (F:=fun W=>KO v1 W w2.heap.size r []∧W.heap[w.heap.size+1+1]?=some Rp.zobj) ?_ ?_
      ·have XX:Ext (w2.alloc (Kp.obj a' A' ps.length c' r (.slice none 0 0))) w1:=by
        have X3:=X3.out;(repeat (first | with_reducible exact ext_refl _ | with_reducible refine ext_to ?_ _ | with_reducible refine ext_set ?_ (by first | (simp;done) | (simp;omega) | omega) _ | with_reducible refine ext_drew ?_ | with_reducible refine Ext.trans ?_ (by assumption)))
       exact ⟨HK0.out.keep XX,XX.box G3.out⟩
      rintro W ⟨kd,dW⟩
      have DW:=Hd dW
      clear dW d1 d2 z1 z2
      obtain ⟨a2,A2,c2,qs2,Ao,co,os,kz,hmO⟩:=kd
      have BX:=Hd kz.box
      have RO:=Hd kz.rp
      have OO:=Hd kz.oso
      have DD:=Hd kz.dd
      have XK:=Hd kz.x
      have HM:=Hd hmO
      have hsW:=kz.x.size
      have hlw:=kz.low
      have hs1':=X1.out.size
      clear kz hmO
      have hq9:w.heap.size+1+1 < W.heap.size:=by omega
      have M:=Hd (fun W' (h:(relS (w.heap.size+1+1) (.cells (Rp.cs a2 A2 qs2.length c2 r) 33) W.heap.size hq9).rel W W')=>cells_mid (cs:=Rp.cs a2 A2 qs2.length c2 r) (relS_box BX.out (by omega) W' h) [] [.slice Ao (List.length os) co] rfl rfl)
      (refine Rm.wp_region_mix' (R:=relS (w.heap.size+1+1) (.cells (Rp.cs a2 A2 qs2.length c2 r) 33) W.heap.size hq9) (stored (w.heap.size+1+1) (.cells (Rp.cs a2 A2 qs2.length c2 r) 33)) (fun _ _ _ _ _ hq=>hq) 9 (by first | exact Nat.le_refl _ | omega | (simp;omega)) (by kernel_rfl) (by kernel_rfl) ?_;simp only [Tc,Tz,Dc,Dz])
      (iterate 1 (refine Rm.wpMix_plain rfl rfl ?_;go_big_quiet_step (fail);refine wpQuiet_nil ?_))
      (refine Rm.wpMix_nilp rfl rfl rfl ?_;simp only [Act.put,Sa,Sz,Ss])
      (iterate 1 (refine Rm.wpMix_plain rfl rfl ?_;go_big_quiet_step (fail);refine wpQuiet_nil ?_))
      (refine Rm.wpMix_loadAgg (M.out) rfl rfl rfl Tryz.underlying33 (by kernel_rfl) ?_;simp only [Act.put,Sa,Sz,Ss])
      (iterate 1 (refine Rm.wpMix_plain rfl rfl ?_;go_big_quiet_step (fail);refine wpQuiet_nil ?_))
      (refine Rm.wpMix_nilp rfl rfl rfl ?_;simp only [Act.put,Sa,Sz,Ss])
      (iterate 1 (refine Rm.wpMix_plain rfl rfl ?_;go_big_quiet_step (fail);refine wpQuiet_nil ?_))
      (refine Rm.wpMix_load1 (fun W' h=>show W'.cell? _=some (.slice Ao (List.length os) co) from bx_cell (relS_box BX.out (by omega) W' h) 13) rfl rfl rfl Tryz.underlying35 rfl ?_;simp only [Act.put,Sa,Sz,Ss])
      refine wpMix_st DW.out rfl rfl rfl rfl rfl (by kernel_rfl) rfl (by simp [Value.oneCell']) ?_
      simp only [Act.put,Sa,Sz,Ss]
      refine Rm.wpMix_nil ?_
      rintro W9 ⟨h9,E9⟩
      have c9:=h9.1
      have HE9:=Hd E9
      have HR9:=Hd ((RO.out.chgAny c9 (fun k h1 h2 hm=>by rw [Mi] at hm;omega)).wide (B':=w.heap.size) (by omega) c9.size)
      have HO9:=Hd ((OO.out.chg c9 (fun k hk hm=>by rw [Mi] at hm;have:=OO.out.low k hk;omega)).wide (B':=w.heap.size) (by omega) c9.size)
      have HX9:=Hd (ext_chg (Ext.trans X1.out XK.out) c9 (fun g hg=>by rw [Mi] at hg;omega))
      clear E9 h9 c9 M
      go_wp2
      refine bodyPost_ret (results_box2 Tryz.results27 rfl rfl Tryz.underlying33 (by kernel_rfl) HE9.out) rfl ⟨_,rfl, ?_,HX9.out⟩
      rw [HR'.out.1,HR'.out.2]
      exact ⟨a2,A2,c2,qs2,Ao,co,os,rfl,HR9.out,HO9.out,HM.out,DD.out⟩
     ·cases qn:(m.frm != r.me)
      ·have HR':=Hd (show hearR2 r m kind R2=r∧hearO r m kind O=[] by rw [HR.out.1,HR.out.2];simp [hearB,HFe.out,qf,qk,qh,qi,qn])
       go_wp2_with (first | (go_at_call 58;refine (HFl.out _).mono ?_;rintro e w1 ⟨rfl,hx⟩;obtain ⟨hc1,hf1,hs1⟩:=hx.rules;(try simp at hs1);have z0:w.heap.size < w1.heap.size:=(by omega);have z1:w.heap.size+1 < w1.heap.size:=(by omega)) | (go_at_call 57;refine (c_has _ _ hF _).mono ?_;rintro e w1 ⟨rfl,hx⟩;obtain ⟨hc1,hf1,hs1⟩:=hx.rules;(try simp at hs1);have z0:w.heap.size < w1.heap.size:=(by omega);have z1:w.heap.size+1 < w1.heap.size:=(by omega)) | (go_at_call 39;refine (c_from _ _ _ _).mono ?_;rintro e w1 ⟨rfl,hx⟩;obtain ⟨hc1,hf1,hs1⟩:=hx.rules;(try simp at hs1);have z0:w.heap.size < w1.heap.size:=(by omega);have z1:w.heap.size+1 < w1.heap.size:=(by omega)))
       refine code_go (F:=fun W=>KO v1 W w2.heap.size r []∧W.heap[w.heap.size+1+1]?=some Rp.zobj) ?_ ?_
       ·have XX:Ext (w2.alloc (Kp.obj a' A' ps.length c' r (.slice none 0 0))) w1:=by
         have X3:=X3.out;(repeat (first | with_reducible exact ext_refl _ | with_reducible refine ext_to ?_ _ | with_reducible refine ext_set ?_ (by first | (simp;done) | (simp;omega) | omega) _ | with_reducible refine ext_drew ?_ | with_reducible refine Ext.trans ?_ (by assumption)))
        exact ⟨HK0.out.keep XX,XX.box G3.out⟩
       rintro W ⟨kd,dW⟩
       have DW:=Hd dW
       clear dW d1 d2 z1 z2
       obtain ⟨a2,A2,c2,qs2,Ao,co,os,kz,hmO⟩:=kd
       have BX:=Hd kz.box
       have RO:=Hd kz.rp
       have OO:=Hd kz.oso
       have DD:=Hd kz.dd
       have XK:=Hd kz.x
       have HM:=Hd hmO
       have hsW:=kz.x.size
       have hlw:=kz.low
       have hs1':=X1.out.size
       clear kz hmO
       have hq9:w.heap.size+1+1 < W.heap.size:=by omega
       have M:=Hd (fun W' (h:(relS (w.heap.size+1+1) (.cells (Rp.cs a2 A2 qs2.length c2 r) 33) W.heap.size hq9).rel W W')=>cells_mid (cs:=Rp.cs a2 A2 qs2.length c2 r) (relS_box BX.out (by omega) W' h) [] [.slice Ao (List.length os) co] rfl rfl)
       (refine Rm.wp_region_mix' (R:=relS (w.heap.size+1+1) (.cells (Rp.cs a2 A2 qs2.length c2 r) 33) W.heap.size hq9) (stored (w.heap.size+1+1) (.cells (Rp.cs a2 A2 qs2.length c2 r) 33)) (fun _ _ _ _ _ hq=>hq) 9 (by first | exact Nat.le_refl _ | omega | (simp;omega)) (by kernel_rfl) (by kernel_rfl) ?_;simp only [Tc,Tz,Dc,Dz])
       (iterate 1 (refine Rm.wpMix_plain rfl rfl ?_;go_big_quiet_step (fail);refine wpQuiet_nil ?_))
       (refine Rm.wpMix_nilp rfl rfl rfl ?_;simp only [Act.put,Sa,Sz,Ss])
       (iterate 1 (refine Rm.wpMix_plain rfl rfl ?_;go_big_quiet_step (fail);refine wpQuiet_nil ?_))
       (refine Rm.wpMix_loadAgg (M.out) rfl rfl rfl Tryz.underlying33 (by kernel_rfl) ?_;simp only [Act.put,Sa,Sz,Ss])
       (iterate 1 (refine Rm.wpMix_plain rfl rfl ?_;go_big_quiet_step (fail);refine wpQuiet_nil ?_))
       (refine Rm.wpMix_nilp rfl rfl rfl ?_;simp only [Act.put,Sa,Sz,Ss])
       (iterate 1 (refine Rm.wpMix_plain rfl rfl ?_;go_big_quiet_step (fail);refine wpQuiet_nil ?_))
       (refine Rm.wpMix_load1 (fun W' h=>show W'.cell? _=some (.slice Ao (List.length os) co) from bx_cell (relS_box BX.out (by omega) W' h) 13) rfl rfl rfl Tryz.underlying35 rfl ?_;simp only [Act.put,Sa,Sz,Ss])
       refine wpMix_st DW.out rfl rfl rfl rfl rfl (by kernel_rfl) rfl (by simp [Value.oneCell']) ?_
       simp only [Act.put,Sa,Sz,Ss]
       refine Rm.wpMix_nil ?_
       rintro W9 ⟨h9,E9⟩
       have c9:=h9.1
       have HE9:=Hd E9
       have HR9:=Hd ((RO.out.chgAny c9 (fun k h1 h2 hm=>by rw [Mi] at hm;omega)).wide (B':=w.heap.size) (by omega) c9.size)
       have HO9:=Hd ((OO.out.chg c9 (fun k hk hm=>by rw [Mi] at hm;have:=OO.out.low k hk;omega)).wide (B':=w.heap.size) (by omega) c9.size)
       have HX9:=Hd (ext_chg (Ext.trans X1.out XK.out) c9 (fun g hg=>by rw [Mi] at hg;omega))
       clear E9 h9 c9 M
       go_wp2
       refine bodyPost_ret (results_box2 Tryz.results27 rfl rfl Tryz.underlying33 (by kernel_rfl) HE9.out) rfl ⟨_,rfl, ?_,HX9.out⟩
       rw [HR'.out.1,HR'.out.2]
       exact ⟨a2,A2,c2,qs2,Ao,co,os,rfl,HR9.out,HO9.out,HM.out,DD.out⟩
      ·have HR':=Hd (show hearR2 r m kind R2=R2∧hearO r m kind O=O by rw [HR.out.1,HR.out.2];simp [hearB,HFe.out,qf,qk,qh,qi,qn])
       have hB:hearB r m kind=true:=by simp [hearB,HFe.out,qf,qk,qh,qi,qn]
       go_wp2_with (first | (go_at_call 58;refine (HFl.out _).mono ?_;rintro e w1 ⟨rfl,hx⟩;obtain ⟨hc1,hf1,hs1⟩:=hx.rules;(try simp at hs1);have z0:w.heap.size < w1.heap.size:=(by omega);have z1:w.heap.size+1 < w1.heap.size:=(by omega)) | (go_at_call 57;refine (c_has _ _ hF _).mono ?_;rintro e w1 ⟨rfl,hx⟩;obtain ⟨hc1,hf1,hs1⟩:=hx.rules;(try simp at hs1);have z0:w.heap.size < w1.heap.size:=(by omega);have z1:w.heap.size+1 < w1.heap.size:=(by omega)) | (go_at_call 39;refine (c_from _ _ _ _).mono ?_;rintro e w1 ⟨rfl,hx⟩;obtain ⟨hc1,hf1,hs1⟩:=hx.rules;(try simp at hs1);have z0:w.heap.size < w1.heap.size:=(by omega);have z1:w.heap.size+1 < w1.heap.size:=(by omega)))
       have XX:Ext (w2.alloc (Kp.obj a' A' ps.length c' r (.slice none 0 0))) w1:=by
        have X3:=X3.out
        (repeat (first | with_reducible exact ext_refl _ | with_reducible refine ext_to ?_ _ | with_reducible refine ext_set ?_ (by first | (simp;done) | (simp;omega) | omega) _ | with_reducible refine ext_drew ?_ | with_reducible refine Ext.trans ?_ (by assumption)))
       refine (HDo.out (by rw [hB];rfl) v1 _ w2.heap.size X1.out (HK0.out.keep XX)).mono ?_
       rintro e W ⟨rfl,kd⟩
       have DW:=Hd (show W.heap[w.heap.size+1+1]?=some Rp.zobj by obtain ⟨_,_,_,_,_,_,_,kz,_⟩:=kd;exact kz.x.box B3'.out)
       clear XX d1 d2 z1 z2
       go_wp2
       obtain ⟨a2,A2,c2,qs2,Ao,co,os,kz,hmO⟩:=kd
       have BX:=Hd kz.box
       have RO:=Hd kz.rp
       have OO:=Hd kz.oso
       have DD:=Hd kz.dd
       have XK:=Hd kz.x
       have HM:=Hd hmO
       have hsW:=kz.x.size
       have hlw:=kz.low
       have hs1':=X1.out.size
       clear kz hmO
       have hq9:w.heap.size+1+1 < W.heap.size:=by omega
       have M:=Hd (fun W' (h:(relS (w.heap.size+1+1) (.cells (Rp.cs a2 A2 qs2.length c2 R2) 33) W.heap.size hq9).rel W W')=>cells_mid (cs:=Rp.cs a2 A2 qs2.length c2 R2) (relS_box BX.out (by omega) W' h) [] [.slice Ao (List.length os) co] rfl rfl)
       (refine Rm.wp_region_mix' (R:=relS (w.heap.size+1+1) (.cells (Rp.cs a2 A2 qs2.length c2 R2) 33) W.heap.size hq9) (stored (w.heap.size+1+1) (.cells (Rp.cs a2 A2 qs2.length c2 R2) 33)) (fun _ _ _ _ _ hq=>hq) 9 (by first | exact Nat.le_refl _ | omega | (simp;omega)) (by kernel_rfl) (by kernel_rfl) ?_;simp only [Tc,Tz,Dc,Dz])
       (iterate 1 (refine Rm.wpMix_plain rfl rfl ?_;go_big_quiet_step (fail);refine wpQuiet_nil ?_))
       (refine Rm.wpMix_nilp rfl rfl rfl ?_;simp only [Act.put,Sa,Sz,Ss])
       (iterate 1 (refine Rm.wpMix_plain rfl rfl ?_;go_big_quiet_step (fail);refine wpQuiet_nil ?_))
       (refine Rm.wpMix_loadAgg (M.out) rfl rfl rfl Tryz.underlying33 (by kernel_rfl) ?_;simp only [Act.put,Sa,Sz,Ss])
       (iterate 1 (refine Rm.wpMix_plain rfl rfl ?_;go_big_quiet_step (fail);refine wpQuiet_nil ?_))
       (refine Rm.wpMix_nilp rfl rfl rfl ?_;simp only [Act.put,Sa,Sz,Ss])
       (iterate 1 (refine Rm.wpMix_plain rfl rfl ?_;go_big_quiet_step (fail);refine wpQuiet_nil ?_))
       (refine Rm.wpMix_load1 (fun W' h=>show W'.cell? _=some (.slice Ao (List.length os) co) from bx_cell (relS_box BX.out (by omega) W' h) 13) rfl rfl rfl Tryz.underlying35 rfl ?_;simp only [Act.put,Sa,Sz,Ss])
       refine wpMix_st DW.out rfl rfl rfl rfl rfl (by kernel_rfl) rfl (by simp [Value.oneCell']) ?_
       simp only [Act.put,Sa,Sz,Ss]
       refine Rm.wpMix_nil ?_
       rintro W9 ⟨h9,E9⟩
       have c9:=h9.1
       have HE9:=Hd E9
       have HR9:=Hd ((RO.out.chgAny c9 (fun k h1 h2 hm=>by rw [Mi] at hm;omega)).wide (B':=w.heap.size) (by omega) c9.size)
       have HO9:=Hd ((OO.out.chg c9 (fun k hk hm=>by rw [Mi] at hm;have:=OO.out.low k hk;omega)).wide (B':=w.heap.size) (by omega) c9.size)
       have HX9:=Hd (ext_chg (Ext.trans X1.out XK.out) c9 (fun g hg=>by rw [Mi] at hg;omega))
       clear E9 h9 c9 M
       go_wp2
       refine bodyPost_ret (results_box2 Tryz.results27 rfl rfl Tryz.underlying33 (by kernel_rfl) HE9.out) rfl ⟨_,rfl, ?_,HX9.out⟩
       rw [HR'.out.1,HR'.out.2]
       exact ⟨a2,A2,c2,qs2,Ao,co,os,rfl,HR9.out,HO9.out,HM.out,DD.out⟩
end Go.Proofs.YtikelfmmldafpaaGreat
