/- The keeper's votes. -/
import Derived.Test.YtikelfmmldafpaaGreatPk14
import Derived.Test.YtikelfmmldafpaaGreatPk44
namespace Go.Proofs.YtikelfmmldafpaaGreat
open Go.ChangeShapes Go.WideShapes Go.ChangeAt Go.RowKit Go.Sort
set_option linter.unusedVariables false
set_option linter.unusedSimpArgs false
abbrev Vt.cs (a:LAd) (v:Vt):Array Value:=#[.int .i64 v.kind, .int .i64 v.frm, .int .i64 v.view, .int .i64 v.normal, .int .i64 v.op, .int .i64 v.commit, .int .i64 v.log.base, .slice a.cA v.log.cells.length a.cc, .slice a.sA v.log.seats.length a.sc, .slice a.eA v.log.ents.length a.ec]
theorem vt_log {w w':World} {p:Nat} {a:LAd} {v:Vt} (hb:w.heap[p]?=some (Vt.obj a v)) (hx:Ext w w'):∀ j u,(Lg.cs a v.log).toList[j]?=some u→w'.cell? ⟨p,6+j,none⟩=some u :=
 cells_mid (cs:=Lg.cs a v.log) (hx.box hb) [.int .i64 v.kind, .int .i64 v.frm, .int .i64 v.view, .int .i64 v.normal, .int .i64 v.op, .int .i64 v.commit] [] rfl rfl
theorem vt_whole {w w':World} {p:Nat} {a:LAd} {v:Vt} (hb:w.heap[p]?=some (Vt.obj a v)) (hx:Ext w w'):∀ j u,(Vt.cs a v).toList[j]?=some u→w'.cell? ⟨p,0+j,none⟩=some u :=
 cells_mid (cs:=Vt.cs a v) (hx.box hb) [] [] rfl rfl
section
variable {W0 w w':World} {p:Nat} {a:LAd} {A:Option Addr} {c:Nat} {qs:List VtE} {R:Rp} {Ao:Option Addr} {co:Nat} {os:List OtE}
theorem KZ.voted {A':Option Addr} {c':Nat} {a':LAd} {v:Vt} {w1:World} (h:KZ W0 w p a A c qs R Ao co os) (hx:Ext w w1) (ho:LgO w1 w.heap.size w1.heap.size a' v.log) (hg:Chg w1 w' (p::blk A)) (hb:w'.heap[p]?=some (Kp.obj a A' (qs++[(a',v)]).length c' (R.votesTo (R.votes++[v])) (.slice Ao os.length co)))
  (hrow:Ow VtE.enc 57 10 w' W0.heap.size (.slice A' (qs++[(a',v)]).length c') (qs++[(a',v)])):KZ W0 w' p a A' c' (qs++[(a',v)]) (R.votesTo (R.votes++[v])) Ao co os:=by
 have h1:=h.keep hx
 have hq:VsQ w1 W0.heap.size (qs++[(a',v)]):=(show VsQ w W0.heap.size qs from ⟨h.rp.v.l,(List.nodup_append.1 h.rp.v.nd).2.1⟩).step h.x.size ho hx
 have hneL:∀ q∈qs++[(a',v)],∀ k∈q.1.fp,k∉p::blk A:=fun q hq' k hk hm=>by
  rcases List.mem_cons.1 hm with e | hm
  ·subst e;exact lg_box_apart h1.box (hq.l q hq') (by decide) (by decide) (by decide) hk
  ·exact lg_apart (hq.l q hq') h1.rp.v.r k hk hm
 have hv:=(hq.chg hg hneL).own hrow
 have hl:LgO w' W0.heap.size w'.heap.size a R.log:=(h1.rp.l.chg hg (fun k hk hm=>by
  rcases List.mem_cons.1 hm with e | hm
  ·subst e;exact lg_box_apart h1.box h1.rp.l (by decide) (by decide) (by decide) hk
  ·exact lg_apart h1.rp.l h1.rp.v.r k hk hm)).wide (Nat.le_refl _) hg.size
 have hnew:∀ k∈a'.fp,w.heap.size≤k:=ho.low
 have hlow:∀ k∈a.fp++vsF A qs,k < w.heap.size:=fun k hk=>(h.rp.fpIn k hk).2
 have hlo:=(h1.logs.chg hg (fun q hq' k hk hm=>by
  rcases List.mem_cons.1 hm with e | hm
  ·subst e;exact h1.pL q hq' hk
  ·exact h1.d k (List.mem_append_right _ (List.mem_append_left _ hm)) q hq' hk))
 refine ⟨hb,ext_chg h1.x hg (fun g hg'=>?_),h.low,⟨hl,hv, ?_,fun k hk hm=>?_⟩,h1.row.chg hg (fun k hk hm=>?_),hlo,fun x hx' q hq' hm=>?_⟩
 ·rcases List.mem_cons.1 hg' with e | hm
  ·rw [e];exact h.low
  ·exact (h1.rp.v.r.inB g hm).1
 ·rw [List.map_append,h.rp.e];rfl
 ·rcases List.mem_append.1 hm with hm | hm
  ·exact lg_apart hl hrow k hk hm
  ·rw [List.flatMap_append] at hm
   rcases List.mem_append.1 hm with hm | hm
   ·exact h.rp.d k hk (List.mem_append_right _ hm)
   ·have h2:=hnew k (by simpa using hm)
    have h3:=hlow k (List.mem_append_left _ hk)
    omega
 ·rcases List.mem_cons.1 hm with e | hm
  ·subst e;exact h1.pO hk
  ·exact h1.rp.apartO h1.row k (List.mem_append_right _ (List.mem_append_left _ hm)) hk
 ·rcases List.mem_append.1 hx' with hx' | hx'
  ·exact h.d x (List.mem_append_left _ hx') q hq' hm
  ·rcases List.mem_append.1 hx' with hx' | hx'
   ·exact lg_apart (hlo.l q hq') hrow x hm hx'
   ·rw [List.flatMap_append] at hx'
    rcases List.mem_append.1 hx' with hx' | hx'
    ·exact h.d x (List.mem_append_right _ (List.mem_append_right _ hx')) q hq' hm
    ·have h2:=hnew x (by simpa using hx')
     have h3:=(h.logs.l q hq').lt x hm
     omega
theorem KZ.qlen (h:KZ W0 w p a A c qs R Ao co os):R.votes.length=qs.length:=by rw [←h.rp.e,List.length_map]
set_option maxRecDepth 100000 in
set_option maxHeartbeats 4000000 in
theorem c_vote (hk:KZ W0 w p a A c qs R Ao co os) (av:LAd) (v:Vt) (hl:LgR w av v.log) (hs:v.log.small) :
  Calls Tryz.prog 83 #[.pointer (some ⟨p,0,none⟩),VtE.val av v] w fun e w'=>e = .returned (.tuple #[])∧∃ A' c' qs',KZ W0 w' p a A' c' qs' (R.voted v) Ao co os:=by
 obtain ⟨i0,hi,hz0,hz1,hz2⟩:=info_parts Tryz.infoVt
 have hql:=hk.qlen
 have X0:=ext_alloc w (Vt.obj av v)
 have HB:=Hd (hNew (w:=w) (o:=Vt.obj av v) rfl)
 have HC:=Hd (c_copyLog av v.log hs _ (hl.keep X0))
 have HK:=Hd hk
 have d:=bx_cell hk.box
 have z:=bx_lt hk.box
 by_cases h20:qs.length < 20
 ·have HV:=Hd (show R.votesTo (R.votes++[v])=R.voted v by unfold Rp.voted;rw [if_pos (by omega)])
  have g20:decide ((qs.length:Int) < 20)=true:=by simp;omega
  clear hk hl hs hql
  go_enter Tryz.func83,Tryz.ntmps83
  (go_wp2_with (with_reducible refine wl_stop 12 ?_);refine stop_loadAgg (vt_log HB.out (ext_refl _)) rfl Tryz.underlying30 (by kernel_rfl) ?_;simp only [Act.put,Sa,Sz,Ss])
  go_wp2_with fail
  refine HC.out.mono ?_
  rintro e w1 ⟨a',rfl,o1,x1⟩
  have B1:=x1.box HB.out
  have b1:=bx_cell B1
  have f1:=bx_frozen B1
  have z1:=bx_lt B1
  have P1:=box_put (box_put (box_put (box_put B1 6 (.int .i64 v.log.base)) 7 (.slice a'.cA v.log.cells.length a'.cc)) 8 (.slice a'.sA v.log.seats.length a'.sc)) 9 (.slice a'.eA v.log.ents.length a'.ec)
  simp only [Sa,Sz,Ss] at P1
  have hcs:=chg_set (chg_set (chg_set (chg_set (Chg.refl w1 [w.heap.size]) (p:=⟨w.heap.size,6,none⟩) (by simp) (.int .i64 v.log.base)) (p:=⟨w.heap.size,7,none⟩) (by simp) (.slice a'.cA v.log.cells.length a'.cc)) (p:=⟨w.heap.size,8,none⟩) (by simp) (.slice a'.sA v.log.seats.length a'.sc)) (p:=⟨w.heap.size,9,none⟩) (by simp) (.slice a'.eA v.log.ents.length a'.ec)
  simp only [sz_alloc] at o1
  have HO:=Hd (o1.chg1 hcs (by omega))
  have HP1:=Hd P1
  have HX1:=Hd (chg_new (Ext.trans X0 x1) hcs (Nat.le_refl _))
  have HS:=Hd hcs.size
  clear B1 P1 hcs o1 x1 X0 HC HB d z
  go_wp2
  refine code_go (F:=fun W=>W.heap[w.heap.size]?=some (Vt.obj a' v)∧LgO W (w.heap.size+1) W.heap.size a' v.log∧Ext w W) ⟨HP1.out,HO.out.wide (Nat.le_refl _) (by exact HS.out),HX1.out⟩ ?_
  intro W2 ⟨E2,O2,X2⟩
  clear b1 f1 z1 HP1 HO HX1 HS
  have D2:=Hd (X2.box HK.out.box)
  have HE2:=Hd E2
  have HO2:=Hd O2
  have HX2:=Hd X2
  clear E2 O2
  (refine Rm.wp_region_mix' (R:=relE W2.heap.size) (fun _ _ _=>True) (fun _ _ _ _ _ hq=>hq) 8 (by first | exact Nat.le_refl _ | omega | (simp;omega)) (by kernel_rfl) (by kernel_rfl) ?_;simp only [Tc,Tz,Dc,Dz])
  (iterate 2 (refine Rm.wpMix_plain rfl rfl ?_;go_big_quiet_step (fail);refine wpQuiet_nil ?_))
  (refine Rm.wpMix_nilp rfl rfl rfl ?_;simp only [Act.put,Sa,Sz,Ss])
  (iterate 2 (refine Rm.wpMix_plain rfl rfl ?_;go_big_quiet_step (fail);refine wpQuiet_nil ?_))
  (refine Rm.wpMix_load1 (fun W9' h9=>show W9'.cell? _=some (.slice A qs.length c) from bx_cell (Ext.box h9 D2.out) 10) rfl rfl rfl Tryz.underlying31 rfl ?_;simp only [Act.put,Sa,Sz,Ss])
  (refine Rm.wpMix_loadAgg (fun W9' h9=>vt_whole HE2.out h9) rfl rfl rfl Tryz.underlying57 (by kernel_rfl) ?_;simp only [Act.put,Sa,Sz,Ss])
  (refine Rm.wpMix_alloc (.cells (Vt.cs a' v) 57) rfl (fun W=>by kernel_rfl) ?_;intro p1 hp1 hps1 hpi1;simp only [layVal,Act.put,Sa,Sz,Ss])
  refine Rm.wpMix_nil ?_
  rintro W3 ⟨X3,E3⟩
  have X3':Ext W2 W3:=X3
  have hB3:W0.heap.size≤W3.heap.size:=by have:=HK.out.x.size;have:=X2.size;have:=X3'.size;omega
  have HXw:=Hd (Ext.trans X2 X3')
  have HK3:=Hd (HK.out.keep HXw.out)
  have HO3:=Hd ((HO2.out.kept X3').wide (Nat.le_succ _) X3'.size)
  have HE3:=Hd E3
  clear X3 X3' E3 hp1 hps1 hpi1 HE2 HO2 HX2 D2 X2
  go_wp2_with (at_builtin;refine wl_app (enc:=VtE.enc) rfl _ _ 31 rfl W0.heap.size 57 i0 Vt.zero 10 128 Tryz.underlying31 hi hz0 hz1 hz2 rfl (by decide) VtE.len VtE.one (.slice A qs.length c) qs rfl HK3.out.rp.v.r (some ⟨p1,0,none⟩) 1 [(a',v)] 1 rfl rfl (Rd.one HE3.out rfl) ?c1 ?c2 ?c3 ?_)
  case c1=>unfold maxLen;simp;omega
  case c2=>simp;omega
  case c3=>exact hB3
  intro v' w4 ho4 hg4
  obtain ⟨A',c',rfl⟩:=ho4.form
  have c4:=chg_grown hg4
  have hpA:p∉blk A:=fun hm=>HK3.out.pB (List.mem_append_right _ (List.mem_append_left _ hm))
  have D4:=box_out' HK3.out.box c4 hpA
  have d4:=bx_cell D4
  have g4:=bx_frozen D4
  have z4:=bx_lt D4
  have P4:=box_put D4 10 (.slice A' (qs.length+1) c')
  simp only [Sa,Sz,Ss] at P4
  have hl1:(qs++[(a',v)]).length=qs.length+1:=by simp
  rw [hl1] at ho4
  have c5:=chg_set (Chg.refl w4 [p]) (p:=⟨p,10,none⟩) (by simp) (.slice A' (qs.length+1) c')
  have hpb:=box_apart D4 ho4 (by decide)
  have c45:=(c4.more (fun k hk=>List.mem_cons_of_mem p hk)).trans (c5.more (fun k hk=>by rw [Mi] at hk;subst hk;exact List.mem_cons_self))
  have HF:=Hd (HK.out.voted HXw.out HO3.out c45 (by rw [hl1];exact P4) (by rw [hl1];exact ho4.chg c5 (fun k hk hm=>by rw [Mi] at hm;subst hm;exact hpb hk)))
  clear c4 c5 c45 P4 ho4 hg4 D4 hpb hl1 HXw HO3 HK3 HK
  go_wp2
  refine bodyPost_end (v := .tuple #[]) (by simp [results,Tryz.results83,go_sem]) rfl ?_
  rw [←HV.out]
  exact ⟨rfl,A',c',_,HF.out⟩
 ·have HV:=Hd (show R=R.voted v by unfold Rp.voted;rw [if_neg (by omega)])
  have g20:decide ((qs.length:Int) < 20)=false:=by simp;omega
  have HF:=Hd (HK.out.keep X0)
  clear hk hl hs hql HC HB X0
  go_enter Tryz.func83,Tryz.ntmps83
  go_wp2
  refine bodyPost_end (v := .tuple #[]) (by simp [results,Tryz.results83,go_sem]) rfl ?_
  rw [←HV.out]
  exact ⟨rfl,A,c,qs,HF.out⟩
end
theorem c_find1 (kind who:Int) (K B:Nat) (av:LAd) (v:Vt) (w:World) (hK:K < w.heap.size) (hB:B < w.heap.size) (hc:w.cell? ⟨K,0,none⟩=some (.int .i64 kind)) (hd:w.cell? ⟨B,0,none⟩=some (.int .i64 who)) :
  Calls Tryz.prog 128 #[VtE.val av v, .pointer (some ⟨K,0,none⟩), .pointer (some ⟨B,0,none⟩)] w fun e w'=>e = .returned (.bool (isV kind who v))∧Ext w w':=by
 have h1:¬ K=w.heap.size:=by omega
 have h2:¬ B=w.heap.size:=by omega
 go_enter Tryz.func128,Tryz.ntmps128
 go_wp2
 all_goals
  go_ret
  exact ⟨ret_bool (by simp_all [isV]),ext_alloc _ _⟩
theorem idxOf_map {α β:Type} (f:α→β) (p:β→Bool) (l:List α):idxOf (fun x=>p (f x)) l=idxOf p (l.map f):=by
 unfold idxOf
 rw [List.findIdx?_map]
 rfl
set_option maxHeartbeats 2000000 in
theorem c_find (kind who:Int) (p:Nat) (a:LAd) (A:Option Addr) (c:Nat) (qs:List VtE) (R:Rp) (O:Value) (w:World) (hb:w.heap[p]?=some (Kp.obj a A qs.length c R O)) (hr:Rd VtE.enc 10 w A c qs) (he:qs.map Prod.snd=R.votes) (hn:qs.length≤1048576) :
  Calls Tryz.prog 82 #[.pointer (some ⟨p,0,none⟩), .int .i64 kind, .int .i64 who] w fun e w'=>e = .returned (.int .i64 (findV kind who R.votes))∧Ext w w':=by
 have X0:Ext w ((w.alloc (.cells #[.int .i64 kind] 3)).alloc (.cells #[.int .i64 who] 3)):=ext_to (ext_alloc _ _) _
 have hcon:=Hd (c_idxVtE 128 #[.pointer (some ⟨w.heap.size,0,none⟩), .pointer (some ⟨w.heap.size+1,0,none⟩)] (fun q=>isV kind who q.2) (enters Tryz.func128 (by kernel_rfl) rfl) A c qs _ (hr.keep X0) (by omega)
  (fun W hW k hk=>c_find1 kind who w.heap.size (w.heap.size+1) _ _ W (bx_lt (hW.box (hOld (o := .cells #[.int .i64 who] 3) (hNew (w:=w) (o := .cells #[.int .i64 kind] 3) rfl)))) (bx_lt (hW.box (hNew (w:=w.alloc (.cells #[.int .i64 kind] 3)) (o := .cells #[.int .i64 who] 3) (k:=w.heap.size+1) (by simp))))
   (bx_cell (hW.box (hOld (o := .cells #[.int .i64 who] 3) (hNew (w:=w) (o := .cells #[.int .i64 kind] 3) rfl))) 0) (bx_cell (hW.box (hNew (w:=w.alloc (.cells #[.int .i64 kind] 3)) (o := .cells #[.int .i64 who] 3) (k:=w.heap.size+1) (by simp))) 0)))
 have HV:=Hd (show idxOf (fun q:VtE=>isV kind who q.2) qs=findV kind who R.votes by unfold findV;rw [←he];exact idxOf_map Prod.snd (isV kind who) qs)
 have d:=bx_cell hb
 have z:=bx_lt hb
 have HX0:=Hd X0
 clear hb hr he X0
 go_enter Tryz.func82,Tryz.ntmps82
 go_wp2_with fail
 refine hcon.out.mono ?_
 rintro e w1 ⟨rfl,x1⟩
 rw [HV.out]
 go_wp2
 go_ret
 exact ⟨rfl,Ext.trans HX0.out x1⟩
theorem cntV_next {kind:Int} {l:List Vt} {k:Nat} (h:k < l.length):cntV kind (l.take (k+1))=cntV kind (l.take k)+if (l[k].kind == kind)=true then 1 else 0:=by
 unfold cntV
 rw [List.take_add_one,List.countP_append,List.getElem?_eq_getElem h]
 simp [List.countP_cons]
theorem cntV_le (kind:Int) (l:List Vt) (k:Nat):cntV kind (l.take k)≤l.length:=Nat.le_trans (List.countP_le_length) (by rw [List.length_take];omega)
set_option maxHeartbeats 4000000 in
theorem c_count (kind:Int) (p:Nat) (a:LAd) (A:Option Addr) (c:Nat) (qs:List VtE) (R:Rp) (O:Value) (w:World) (hb:w.heap[p]?=some (Kp.obj a A qs.length c R O)) (hr:Rd VtE.enc 10 w A c qs) (he:qs.map Prod.snd=R.votes) (hn:qs.length≤1048576) :
  Calls Tryz.prog 80 #[.pointer (some ⟨p,0,none⟩), .int .i64 kind] w fun e w'=>e = .returned (.int .i64 (cntV kind R.votes))∧Ext w w':=by
 have hL:R.votes.length=qs.length:=by rw [←he,List.length_map]
 have HE:=Hd (show ∀ k (h:k < qs.length),∃ h2:k < R.votes.length,R.votes[k]=qs[k].2 from fun k h=>⟨by omega,by simp [←he]⟩)
 have HR:=Hd hr
 have d:=bx_cell hb
 have z:=bx_lt hb
 clear hb hr he
 go_enter Tryz.func80,Tryz.ntmps80
 go_wp2
 go_loopw [5,14] (fun n i wr=>∃ k:Nat,k≤qs.length∧i = .int .i64 k∧n = .int .i64 (cntV kind (R.votes.take k))∧Ext w wr) (fun _ i _=>qs.length - (intOf i).toNat)
 case atStart=>exact ⟨0,Nat.zero_le _,rfl,by simp [cntV],ext_refl _⟩
 case round =>
  obtain ⟨k,hk,rfl,rfl,X⟩:=hrel
  clear d z
  by_cases hlt:k < qs.length
  ·obtain ⟨ab,ao,hA,hab,a0,a1,a2,a3,a4,a5,a6,a7,a8,a9⟩:=(HR.out.keep X).atVtE hlt
   subst hA
   obtain ⟨h2,h3⟩:=HE.out k hlt
   have hle:=cntV_le kind R.votes k
   cases g1:(qs[k].2.kind == kind)
   ·have HN:=Hd (show cntV kind (R.votes.take (k+1))=cntV kind (R.votes.take k) by rw [cntV_next h2,h3,g1];rfl)
    clear h3
    go_wp2
    go_roundw
    case rel=>exact ⟨k+1,by omega,by go_num,by rw [HN.out],Ext.trans X (ext_alloc _ _)⟩
    case measure=>simp [intOf] <;> omega
   ·have HN:=Hd (show cntV kind (R.votes.take (k+1))=cntV kind (R.votes.take k)+1 by rw [cntV_next h2,h3,g1];rfl)
    clear h3
    go_wp2
    go_roundw
    case rel=>exact ⟨k+1,by omega,by go_num,by rw [HN.out];go_num,Ext.trans X (ext_alloc _ _)⟩
    case measure=>simp [intOf] <;> omega
  ·obtain rfl:k=qs.length:=by omega
   have HN:=Hd (show R.votes.take qs.length=R.votes by rw [←hL,List.take_length])
   rw [HN.out]
   go_wp2
   go_ret
   exact ⟨rfl,X⟩
section
variable {w:World} {p:Nat} {a:LAd} {A:Option Addr} {n c:Nat} {R:Rp} {O:Value}
set_option maxRecDepth 100000 in
set_option maxHeartbeats 2000000 in
theorem c_doMsg (hb:w.heap[p]?=some (Kp.obj a A n c R O)):Calls Tryz.prog 84 #[.pointer (some ⟨p,0,none⟩)] w fun e w'=>e = .returned (Mg.val a (doM R))∧Ext w w':=by
 have HZ:=Hd (hNew (w:=w) (o:=Mg.zobj) rfl)
 have HK:=Hd (hOld (o:=Mg.zobj) hb)
 have HX:=Hd (ext_alloc w Mg.zobj)
 clear hb
 go_enter Tryz.func84,Tryz.ntmps84
 go_wp2
 (refine Rm.wp_region_mix' (R:=relE (w.alloc Mg.zobj).heap.size) (fun _ _ _=>True) (fun _ _ _ _ _ hq=>hq) 26 (by first | exact Nat.le_refl _ | omega | (simp;omega)) (by kernel_rfl) (by kernel_rfl) ?_;simp only [Tc,Tz,Dc,Dz])
 ((iterate 1 (refine Rm.wpMix_plain rfl rfl ?_;go_big_quiet_step (fail);refine wpQuiet_nil ?_));(refine Rm.wpMix_nilp rfl rfl rfl ?_;simp only [Act.put,Sa,Sz,Ss]);(iterate 2 (refine Rm.wpMix_plain rfl rfl ?_;go_big_quiet_step (fail);refine wpQuiet_nil ?_));(refine Rm.wpMix_load1 (fun W9' h9=>show W9'.cell? _=some (.int .i64 R.me) from bx_cell (Ext.box h9 HK.out) 0) rfl rfl rfl Tryz.underlying3 rfl ?_;simp only [Act.put,Sa,Sz,Ss]);(iterate 1 (refine Rm.wpMix_plain rfl rfl ?_;go_big_quiet_step (fail);refine wpQuiet_nil ?_));(refine Rm.wpMix_nilp rfl rfl rfl ?_;simp only [Act.put,Sa,Sz,Ss]);(iterate 2 (refine Rm.wpMix_plain rfl rfl ?_;go_big_quiet_step (fail);refine wpQuiet_nil ?_));(refine Rm.wpMix_load1 (fun W9' h9=>show W9'.cell? _=some (.int .i64 R.view) from bx_cell (Ext.box h9 HK.out) 3) rfl rfl rfl Tryz.underlying3 rfl ?_;simp only [Act.put,Sa,Sz,Ss]);(iterate 1 (refine Rm.wpMix_plain rfl rfl ?_;go_big_quiet_step (fail);refine wpQuiet_nil ?_));(refine Rm.wpMix_nilp rfl rfl rfl ?_;simp only [Act.put,Sa,Sz,Ss]);(iterate 2 (refine Rm.wpMix_plain rfl rfl ?_;go_big_quiet_step (fail);refine wpQuiet_nil ?_));(refine Rm.wpMix_load1 (fun W9' h9=>show W9'.cell? _=some (.int .i64 R.normal) from bx_cell (Ext.box h9 HK.out) 4) rfl rfl rfl Tryz.underlying3 rfl ?_;simp only [Act.put,Sa,Sz,Ss]);(iterate 1 (refine Rm.wpMix_plain rfl rfl ?_;go_big_quiet_step (fail);refine wpQuiet_nil ?_));(refine Rm.wpMix_nilp rfl rfl rfl ?_;simp only [Act.put,Sa,Sz,Ss]);(iterate 2 (refine Rm.wpMix_plain rfl rfl ?_;go_big_quiet_step (fail);refine wpQuiet_nil ?_));(refine Rm.wpMix_load1 (fun W9' h9=>show W9'.cell? _=some (.int .i64 R.commit) from bx_cell (Ext.box h9 HK.out) 5) rfl rfl rfl Tryz.underlying3 rfl ?_;simp only [Act.put,Sa,Sz,Ss]);(iterate 1 (refine Rm.wpMix_plain rfl rfl ?_;go_big_quiet_step (fail);refine wpQuiet_nil ?_));(refine Rm.wpMix_nilp rfl rfl rfl ?_;simp only [Act.put,Sa,Sz,Ss]);(iterate 2 (refine Rm.wpMix_plain rfl rfl ?_;go_big_quiet_step (fail);refine wpQuiet_nil ?_)))
 (refine Rm.wpMix_loadAgg (fun W9' h9=>kp_log HK.out h9) rfl rfl rfl Tryz.underlying30 (by kernel_rfl) ?_;simp only [Act.put,Sa,Sz,Ss])
 (iterate 1 (refine Rm.wpMix_plain rfl rfl ?_;go_big_quiet_step (fail);refine wpQuiet_nil ?_))
 refine Rm.wpMix_nil ?_
 rintro W1 hW1
 have x1:Ext (w.alloc Mg.zobj) W1:=hW1
 have Z1:=Hd (x1.box HZ.out)
 have X1:=Hd (Ext.trans HX.out x1)
 clear x1 hW1 HK HZ HX
 (go_wp2_with (with_reducible refine wl_stopS 43 ?_);refine stop_store (w.heap.size) (Mg.cs a (doM R)) rfl rfl (Z1.out) (by kernel_rfl) rfl (by simp [Value.oneCell']) ?_)
 intro W9 e9 k9
 have HE9:=Hd e9
 have HX9:=Hd (chg_new X1.out k9 (Nat.le_refl _))
 clear e9 k9
 go_wp2
 exact bodyPost_ret (results_box Tryz.results84 rfl Tryz.underlying43 (by kernel_rfl) HE9.out) rfl ⟨rfl,HX9.out⟩
set_option maxRecDepth 100000 in
set_option maxHeartbeats 2000000 in
theorem c_startMsg (hb:w.heap[p]?=some (Kp.obj a A n c R O)):Calls Tryz.prog 131 #[.pointer (some ⟨p,0,none⟩)] w fun e w'=>e = .returned (Mg.val a (startM R))∧Ext w w':=by
 have HZ:=Hd (hNew (w:=w) (o:=Mg.zobj) rfl)
 have HK:=Hd (hOld (o:=Mg.zobj) hb)
 have HX:=Hd (ext_alloc w Mg.zobj)
 clear hb
 go_enter Tryz.func131,Tryz.ntmps131
 go_wp2
 (refine Rm.wp_region_mix' (R:=relE (w.alloc Mg.zobj).heap.size) (fun _ _ _=>True) (fun _ _ _ _ _ hq=>hq) 21 (by first | exact Nat.le_refl _ | omega | (simp;omega)) (by kernel_rfl) (by kernel_rfl) ?_;simp only [Tc,Tz,Dc,Dz])
 ((iterate 1 (refine Rm.wpMix_plain rfl rfl ?_;go_big_quiet_step (fail);refine wpQuiet_nil ?_));(refine Rm.wpMix_nilp rfl rfl rfl ?_;simp only [Act.put,Sa,Sz,Ss]);(iterate 2 (refine Rm.wpMix_plain rfl rfl ?_;go_big_quiet_step (fail);refine wpQuiet_nil ?_));(refine Rm.wpMix_load1 (fun W9' h9=>show W9'.cell? _=some (.int .i64 R.me) from bx_cell (Ext.box h9 HK.out) 0) rfl rfl rfl Tryz.underlying3 rfl ?_;simp only [Act.put,Sa,Sz,Ss]);(iterate 1 (refine Rm.wpMix_plain rfl rfl ?_;go_big_quiet_step (fail);refine wpQuiet_nil ?_));(refine Rm.wpMix_nilp rfl rfl rfl ?_;simp only [Act.put,Sa,Sz,Ss]);(iterate 2 (refine Rm.wpMix_plain rfl rfl ?_;go_big_quiet_step (fail);refine wpQuiet_nil ?_));(refine Rm.wpMix_load1 (fun W9' h9=>show W9'.cell? _=some (.int .i64 R.view) from bx_cell (Ext.box h9 HK.out) 3) rfl rfl rfl Tryz.underlying3 rfl ?_;simp only [Act.put,Sa,Sz,Ss]);(iterate 1 (refine Rm.wpMix_plain rfl rfl ?_;go_big_quiet_step (fail);refine wpQuiet_nil ?_));(refine Rm.wpMix_nilp rfl rfl rfl ?_;simp only [Act.put,Sa,Sz,Ss]);(iterate 2 (refine Rm.wpMix_plain rfl rfl ?_;go_big_quiet_step (fail);refine wpQuiet_nil ?_));(refine Rm.wpMix_load1 (fun W9' h9=>show W9'.cell? _=some (.int .i64 R.commit) from bx_cell (Ext.box h9 HK.out) 5) rfl rfl rfl Tryz.underlying3 rfl ?_;simp only [Act.put,Sa,Sz,Ss]);(iterate 1 (refine Rm.wpMix_plain rfl rfl ?_;go_big_quiet_step (fail);refine wpQuiet_nil ?_));(refine Rm.wpMix_nilp rfl rfl rfl ?_;simp only [Act.put,Sa,Sz,Ss]);(iterate 2 (refine Rm.wpMix_plain rfl rfl ?_;go_big_quiet_step (fail);refine wpQuiet_nil ?_)))
 (refine Rm.wpMix_loadAgg (fun W9' h9=>kp_log HK.out h9) rfl rfl rfl Tryz.underlying30 (by kernel_rfl) ?_;simp only [Act.put,Sa,Sz,Ss])
 (iterate 1 (refine Rm.wpMix_plain rfl rfl ?_;go_big_quiet_step (fail);refine wpQuiet_nil ?_))
 refine Rm.wpMix_nil ?_
 rintro W1 hW1
 have x1:Ext (w.alloc Mg.zobj) W1:=hW1
 have Z1:=Hd (x1.box HZ.out)
 have X1:=Hd (Ext.trans HX.out x1)
 clear x1 hW1 HK HZ HX
 (go_wp2_with (with_reducible refine wl_stopS 43 ?_);refine stop_store (w.heap.size) (Mg.cs a (startM R)) rfl rfl (Z1.out) (by kernel_rfl) rfl (by simp [Value.oneCell']) ?_)
 intro W9 e9 k9
 have HE9:=Hd e9
 have HX9:=Hd (chg_new X1.out k9 (Nat.le_refl _))
 clear e9 k9
 go_wp2
 exact bodyPost_ret (results_box Tryz.results131 rfl Tryz.underlying43 (by kernel_rfl) HE9.out) rfl ⟨rfl,HX9.out⟩
end
end Go.Proofs.YtikelfmmldafpaaGreat
