/- The best vote (without the reference's BestVote). -/
import Derived.Test.YtikelfmmldafpaaGreatPk5
import Derived.Test.YtikelfmmldafpaaGreatPk14
namespace Go.Proofs.YtikelfmmldafpaaGreat
open Go.ChangeShapes Go.WideShapes Go.ChangeAt Go.RowKit Go.Sort
set_option linter.unusedVariables false
set_option linter.unusedSimpArgs false
def btr (u v:Vt):Bool:=decide (v.normal < u.normal) || (u.normal == v.normal && decide (v.log.fin < u.log.fin))
set_option maxHeartbeats 4000000 in
theorem c_better (a b:LAd) (u v:Vt) (w:World) (hu0:0≤u.log.base) (hu1:u.log.base≤1000000000) (hu2:u.log.ents.length≤60) (hv0:0≤v.log.base) (hv1:v.log.base≤1000000000) (hv2:v.log.ents.length≤60) :
  Calls Tryz.prog 157 #[VtE.val a u,VtE.val b v] w fun e w'=>e = .returned (.bool (btr u v))∧Ext w w':=by
 have X0:Ext w ((w.alloc (Vt.obj a u)).alloc (Vt.obj b v)):=ext_to (ext_alloc _ _) _
 cases g1:decide (v.normal < u.normal)
 ·cases g2:(u.normal == v.normal)
  ·have HV:=Hd (show false=btr u v by simp only [btr,g1,g2];rfl)
   go_enter Tryz.func157,Tryz.ntmps157
   go_wp2
   (refine wp_region_mix' (fun _ _ _ _ _ hq=>hq) 22 (by kernel_rfl) (by kernel_rfl) (fun hg=>?_);simp only [headOps,Tc,Tz,List.filter_cons,List.filter_nil,isAlloc,Bool.not_false,Bf,if_true,if_false,List.append_nil,Dc,Dz])
   (repeat (first | (refine wpMix_plain rfl rfl ?_;go_big_quiet_step (fail);refine wpQuiet_nil ?_) | (refine wpMix_skip rfl rfl ?_;simp only [Act.put,Sa,Sz,Ss]) | (refine wpMix_det rfl rfl rfl (enters Tryz.func30 (by kernel_rfl) rfl) (fun W hW=>c_end a u.log W (by omega) (by omega) (by omega)) rfl ?_;simp only [Act.put,Sa,Sz,Ss]) | (refine wpMix_det rfl rfl rfl (enters Tryz.func30 (by kernel_rfl) rfl) (fun W hW=>c_end b v.log W (by omega) (by omega) (by omega)) rfl ?_;simp only [Act.put,Sa,Sz,Ss])))
   (refine wpMix_nil ?_;intro w2 hw2)
   go_wp2
   go_ret
   exact ⟨ret_bool HV.out,Ext.trans X0 hw2⟩
  ·have HV:=Hd (show decide (v.log.fin < u.log.fin)=btr u v by simp only [btr,g1,g2];rfl)
   go_enter Tryz.func157,Tryz.ntmps157
   go_wp2
   (refine wp_region_mix' (fun _ _ _ _ _ hq=>hq) 22 (by kernel_rfl) (by kernel_rfl) (fun hg=>?_);simp only [headOps,Tc,Tz,List.filter_cons,List.filter_nil,isAlloc,Bool.not_false,Bf,if_true,if_false,List.append_nil,Dc,Dz])
   (repeat (first | (refine wpMix_plain rfl rfl ?_;go_big_quiet_step (fail);refine wpQuiet_nil ?_) | (refine wpMix_skip rfl rfl ?_;simp only [Act.put,Sa,Sz,Ss]) | (refine wpMix_det rfl rfl rfl (enters Tryz.func30 (by kernel_rfl) rfl) (fun W hW=>c_end a u.log W (by omega) (by omega) (by omega)) rfl ?_;simp only [Act.put,Sa,Sz,Ss]) | (refine wpMix_det rfl rfl rfl (enters Tryz.func30 (by kernel_rfl) rfl) (fun W hW=>c_end b v.log W (by omega) (by omega) (by omega)) rfl ?_;simp only [Act.put,Sa,Sz,Ss])))
   (refine wpMix_nil ?_;intro w2 hw2)
   go_wp2
   go_ret
   exact ⟨ret_bool HV.out,Ext.trans X0 hw2⟩
 ·have HV:=Hd (show true=btr u v by simp only [btr,g1];rfl)
  go_enter Tryz.func157,Tryz.ntmps157
  go_wp2
  (refine wp_region_mix' (fun _ _ _ _ _ hq=>hq) 22 (by kernel_rfl) (by kernel_rfl) (fun hg=>?_);simp only [headOps,Tc,Tz,List.filter_cons,List.filter_nil,isAlloc,Bool.not_false,Bf,if_true,if_false,List.append_nil,Dc,Dz])
  (repeat (first | (refine wpMix_plain rfl rfl ?_;go_big_quiet_step (fail);refine wpQuiet_nil ?_) | (refine wpMix_skip rfl rfl ?_;simp only [Act.put,Sa,Sz,Ss]) | (refine wpMix_det rfl rfl rfl (enters Tryz.func30 (by kernel_rfl) rfl) (fun W hW=>c_end a u.log W (by omega) (by omega) (by omega)) rfl ?_;simp only [Act.put,Sa,Sz,Ss]) | (refine wpMix_det rfl rfl rfl (enters Tryz.func30 (by kernel_rfl) rfl) (fun W hW=>c_end b v.log W (by omega) (by omega) (by omega)) rfl ?_;simp only [Act.put,Sa,Sz,Ss])))
  (refine wpMix_nil ?_;intro w2 hw2)
  go_wp2
  go_ret
  exact ⟨ret_bool HV.out,Ext.trans X0 hw2⟩
def bStep (ps:List VtE) (k:Nat) (b:Option Nat):Bool:=match ps[k]? with
 | none=>false
 | some v=>v.2.kind == 6 && match b with
  | none=>true
  | some j=>match ps[j]? with
   | some u=>btr v.2 u.2
   | none=>true
def bTo (ps:List VtE):Nat→Option Nat
 | 0=>none
 | k+1=>if bStep ps k (bTo ps k)=true then some k else bTo ps k
def onat:Option Nat→Int
 | none=>-1
 | some j=>j
theorem bTo_lt (ps:List VtE):∀ k j,bTo ps k=some j→j < k
 | 0,j,h=>by simp [bTo] at h
 | k+1,j,h=>by
  unfold bTo at h
  split at h
  ·simp at h;omega
  ·have:=bTo_lt ps k j h;omega
theorem bTo_kind {ps:List VtE} {k:Nat} (hk:k < ps.length) (h:(ps[k].2.kind == 6)=false):bTo ps (k+1)=bTo ps k:=by
 have:bStep ps k (bTo ps k)=false:=by simp [bStep,hk];intro he;simp [he] at h
 simp [bTo,this]
theorem bTo_none {ps:List VtE} {k:Nat} (hk:k < ps.length) (h:(ps[k].2.kind == 6)=true) (hb:bTo ps k=none):bTo ps (k+1)=some k:=by
 have:bStep ps k (bTo ps k)=true:=by rw [hb];simp [bStep,hk];simpa using h
 simp [bTo,this]
theorem bTo_some {ps:List VtE} {k j:Nat} (hk:k < ps.length) (h:(ps[k].2.kind == 6)=true) (hb:bTo ps k=some j) (hj:j < ps.length):bTo ps (k+1)=if btr ps[k].2 ps[j].2=true then some k else some j:=by
 have:bStep ps k (bTo ps k)=btr ps[k].2 ps[j].2:=by
  have h6:ps[k].2.kind=6:=by simpa using h
  rw [hb];simp [bStep,hk,hj,h6]
 show (if _ then _ else _)=_
 rw [this,hb]
def VsOk (ps:List VtE):Prop:=∀ p∈ps,logOk p.2.log=true
instance (ps:List VtE):Decidable (VsOk ps):=inferInstanceAs (Decidable (∀ p∈ps,_))
def bestV (ps:List VtE):Int:=if ps.length≤20∧VsOk ps then onat (bTo ps ps.length) else -1
set_option maxHeartbeats 8000000 in
theorem c_l7Best (A:Option Addr) (c:Nat) (ps:List VtE) (w:World) (hr:VsR w A c ps) (hs:LgS ps) (hn:ps.length≤20) (hok:VsOk ps) :
  Calls Tryz.prog 133 #[.slice A ps.length c] w fun e w'=>e = .returned (.int .i64 (onat (bTo ps ps.length)))∧Ext w w':=by
 have HS:=Hd hs
 have HOK:=Hd hok
 clear hs hok
 go_enter Tryz.func133,Tryz.ntmps133
 go_wp2
 go_loopw [3,4] (fun b i wr=>∃ k:Nat,k≤ps.length∧i = .int .i64 k∧b = .int .i64 (onat (bTo ps k))∧Ext w wr) (fun _ i _=>ps.length - (intOf i).toNat)
 case atStart=>exact ⟨0,Nat.zero_le _,rfl,rfl,ext_refl _⟩
 case round =>
  obtain ⟨k,hk,rfl,rfl,X⟩:=hrel
  by_cases hlt:k < ps.length
  ·obtain ⟨ab,ao,hA,hab,a0,a1,a2,a3,a4,a5,a6,a7,a8,a9⟩:=(hr.1.keep X).atVtE hlt
   have hab1:¬ ab=wr.heap.size:=by omega
   have hab2:ab < wr.heap.size+1:=by omega
   subst hA
   cases q6:(ps[k].2.kind == 6)
   ·have q6':(ps[k].2.kind != 6)=true:=by simp [bne,q6]
    have HB:=Hd (bTo_kind hlt q6)
    clear q6
    go_wp2
    go_roundw
    case rel=>exact ⟨k+1,by omega,by go_num,by rw [HB.out],Ext.trans X (ext_alloc _ _)⟩
    case measure=>simp [intOf] <;> omega
   ·have q6':(ps[k].2.kind != 6)=false:=by simp [bne,q6]
    cases hb:bTo ps k with
    | none =>
     have HB:=Hd (bTo_none hlt q6 hb)
     have hlo:decide ((-1:Int) < 0)=true:=by decide
     clear q6 hb
     simp only [onat]
     go_wp2
     (refine wp_region_mix' (fun _ _ _ _ _ hq=>hq) 34 (by kernel_rfl) (by kernel_rfl) (fun hg=>?_);simp only [headOps,Tc,Tz,List.filter_cons,List.filter_nil,isAlloc,Bool.not_false,Bf,if_true,if_false,List.append_nil,Dc,Dz])
     (repeat (first | (refine wpMix_plain rfl rfl ?_;go_big_quiet_step (fail);refine wpQuiet_nil ?_) | (refine wpMix_skip rfl rfl ?_;simp only [Act.put,Sa,Sz,Ss])))
     (refine wpMix_nil ?_;intro w2 hw2)
     go_wp2
     go_roundw
     case rel=>exact ⟨k+1,by omega,by go_num,by rw [HB.out],Ext.trans X (Ext.trans (ext_alloc _ _) hw2)⟩
     case measure=>simp [intOf] <;> omega
    | some j =>
     have hjk:=bTo_lt ps k j hb
     have hjl:j < ps.length:=by omega
     have HB:=Hd (bTo_some hlt q6 hb hjl)
     have hlo:decide ((j:Int) < 0)=false:=by simp
     obtain ⟨_,_,e,_,b0,b1,b2,b3,b4,b5,b6,b7,b8,b9⟩:=(hr.1.keep X).atVtE hjl
     obtain ⟨rfl,rfl⟩:ab=_∧ao=_:=by simpa using e
     have hcv:=fun W (h:Ext wr W)=>c_sLogEnd ps[k].1 ps[k].2.log (HS.out _ (List.getElem_mem hlt)).1 (HS.out _ (List.getElem_mem hlt)).2.1 (HS.out _ (List.getElem_mem hlt)).2.2 W ((hr.2 _ (List.getElem_mem hlt)).keep (Ext.trans X h)) (HOK.out _ (List.getElem_mem hlt))
     have hcu:=fun W (h:Ext wr W)=>c_sLogEnd ps[j].1 ps[j].2.log (HS.out _ (List.getElem_mem hjl)).1 (HS.out _ (List.getElem_mem hjl)).2.1 (HS.out _ (List.getElem_mem hjl)).2.2 W ((hr.2 _ (List.getElem_mem hjl)).keep (Ext.trans X h)) (HOK.out _ (List.getElem_mem hjl))
     have HV:=Hd hcv
     have HU:=Hd hcu
     clear q6 hb e hcv hcu
     simp only [onat]
     cases g1:decide (ps[j].2.normal < ps[k].2.normal)
     ·cases g2:(ps[k].2.normal == ps[j].2.normal)
      ·have HW:=Hd (show bTo ps (k+1)=some j by rw [HB.out,btr,g1,g2];rfl)
       go_wp2
       (refine wp_region_mix' (fun _ _ _ _ _ hq=>hq) 34 (by kernel_rfl) (by kernel_rfl) (fun hg=>?_);simp only [headOps,Tc,Tz,List.filter_cons,List.filter_nil,isAlloc,Bool.not_false,Bf,if_true,if_false,List.append_nil,Dc,Dz])
       (repeat (first | (refine wpMix_plain rfl rfl ?_;go_big_quiet_step (fail);refine wpQuiet_nil ?_) | (refine wpMix_skip rfl rfl ?_;simp only [Act.put,Sa,Sz,Ss])))
       (refine wpMix_nil ?_;intro w2 hw2)
       go_wp2
       go_roundw
       case rel=>exact ⟨k+1,by omega,by go_num,by rw [HW.out],Ext.trans X (Ext.trans (ext_alloc _ _) hw2)⟩
       case measure=>simp [intOf] <;> omega
      ·cases g3:decide (ps[j].2.log.fin < ps[k].2.log.fin)
       ·have HW:=Hd (show bTo ps (k+1)=some j by rw [HB.out,btr,g1,g2,g3];rfl)
        go_wp2
        (refine wp_region_mix' (fun _ _ _ _ _ hq=>hq) 34 (by kernel_rfl) (by kernel_rfl) (fun hg=>?_);simp only [headOps,Tc,Tz,List.filter_cons,List.filter_nil,isAlloc,Bool.not_false,Bf,if_true,if_false,List.append_nil,Dc,Dz])
        (repeat (first | (refine wpMix_plain rfl rfl ?_;go_big_quiet_step (fail);refine wpQuiet_nil ?_) | (refine wpMix_skip rfl rfl ?_;simp only [Act.put,Sa,Sz,Ss]) | (refine wpMix_det rfl rfl rfl (enters Tryz.func9 (by kernel_rfl) rfl) (fun W hW=>HV.out W (Ext.trans (ext_alloc _ _) hW)) rfl ?_;simp only [Act.put,Sa,Sz,Ss]) | (refine wpMix_det rfl rfl rfl (enters Tryz.func9 (by kernel_rfl) rfl) (fun W hW=>HU.out W (Ext.trans (ext_alloc _ _) hW)) rfl ?_;simp only [Act.put,Sa,Sz,Ss])))
        (refine wpMix_nil ?_;intro w2 hw2)
        go_wp2
        go_roundw
        case rel=>exact ⟨k+1,by omega,by go_num,by rw [HW.out],Ext.trans X (Ext.trans (ext_alloc _ _) hw2)⟩
        case measure=>simp [intOf] <;> omega
       ·have HW:=Hd (show bTo ps (k+1)=some k by rw [HB.out,btr,g1,g2,g3];rfl)
        go_wp2
        (refine wp_region_mix' (fun _ _ _ _ _ hq=>hq) 34 (by kernel_rfl) (by kernel_rfl) (fun hg=>?_);simp only [headOps,Tc,Tz,List.filter_cons,List.filter_nil,isAlloc,Bool.not_false,Bf,if_true,if_false,List.append_nil,Dc,Dz])
        (repeat (first | (refine wpMix_plain rfl rfl ?_;go_big_quiet_step (fail);refine wpQuiet_nil ?_) | (refine wpMix_skip rfl rfl ?_;simp only [Act.put,Sa,Sz,Ss]) | (refine wpMix_det rfl rfl rfl (enters Tryz.func9 (by kernel_rfl) rfl) (fun W hW=>HV.out W (Ext.trans (ext_alloc _ _) hW)) rfl ?_;simp only [Act.put,Sa,Sz,Ss]) | (refine wpMix_det rfl rfl rfl (enters Tryz.func9 (by kernel_rfl) rfl) (fun W hW=>HU.out W (Ext.trans (ext_alloc _ _) hW)) rfl ?_;simp only [Act.put,Sa,Sz,Ss])))
        (refine wpMix_nil ?_;intro w2 hw2)
        go_wp2
        go_roundw
        case rel=>exact ⟨k+1,by omega,by go_num,by rw [HW.out],Ext.trans X (Ext.trans (ext_alloc _ _) hw2)⟩
        case measure=>simp [intOf] <;> omega
     ·have HW:=Hd (show bTo ps (k+1)=some k by rw [HB.out,btr,g1];rfl)
      go_wp2
      (refine wp_region_mix' (fun _ _ _ _ _ hq=>hq) 34 (by kernel_rfl) (by kernel_rfl) (fun hg=>?_);simp only [headOps,Tc,Tz,List.filter_cons,List.filter_nil,isAlloc,Bool.not_false,Bf,if_true,if_false,List.append_nil,Dc,Dz])
      (repeat (first | (refine wpMix_plain rfl rfl ?_;go_big_quiet_step (fail);refine wpQuiet_nil ?_) | (refine wpMix_skip rfl rfl ?_;simp only [Act.put,Sa,Sz,Ss])))
      (refine wpMix_nil ?_;intro w2 hw2)
      go_wp2
      go_roundw
      case rel=>exact ⟨k+1,by omega,by go_num,by rw [HW.out],Ext.trans X (Ext.trans (ext_alloc _ _) hw2)⟩
      case measure=>simp [intOf] <;> omega
  ·obtain rfl:k=ps.length:=by omega
   go_wp2
   go_ret
   exact ⟨rfl,X⟩
theorem bestV_long {ps:List VtE} (h:¬ ps.length≤20):bestV ps=-1:=by unfold bestV;rw [if_neg (fun hp=>h hp.1)]
theorem bestV_bad {ps:List VtE} {k:Nat} (hk:k < ps.length) (h:logOk ps[k].2.log=false):bestV ps=-1:=by
 unfold bestV
 rw [if_neg (fun hp=>by have:=hp.2 _ (List.getElem_mem hk);rw [h] at this;cases this)]
theorem bestV_ok {ps:List VtE} (h:ps.length≤20) (h2:VsOk ps):bestV ps=onat (bTo ps ps.length):=by unfold bestV;rw [if_pos ⟨h,h2⟩]
def OkTo (ps:List VtE) (k:Nat):Prop:=∀ j (h:j < ps.length),j < k→logOk ps[j].2.log=true
theorem OkTo.next {ps:List VtE} {k:Nat} (h:OkTo ps k) (hk:k < ps.length) (hs:logOk ps[k].2.log=true):OkTo ps (k+1):=fun j hj hjk=>by
 by_cases he:j=k
 ·subst he;exact hs
 ·exact h j hj (by omega)
theorem OkTo.all {ps:List VtE} (h:OkTo ps ps.length):VsOk ps:=fun p hp=>by
 obtain ⟨k,hk,rfl⟩:=List.mem_iff_getElem.1 hp
 exact h k hk hk
set_option maxHeartbeats 8000000 in
theorem c_iBestVote (A:Option Addr) (c:Nat) (ps:List VtE) (w:World) (hr:VsR w A c ps) (hs:LgS ps) (hn:ps.length≤1048576) :
  Calls Tryz.prog 129 #[.slice A ps.length c] w fun e w'=>e = .returned (.int .i64 (bestV ps))∧Ext w w':=by
 have HS:=Hd hs
 clear hs
 by_cases h20:ps.length≤20
 ·have g0:decide ((20:Int) < (ps.length:Int))=false:=by simp;omega
  go_enter Tryz.func129,Tryz.ntmps129
  go_wp2
  go_loopw [3,12] (fun b i wr=>∃ k:Nat,k≤ps.length∧i = .int .i64 k∧b = .int .i64 (onat (bTo ps k))∧OkTo ps k∧Ext w wr) (fun _ i _=>ps.length - (intOf i).toNat)
  case atStart=>exact ⟨0,Nat.zero_le _,rfl,rfl,fun j hj hjk=>absurd hjk (by omega),ext_refl _⟩
  case round =>
   obtain ⟨k,hk,rfl,rfl,ht,X⟩:=hrel
   have HT:=Hd ht
   clear ht
   by_cases hlt:k < ps.length
   ·obtain ⟨ab,ao,hA,hab,a0,a1,a2,a3,a4,a5,a6,a7,a8,a9⟩:=(hr.1.keep X).atVtE hlt
    subst hA
    have X1:=Ext.trans X (ext_alloc wr (Vt.obj ps[k].1 ps[k].2))
    have hcon:=c_iLogOk ps[k].1 ps[k].2.log (HS.out _ (List.getElem_mem hlt)).1 (HS.out _ (List.getElem_mem hlt)).2.1 (HS.out _ (List.getElem_mem hlt)).2.2 _ ((hr.2 _ (List.getElem_mem hlt)).keep X1)
    cases q:logOk ps[k].2.log
    ·rw [q] at hcon
     have HB:=Hd (bestV_bad hlt q)
     clear q
     go_wp2_with fail
     refine hcon.mono ?_
     rintro e w1 ⟨rfl,x1⟩
     clear hcon
     go_wp2
     go_ret
     exact ⟨ret_int HB.out.symm,Ext.trans X1 x1⟩
    ·rw [q] at hcon
     have HB:=Hd (HT.out.next hlt q)
     obtain ⟨lk0,lk1,lk2⟩:=logOk_b q
     clear q
     go_wp2_with fail
     refine hcon.mono ?_
     rintro e w1 ⟨rfl,x1⟩
     clear hcon
     have X2:=Ext.trans X1 x1
     have B1:=x1.box (hNew (w:=wr) (o:=Vt.obj ps[k].1 ps[k].2) rfl)
     have b1:=bx_cell B1
     have f1:=bx_frozen B1
     have z1:=bx_lt B1
     clear B1 a0 a1 a2 a3 a4 a5 a6 a7 a8 a9
     cases q6:(ps[k].2.kind == 6)
     ·have HK:=Hd (bTo_kind hlt q6)
      have HX2:=Hd X2
      go_wp2
      (refine wp_region_mix' (fun _ _ _ _ _ hq=>hq) 15 (by kernel_rfl) (by kernel_rfl) (fun hg=>?_);simp only [headOps,Tc,Tz,List.filter_cons,List.filter_nil,isAlloc,Bool.not_false,Bf,if_true,if_false,List.append_nil,Dc,Dz])
      (repeat (first | (refine wpMix_plain rfl rfl ?_;go_big_quiet_step (fail);refine wpQuiet_nil ?_) | (refine wpMix_skip rfl rfl ?_;simp only [Act.put,Sa,Sz,Ss])))
      (refine wpMix_nil ?_;intro w2 hw2)
      go_wp2
      go_roundw
      case rel=>exact ⟨k+1,by omega,by go_num,by first | (rw [HK.out];done) | (rw [HK.out];rfl),HB.out,Ext.trans X2 hw2⟩
      case measure=>simp [intOf] <;> omega
     ·cases hb:bTo ps k with
      | none =>
       have HK:=Hd (bTo_none hlt q6 hb)
       have hlo:decide ((-1:Int) < 0)=true:=by decide
       clear hb
       simp only [onat]
       go_wp2
       (refine wp_region_mix' (fun _ _ _ _ _ hq=>hq) 15 (by kernel_rfl) (by kernel_rfl) (fun hg=>?_);simp only [headOps,Tc,Tz,List.filter_cons,List.filter_nil,isAlloc,Bool.not_false,Bf,if_true,if_false,List.append_nil,Dc,Dz])
       (repeat (first | (refine wpMix_plain rfl rfl ?_;go_big_quiet_step (fail);refine wpQuiet_nil ?_) | (refine wpMix_skip rfl rfl ?_;simp only [Act.put,Sa,Sz,Ss])))
       (refine wpMix_nil ?_;intro w2 hw2)
       go_wp2
       go_roundw
       case rel=>exact ⟨k+1,by omega,by go_num,by first | (rw [HK.out];done) | (rw [HK.out];rfl),HB.out,Ext.trans X2 hw2⟩
       case measure=>simp [intOf] <;> omega
      | some j =>
       have hjk:=bTo_lt ps k j hb
       have hjl:j < ps.length:=by omega
       have HK:=Hd (bTo_some hlt q6 hb hjl)
       have hlo:decide ((j:Int) < 0)=false:=by simp
       obtain ⟨_,_,e,hab2,b0,b1',b2,b3,b4,b5,b6,b7,b8,b9⟩:=(hr.1.keep X2).atVtE hjl
       obtain ⟨rfl,rfl⟩:ab=_∧ao=_:=by simpa using e
       obtain ⟨lj0,lj1,lj2⟩:=logOk_b (HT.out j hjl hjk)
       have hcv:=fun W=>c_better ps[k].1 ps[j].1 ps[k].2 ps[j].2 W lk0 lk1 lk2 lj0 lj1 lj2
       have HV:=Hd hcv
       clear hb e hcv
       simp only [onat]
       cases g:btr ps[k].2 ps[j].2
       ·rw [g] at HV HK
        have HW:=Hd (show bTo ps (k+1)=some j by rw [HK.out];rfl)
        go_wp2
        (refine wp_region_mix' (fun _ _ _ _ _ hq=>hq) 15 (by kernel_rfl) (by kernel_rfl) (fun hg=>?_);simp only [headOps,Tc,Tz,List.filter_cons,List.filter_nil,isAlloc,Bool.not_false,Bf,if_true,if_false,List.append_nil,Dc,Dz])
        (repeat (first | (refine wpMix_plain rfl rfl ?_;go_big_quiet_step (fail);refine wpQuiet_nil ?_) | (refine wpMix_skip rfl rfl ?_;simp only [Act.put,Sa,Sz,Ss]) | (refine wpMix_det rfl rfl rfl (enters Tryz.func157 (by kernel_rfl) rfl) (fun W hW=>HV.out W) rfl ?_;simp only [Act.put,Sa,Sz,Ss])))
        (refine wpMix_nil ?_;intro w2 hw2)
        go_wp2
        go_roundw
        case rel=>exact ⟨k+1,by omega,by go_num,by first | (rw [HW.out];done) | (rw [HW.out];rfl),HB.out,Ext.trans X2 hw2⟩
        case measure=>simp [intOf] <;> omega
       ·rw [g] at HV HK
        have HW:=Hd (show bTo ps (k+1)=some k by rw [HK.out];rfl)
        go_wp2
        (refine wp_region_mix' (fun _ _ _ _ _ hq=>hq) 15 (by kernel_rfl) (by kernel_rfl) (fun hg=>?_);simp only [headOps,Tc,Tz,List.filter_cons,List.filter_nil,isAlloc,Bool.not_false,Bf,if_true,if_false,List.append_nil,Dc,Dz])
        (repeat (first | (refine wpMix_plain rfl rfl ?_;go_big_quiet_step (fail);refine wpQuiet_nil ?_) | (refine wpMix_skip rfl rfl ?_;simp only [Act.put,Sa,Sz,Ss]) | (refine wpMix_det rfl rfl rfl (enters Tryz.func157 (by kernel_rfl) rfl) (fun W hW=>HV.out W) rfl ?_;simp only [Act.put,Sa,Sz,Ss])))
        (refine wpMix_nil ?_;intro w2 hw2)
        go_wp2
        go_roundw
        case rel=>exact ⟨k+1,by omega,by go_num,by first | (rw [HW.out];done) | (rw [HW.out];rfl),HB.out,Ext.trans X2 hw2⟩
        case measure=>simp [intOf] <;> omega
   ·obtain rfl:k=ps.length:=by omega
    have HB:=Hd (bestV_ok h20 HT.out.all)
    go_wp2
    go_ret
    exact ⟨ret_int HB.out.symm,X⟩
 ·have g0:decide ((20:Int) < (ps.length:Int))=true:=by simp;omega
  have HB:=Hd (bestV_long h20)
  clear h20
  go_enter Tryz.func129,Tryz.ntmps129
  go_wp2
  go_ret
  exact ⟨ret_int HB.out.symm,ext_refl _⟩
def Rp.votesTo (r:Rp) (l:List Vt):Rp:=⟨r.me,r.of,r.mode,r.view,r.normal,r.commit,r.log,l,r.cell,r.nonce⟩
def Rp.voted (r:Rp) (v:Vt):Rp:=if r.votes.length < 20 then r.votesTo (r.votes++[v]) else r
def cntV (kind:Int) (l:List Vt):Nat:=l.countP (fun v=>v.kind == kind)
def isV (kind who:Int) (v:Vt):Bool:=v.kind == kind && v.frm == who
def findV (kind who:Int) (l:List Vt):Int:=idxOf (isV kind who) l
def halfI (r:Rp):Int:=(r.of - 1) / 2
def doV (r:Rp):Vt:=⟨6,r.me,r.view,r.normal,0,r.commit,r.log⟩
def doM (r:Rp):Mg:=⟨6,r.me,r.view,0,r.commit,r.normal,0,0,0,0,0,0,0,r.log⟩
def startM (r:Rp):Mg:=⟨7,r.me,r.view,0,r.commit,0,0,0,0,0,0,0,0,r.log⟩
def turnM (me view:Int):Mg:=⟨5,me,view,0,0,0,0,0,0,0,0,0,0,Lg.none⟩
def bestL (l:List Vt):Int:=bestV (l.map fun v=>(LAd.none,v))
def bestLog (l:List Vt):Lg:=match l[(bestL l).toNat]? with
 | some v=>v.log
 | none=>Lg.none
def maxDo (l:List Vt):Nat→Int
 | 0=>0
 | k+1=>match l[k]? with
  | some v=>if (v.kind == 6)=true then max (maxDo l k) v.commit else maxDo l k
  | none=>maxDo l k
def newC (r:Rp):Int:=if (r.of == 1)=true then (bestLog r.votes).fin else maxDo r.votes r.votes.length
def startX (r:Rp):Rp:=r.lead r.view (bestLog r.votes) (newC r)
def look1B (r:Rp):Bool:=decide (halfI r≤cntV 5 r.votes) && decide (findV 6 r.me r.votes < 0)
def look1 (r:Rp):Rp:=if look1B r=true then r.voted (doV r) else r
def look1O (r:Rp):List Ot:=if (look1B r && !(leadsB r))=true then [⟨r.view % r.of,doM r⟩] else []
def look2B (r:Rp):Bool:=leadsB r && decide (halfI r < cntV 6 r.votes)
def lookR (r:Rp):Rp:=if look2B (look1 r)=true then startX (look1 r) else look1 r
def lookO (r:Rp):List Ot:=look1O r++if look2B (look1 r)=true then allTo r.me (startM (startX (look1 r))) r.of.toNat else []
def Rp.turned (r:Rp) (view:Int):Rp:=⟨r.me,r.of,2,view,r.normal,r.commit,r.log,[],view,r.nonce⟩
def beginR (r:Rp) (view:Int):Rp:=lookR (r.turned view)
def beginO (r:Rp) (view:Int):List Ot:=allTo r.me (turnM r.me view) r.of.toNat++lookO (r.turned view)
def turnB (r:Rp):Bool:=liveB r && decide (r.view < 1000000000)
def turnR (r:Rp):Rp:=if rpOk r=true then (if turnB r=true then beginR r (r.view+1) else r) else Rp.zero
def turnO (r:Rp):List Ot:=if (rpOk r && turnB r)=true then beginO r (r.view+1) else []
theorem bStep_map (ps:List VtE) (qs:List VtE) (h:ps.map Prod.snd=qs.map Prod.snd) (k:Nat) (b:Option Nat):bStep ps k b=bStep qs k b:=by
 have e:∀ j,(ps[j]?).map Prod.snd=(qs[j]?).map Prod.snd:=fun j=>by rw [←List.getElem?_map,←List.getElem?_map,h]
 unfold bStep
 have ek:=e k
 cases h1:ps[k]? <;> cases h2:qs[k]? <;> rw [h1,h2] at ek
 ·simp at ek
 ·simp at ek
 simp only [Option.map_some,Option.some.injEq] at ek
 simp only [ek]
 congr 1
 cases b with
 | none=>rfl
 | some j =>
  have ej:=e j
  cases h3:ps[j]? <;> cases h4:qs[j]? <;> rw [h3,h4] at ej
  all_goals first | (simp only [h3,h4];done) | (exfalso;simp at ej;done) | (simp only [Option.map_some,Option.some.injEq] at ej;simp only [h3,h4,ej])
theorem bTo_map (ps qs:List VtE) (h:ps.map Prod.snd=qs.map Prod.snd):∀ k,bTo ps k=bTo qs k
 | 0=>rfl
 | k+1=>by
  show (if _ then _ else _)=(if _ then _ else _)
  rw [bTo_map ps qs h k,bStep_map ps qs h]
theorem VsOk.map {ps qs:List VtE} (h:ps.map Prod.snd=qs.map Prod.snd) (k:VsOk ps):VsOk qs:=fun q hq=>by
 have h1:q.2∈ps.map Prod.snd:=by rw [h];exact List.mem_map_of_mem hq
 obtain ⟨p,hp,e⟩:=List.mem_map.1 h1
 rw [←e]
 exact k p hp
theorem bestV_map {ps qs:List VtE} (h:ps.map Prod.snd=qs.map Prod.snd):bestV ps=bestV qs:=by
 have hl:ps.length=qs.length:=by have:=congrArg List.length h;simpa using this
 have hv:VsOk ps↔VsOk qs:=⟨VsOk.map h,VsOk.map h.symm⟩
 unfold bestV
 simp only [hl,hv,bTo_map ps qs h]
theorem bestV_L {ps:List VtE} {l:List Vt} (h:ps.map Prod.snd=l):bestV ps=bestL l:=bestV_map (by rw [h,List.map_map];simp [Function.comp_def])
theorem isDo_best {ps:List VtE}:∀ k,k≤ps.length→(∃ j,∃ h:j < ps.length,j < k∧(ps[j].2.kind == 6)=true)→∃ b,bTo ps k=some b
 | 0,_,⟨j,_,hj,_⟩=>absurd hj (by omega)
 | k+1,hk,⟨j,hj,hjk,h6⟩=>by
  show ∃ b,(if bStep ps k (bTo ps k)=true then some k else bTo ps k)=some b
  by_cases hb:bStep ps k (bTo ps k)=true
  ·exact ⟨k,by rw [if_pos hb]⟩
  ·rw [if_neg hb]
   by_cases e:j=k
   ·subst e
    cases h0:bTo ps j with
    | some b=>exact ⟨b,rfl⟩
    | none =>
     exfalso;apply hb
     rw [h0];simp [bStep,hj];simpa using h6
   ·exact isDo_best k (by omega) ⟨j,hj,by omega,h6⟩
theorem best_there {l:List Vt} (h20:l.length≤20) (hok:∀ v∈l,logOk v.log=true) (hc:0 < cntV 6 l):∃ k:Nat,bestL l=k∧k < l.length:=by
 obtain ⟨v,hv,hk⟩:=List.countP_pos_iff.1 hc
 obtain ⟨j,hj,rfl⟩:=List.mem_iff_getElem.1 hv
 have hlen:(l.map fun v=>((LAd.none,v):VtE)).length=l.length:=by simp
 obtain ⟨b,hb⟩:=isDo_best (ps:=l.map fun v=>(LAd.none,v)) l.length (by simp) ⟨j,by simpa using hj,hj,by simpa using hk⟩
 refine ⟨b, ?_, ?_⟩
 ·unfold bestL
  rw [bestV_ok (by simpa using h20) (fun p hp=>by obtain ⟨v,hv,rfl⟩:=List.mem_map.1 hp;exact hok v hv),hlen,hb]
  rfl
 ·have:=bTo_lt _ _ _ hb;omega
theorem maxDo_next {l:List Vt} {k:Nat} (h:k < l.length):maxDo l (k+1)=if (l[k].kind == 6)=true then max (maxDo l k) l[k].commit else maxDo l k:=by
 show (match l[k]? with | some v=>if (v.kind == 6)=true then max (maxDo l k) v.commit else maxDo l k | none=>maxDo l k)=_
 rw [List.getElem?_eq_getElem h]
theorem maxDo_b {l:List Vt} (hc:∀ v∈l,v.commit≤1000000000):∀ k,0≤maxDo l k∧maxDo l k≤1000000000
 | 0=>⟨Int.le_refl _,by show (0:Int)≤1000000000;decide⟩
 | k+1=>by
  have ih:=maxDo_b hc k
  by_cases h:k < l.length
  ·rw [maxDo_next h]
   have:=hc _ (List.getElem_mem h)
   split <;> omega
  ·have e:maxDo l (k+1)=maxDo l k:=by
    show (match l[k]? with | some v=>if (v.kind == 6)=true then max (maxDo l k) v.commit else maxDo l k | none=>maxDo l k)=_
    rw [List.getElem?_eq_none (by omega)]
   rw [e]
   exact ih
theorem logOk_small {l:Lg} (h:logOk l=true):l.small:=by
 have h1:=of_decide_eq_true h
 have h2:=of_decide_eq_true (show decide (ImageOk l.cells l.seats)=true from h1.2.1)
 have h3:=h1.2.2.1
 have h4:=h2.1
 have h5:=h2.2.1
 exact ⟨by omega,by omega,by omega⟩
structure RpT (r:Rp):Prop where
 of:r.of=1∨r.of=3∨r.of=5
 me0:0≤r.me
 me1:r.me < r.of
 view0:0≤r.view
 view1:r.view≤1000000000
 cell:r.cell=r.view
 lok:logOk r.log=true
 c0:r.log.base≤r.commit
 c1:r.commit≤r.log.fin
 votes:r.votes.length≤20
 vok:∀ v∈r.votes,logOk v.log=true∧v.log.base≤v.commit∧v.commit≤v.log.fin
theorem vtOk_log {o:Int} {v:Vt} (h:vtOk o v=true):logOk v.log=true∧v.log.base≤v.commit∧v.commit≤v.log.fin:=by
 unfold vtOk at h
 simp only [Bool.and_eq_true] at h
 exact hasNum_ok h.2
theorem rpOk_T {r:Rp} (h:rpOk r=true) (hl:liveB r=true):RpT r:=by
 have g:=rpOk_good h
 unfold rpOk at h
 simp only [Bool.and_eq_true] at h
 obtain ⟨⟨_,h9⟩,h10⟩:=h
 refine ⟨g.of,g.me0,g.me1,g.view0,g.view1, ?_,g.lok,g.c0,g.c1,g.votes,fun v hv=>vtOk_log (List.all_eq_true.1 h9 v hv)⟩
 unfold rpTail at h10
 unfold liveB at hl
 simp only [Bool.or_eq_true,Bool.and_eq_true,beq_iff_eq,decide_eq_true_eq] at h10 hl
 omega
theorem RpT.votesTo {r:Rp} (h:RpT r) {l:List Vt} (h1:l.length≤20) (h2:∀ v∈l,logOk v.log=true∧v.log.base≤v.commit∧v.commit≤v.log.fin):RpT (r.votesTo l):=⟨h.of,h.me0,h.me1,h.view0,h.view1,h.cell,h.lok,h.c0,h.c1,h1,h2⟩
theorem RpT.voted {r:Rp} (h:RpT r) {v:Vt} (hv:logOk v.log=true∧v.log.base≤v.commit∧v.commit≤v.log.fin):RpT (r.voted v):=by
 unfold Rp.voted
 split
 ·refine h.votesTo (by simp;omega) (fun u hu=>?_)
  rcases List.mem_append.1 hu with hu | hu
  ·exact h.vok u hu
  ·rw [Mi] at hu;subst hu;exact hv
 ·exact h
theorem RpT.look1 {r:Rp} (h:RpT r):RpT (look1 r):=by
 unfold Go.Proofs.YtikelfmmldafpaaGreat.look1
 split
 ·exact h.voted ⟨h.lok,h.c0,h.c1⟩
 ·exact h
theorem RpT.turned {r:Rp} (h:RpT r) {v:Int} (h0:0≤v) (h1:v≤1000000000):RpT (r.turned v):=⟨h.of,h.me0,h.me1,h0,h1,rfl,h.lok,h.c0,h.c1,by simp [Rp.turned],by simp [Rp.turned]⟩
theorem voted_id (r:Rp) (v:Vt):(r.voted v).me=r.me∧(r.voted v).of=r.of∧(r.voted v).mode=r.mode∧(r.voted v).view=r.view∧(r.voted v).normal=r.normal∧(r.voted v).commit=r.commit∧(r.voted v).log=r.log:=by
 unfold Rp.voted Rp.votesTo
 split <;> exact ⟨rfl,rfl,rfl,rfl,rfl,rfl,rfl⟩
theorem look1_id (r:Rp):(look1 r).me=r.me∧(look1 r).of=r.of∧(look1 r).mode=r.mode∧(look1 r).view=r.view∧(look1 r).normal=r.normal∧(look1 r).commit=r.commit∧(look1 r).log=r.log:=by
 unfold look1
 split
 ·exact voted_id r _
 ·exact ⟨rfl,rfl,rfl,rfl,rfl,rfl,rfl⟩
theorem leads_voted (r:Rp) (v:Vt):leadsB (r.voted v)=leadsB r:=by
 obtain ⟨h1,h2,_,h4,_⟩:=voted_id r v
 unfold leadsB
 rw [h1,h2,h4]
theorem doM_voted (r:Rp) (v:Vt):doM (r.voted v)=doM r:=by
 obtain ⟨h1,h2,_,h4,h5,h6,h7⟩:=voted_id r v
 unfold doM
 rw [h1,h4,h5,h6,h7]
theorem lookO_len {r:Rp} (h:RpT r):(lookO r).length≤6:=by
 unfold lookO look1O
 have h1:=allTo_len r.me (startM (startX (look1 r))) r.of.toNat
 have h2:=h.of
 rw [List.length_append]
 have h3:r.of.toNat≤5:=by omega
 split <;> split <;> simp only [List.length_cons,List.length_nil] <;> omega
end Go.Proofs.YtikelfmmldafpaaGreat
