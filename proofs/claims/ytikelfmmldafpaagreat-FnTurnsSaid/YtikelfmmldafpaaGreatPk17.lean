/- The reference's l7Best and l6Leads for any votes and replicas, right or not. -/
import Derived.Test.YtikelfmmldafpaaGreatPk5
import Derived.Test.YtikelfmmldafpaaGreatPk14
import Derived.Test.YtikelfmmldafpaaGreatPk16
namespace Go.Proofs.YtikelfmmldafpaaGreat
open Go.ChangeShapes Go.WideShapes Go.ChangeAt Go.RowKit Go.Sort
set_option linter.unusedVariables false
set_option linter.unusedSimpArgs false
def primB (view n:Int):Int:=if (inB view 0 1000000000 && ofB n)=true then view % n else -1
theorem e_sPrimaryOf (view n:Int) (w:World):Calls Tryz.prog 93 #[.int .i64 view, .int .i64 n] w fun e w'=>e = .returned (.int .i64 (primB view n))∧Ext w w':=by
 cases g1:inB view 0 1000000000
 ·have HC:=Hd (fun W=>g1▸c_l1Whole view W)
  have HN:=Hd (show -1=primB view n by unfold primB;rw [g1];rfl)
  clear g1
  go_enter Tryz.func93,Tryz.ntmps93
  go_wp2_with fail
  refine (HC.out _).mono ?_
  rintro e w1 ⟨rfl,x1⟩
  go_wp2
  go_ret
  exact ⟨ret_int HN.out,x1⟩
 ·cases g2:ofB n
  ·have HC:=Hd (fun W=>g1▸c_l1Whole view W)
   have HD:=Hd (fun W=>g2▸c_l6Of n W)
   have HN:=Hd (show -1=primB view n by unfold primB;rw [g1,g2];rfl)
   clear g1 g2
   go_enter Tryz.func93,Tryz.ntmps93
   go_wp2_with fail
   refine (HC.out _).mono ?_
   rintro e w1 ⟨rfl,x1⟩
   go_wp2_with fail
   refine (HD.out _).mono ?_
   rintro e w2 ⟨rfl,x2⟩
   go_wp2
   go_ret
   exact ⟨ret_int HN.out,Ext.trans x1 x2⟩
  ·refine (c_sPrimaryOf view n w g1 g2).mono ?_
   rintro e w1 ⟨rfl,x1⟩
   exact ⟨ret_int (by unfold primB;rw [g1,g2];rfl),x1⟩
def leads2 (r:Rp):Bool:=primB r.view r.of == r.me
theorem e_l6Leads (a:LAd) (A:Option Addr) (n c:Nat) (r:Rp) (w:World):Calls Tryz.prog 92 #[Rp.val a A n c r] w fun e w'=>e = .returned (.bool (leads2 r))∧Ext w w':=by
 have X0:=ext_alloc w (Rp.obj a A n c r)
 have HB:=Hd (hNew (w:=w) (o:=Rp.obj a A n c r) rfl)
 go_enter Tryz.func92,Tryz.ntmps92
 go_wp2
 (refine Rm.wp_region_mix' (R:=relE (w.alloc (Rp.obj a A n c r)).heap.size) (fun _ _ _=>True) (fun _ _ _ _ _ hq=>hq) 8 (by first | exact Nat.le_refl _ | omega | (simp;omega)) (by kernel_rfl) (by kernel_rfl) ?_;simp only [Tc,Tz,Dc,Dz])
 ((iterate 1 (refine Rm.wpMix_plain rfl rfl ?_;go_big_quiet_step (fail);refine wpQuiet_nil ?_));(refine Rm.wpMix_load1 (fun W9' h9=>show W9'.cell? _=some (.int .i64 r.view) from bx_cell (Ext.box h9 HB.out) 3) rfl rfl rfl Tryz.underlying3 rfl ?_;simp only [Act.put,Sa,Sz,Ss]);(iterate 1 (refine Rm.wpMix_plain rfl rfl ?_;go_big_quiet_step (fail);refine wpQuiet_nil ?_));(refine Rm.wpMix_load1 (fun W9' h9=>show W9'.cell? _=some (.int .i64 r.of) from bx_cell (Ext.box h9 HB.out) 1) rfl rfl rfl Tryz.underlying3 rfl ?_;simp only [Act.put,Sa,Sz,Ss]))
 (refine Rm.wpMix_det rfl rfl rfl (enters Tryz.func93 (by kernel_rfl) rfl) (fun W9' h9=>e_sPrimaryOf r.view r.of W9') rfl ?_;simp only [Act.put,Sa,Sz,Ss])
 ((iterate 1 (refine Rm.wpMix_plain rfl rfl ?_;go_big_quiet_step (fail);refine wpQuiet_nil ?_));(refine Rm.wpMix_load1 (fun W9' h9=>show W9'.cell? _=some (.int .i64 r.me) from bx_cell (Ext.box h9 HB.out) 0) rfl rfl rfl Tryz.underlying3 rfl ?_;simp only [Act.put,Sa,Sz,Ss]);(iterate 1 (refine Rm.wpMix_plain rfl rfl ?_;go_big_quiet_step (fail);refine wpQuiet_nil ?_)))
 refine Rm.wpMix_nil ?_
 rintro W1 hW1
 have x1:Ext (w.alloc (Rp.obj a A n c r)) W1:=hW1
 go_wp2
 go_ret
 exact ⟨ret_bool (by unfold leads2;exact Bool.eq_iff_iff.2 (by simp only [beq_iff_eq])),Ext.trans X0 x1⟩
def Lg.lgE (l:Lg):Int:=if logOk l=true then l.fin else -1
theorem c_lgEnd (a:LAd) (l:Lg) (s1:l.cells.length≤1048576) (s2:l.seats.length≤1048576) (s3:l.ents.length≤1048576) (w:World) (hr:LgR w a l) :
  Calls Tryz.prog 9 #[Lg.val a l] w fun e w'=>e = .returned (.int .i64 l.lgE)∧Ext w w':=by
 cases hok:logOk l
 ·have X0:=ext_alloc w (Lg.obj a l)
  have hcon:=c_sLogOk a l s1 s2 s3 _ (hr.keep X0)
  rw [hok] at hcon
  have HN:=Hd (show -1=l.lgE by unfold Lg.lgE;rw [hok];rfl)
  go_enter Tryz.func9,Tryz.ntmps9
  go_wp2_with fail
  refine hcon.mono ?_
  rintro e w1 ⟨rfl,x1⟩
  clear hcon
  go_wp2
  go_ret
  exact ⟨ret_int HN.out,Ext.trans X0 x1⟩
 ·refine (c_sLogEnd a l s1 s2 s3 w hr hok).mono ?_
  rintro e w1 ⟨rfl,x1⟩
  exact ⟨ret_int (by unfold Lg.lgE;rw [hok];rfl),x1⟩
def btr2 (u v:Vt):Bool:=decide (v.normal < u.normal) || (u.normal == v.normal && decide (v.log.lgE < u.log.lgE))
def bSt2 (ps:List VtE) (k:Nat) (b:Option Nat):Bool:=match ps[k]? with
 | none=>false
 | some v=>v.2.kind == 6 && match b with
  | none=>true
  | some j=>match ps[j]? with
   | some u=>btr2 v.2 u.2
   | none=>true
def bT2 (ps:List VtE):Nat→Option Nat
 | 0=>none
 | k+1=>if bSt2 ps k (bT2 ps k)=true then some k else bT2 ps k
def onat2:Option Nat→Int
 | none=>-1
 | some j=>j
theorem bT2_lt (ps:List VtE):∀ k j,bT2 ps k=some j→j < k
 | 0,j,h=>by simp [bT2] at h
 | k+1,j,h=>by
  unfold bT2 at h
  split at h
  ·simp at h;omega
  ·have:=bT2_lt ps k j h;omega
theorem bT2_kind {ps:List VtE} {k:Nat} (hk:k < ps.length) (h:(ps[k].2.kind == 6)=false):bT2 ps (k+1)=bT2 ps k:=by
 have:bSt2 ps k (bT2 ps k)=false:=by simp [bSt2,hk];intro he;simp [he] at h
 simp [bT2,this]
theorem bT2_none {ps:List VtE} {k:Nat} (hk:k < ps.length) (h:(ps[k].2.kind == 6)=true) (hb:bT2 ps k=none):bT2 ps (k+1)=some k:=by
 have:bSt2 ps k (bT2 ps k)=true:=by rw [hb];simp [bSt2,hk];simpa using h
 simp [bT2,this]
theorem bT2_some {ps:List VtE} {k j:Nat} (hk:k < ps.length) (h:(ps[k].2.kind == 6)=true) (hb:bT2 ps k=some j) (hj:j < ps.length):bT2 ps (k+1)=if btr2 ps[k].2 ps[j].2=true then some k else some j:=by
 have:bSt2 ps k (bT2 ps k)=btr2 ps[k].2 ps[j].2:=by
  have h6:ps[k].2.kind=6:=by simpa using h
  rw [hb];simp [bSt2,hk,hj,h6]
 show (if _ then _ else _)=_
 rw [this,hb]
set_option maxHeartbeats 8000000 in
theorem e_l7Best (A:Option Addr) (c:Nat) (ps:List VtE) (w:World) (hr:VsR w A c ps) (hs:LgS ps) (hn:ps.length≤1048576) :
  Calls Tryz.prog 133 #[.slice A ps.length c] w fun e w'=>e = .returned (.int .i64 (onat2 (bT2 ps ps.length)))∧Ext w w':=by
 have HS:=Hd hs
 clear hs
 go_enter Tryz.func133,Tryz.ntmps133
 go_wp2
 go_loopw [3,4] (fun b i wr=>∃ k:Nat,k≤ps.length∧i = .int .i64 k∧b = .int .i64 (onat2 (bT2 ps k))∧Ext w wr) (fun _ i _=>ps.length - (intOf i).toNat)
 case atStart=>exact ⟨0,Nat.zero_le _,rfl,rfl,ext_refl _⟩
 case round =>
  obtain ⟨k,hk,rfl,rfl,X⟩:=hrel
  by_cases hlt:k < ps.length
  ·obtain ⟨ab,ao,hA,hab,a0,a1,a2,a3,a4,a5,a6,a7,a8,a9⟩:=(hr.1.keep X).atVtE hlt
   have hab1:¬ ab=wr.heap.size:=by omega
   have hab2:ab < wr.heap.size+1:=by omega
   subst hA
   cases q6:(ps[k].2.kind == 6)
   ·have q6':(ps[k].2.kind != 6)=true:=by simp [bne,q6]
    have HB:=Hd (bT2_kind hlt q6)
    clear q6
    go_wp2
    go_roundw
    case rel=>exact ⟨k+1,by omega,by go_num,by rw [HB.out],Ext.trans X (ext_alloc _ _)⟩
    case measure=>simp [intOf] <;> omega
   ·have q6':(ps[k].2.kind != 6)=false:=by simp [bne,q6]
    cases hb:bT2 ps k with
    | none =>
     have HB:=Hd (bT2_none hlt q6 hb)
     have hlo:decide ((-1:Int) < 0)=true:=by decide
     clear q6 hb
     simp only [onat2]
     go_wp2
     (refine wp_region_mix' (fun _ _ _ _ _ hq=>hq) 34 (by kernel_rfl) (by kernel_rfl) (fun hg=>?_);simp only [headOps,Tc,Tz,List.filter_cons,List.filter_nil,isAlloc,Bool.not_false,Bf,if_true,if_false,List.append_nil,Dc,Dz])
     (repeat (first | (refine wpMix_plain rfl rfl ?_;go_big_quiet_step (fail);refine wpQuiet_nil ?_) | (refine wpMix_skip rfl rfl ?_;simp only [Act.put,Sa,Sz,Ss])))
     (refine wpMix_nil ?_;intro w2 hw2)
     go_wp2
     go_roundw
     case rel=>exact ⟨k+1,by omega,by go_num,by rw [HB.out],Ext.trans X (Ext.trans (ext_alloc _ _) hw2)⟩
     case measure=>simp [intOf] <;> omega
    | some j =>
     have hjk:=bT2_lt ps k j hb
     have hjl:j < ps.length:=by omega
     have HB:=Hd (bT2_some hlt q6 hb hjl)
     have hlo:decide ((j:Int) < 0)=false:=by simp
     obtain ⟨_,_,e,_,b0,b1,b2,b3,b4,b5,b6,b7,b8,b9⟩:=(hr.1.keep X).atVtE hjl
     obtain ⟨rfl,rfl⟩:ab=_∧ao=_:=by simpa using e
     have hcv:=fun W (h:Ext wr W)=>c_lgEnd ps[k].1 ps[k].2.log (HS.out _ (List.getElem_mem hlt)).1 (HS.out _ (List.getElem_mem hlt)).2.1 (HS.out _ (List.getElem_mem hlt)).2.2 W ((hr.2 _ (List.getElem_mem hlt)).keep (Ext.trans X h))
     have hcu:=fun W (h:Ext wr W)=>c_lgEnd ps[j].1 ps[j].2.log (HS.out _ (List.getElem_mem hjl)).1 (HS.out _ (List.getElem_mem hjl)).2.1 (HS.out _ (List.getElem_mem hjl)).2.2 W ((hr.2 _ (List.getElem_mem hjl)).keep (Ext.trans X h))
     have HV:=Hd hcv
     have HU:=Hd hcu
     clear q6 hb e hcv hcu
     simp only [onat2]
     cases g1:decide (ps[j].2.normal < ps[k].2.normal)
     ·cases g2:(ps[k].2.normal == ps[j].2.normal)
      ·have HW:=Hd (show bT2 ps (k+1)=some j by rw [HB.out,btr2,g1,g2];rfl)
       go_wp2
       (refine wp_region_mix' (fun _ _ _ _ _ hq=>hq) 34 (by kernel_rfl) (by kernel_rfl) (fun hg=>?_);simp only [headOps,Tc,Tz,List.filter_cons,List.filter_nil,isAlloc,Bool.not_false,Bf,if_true,if_false,List.append_nil,Dc,Dz])
       (repeat (first | (refine wpMix_plain rfl rfl ?_;go_big_quiet_step (fail);refine wpQuiet_nil ?_) | (refine wpMix_skip rfl rfl ?_;simp only [Act.put,Sa,Sz,Ss])))
       (refine wpMix_nil ?_;intro w2 hw2)
       go_wp2
       go_roundw
       case rel=>exact ⟨k+1,by omega,by go_num,by rw [HW.out],Ext.trans X (Ext.trans (ext_alloc _ _) hw2)⟩
       case measure=>simp [intOf] <;> omega
      ·cases g3:decide (ps[j].2.log.lgE < ps[k].2.log.lgE)
       ·have HW:=Hd (show bT2 ps (k+1)=some j by rw [HB.out,btr2,g1,g2,g3];rfl)
        go_wp2
        (refine wp_region_mix' (fun _ _ _ _ _ hq=>hq) 34 (by kernel_rfl) (by kernel_rfl) (fun hg=>?_);simp only [headOps,Tc,Tz,List.filter_cons,List.filter_nil,isAlloc,Bool.not_false,Bf,if_true,if_false,List.append_nil,Dc,Dz])
        (repeat (first | (refine wpMix_plain rfl rfl ?_;go_big_quiet_step (fail);refine wpQuiet_nil ?_) | (refine wpMix_skip rfl rfl ?_;simp only [Act.put,Sa,Sz,Ss]) | (refine wpMix_det rfl rfl rfl (enters Tryz.func9 (by kernel_rfl) rfl) (fun W hW=>HV.out W (Ext.trans (ext_alloc _ _) hW)) rfl ?_;simp only [Act.put,Sa,Sz,Ss]) | (refine wpMix_det rfl rfl rfl (enters Tryz.func9 (by kernel_rfl) rfl) (fun W hW=>HU.out W (Ext.trans (ext_alloc _ _) hW)) rfl ?_;simp only [Act.put,Sa,Sz,Ss])))
        (refine wpMix_nil ?_;intro w2 hw2)
        go_wp2
        go_roundw
        case rel=>exact ⟨k+1,by omega,by go_num,by rw [HW.out],Ext.trans X (Ext.trans (ext_alloc _ _) hw2)⟩
        case measure=>simp [intOf] <;> omega
       ·have HW:=Hd (show bT2 ps (k+1)=some k by rw [HB.out,btr2,g1,g2,g3];rfl)
        go_wp2
        (refine wp_region_mix' (fun _ _ _ _ _ hq=>hq) 34 (by kernel_rfl) (by kernel_rfl) (fun hg=>?_);simp only [headOps,Tc,Tz,List.filter_cons,List.filter_nil,isAlloc,Bool.not_false,Bf,if_true,if_false,List.append_nil,Dc,Dz])
        (repeat (first | (refine wpMix_plain rfl rfl ?_;go_big_quiet_step (fail);refine wpQuiet_nil ?_) | (refine wpMix_skip rfl rfl ?_;simp only [Act.put,Sa,Sz,Ss]) | (refine wpMix_det rfl rfl rfl (enters Tryz.func9 (by kernel_rfl) rfl) (fun W hW=>HV.out W (Ext.trans (ext_alloc _ _) hW)) rfl ?_;simp only [Act.put,Sa,Sz,Ss]) | (refine wpMix_det rfl rfl rfl (enters Tryz.func9 (by kernel_rfl) rfl) (fun W hW=>HU.out W (Ext.trans (ext_alloc _ _) hW)) rfl ?_;simp only [Act.put,Sa,Sz,Ss])))
        (refine wpMix_nil ?_;intro w2 hw2)
        go_wp2
        go_roundw
        case rel=>exact ⟨k+1,by omega,by go_num,by rw [HW.out],Ext.trans X (Ext.trans (ext_alloc _ _) hw2)⟩
        case measure=>simp [intOf] <;> omega
     ·have HW:=Hd (show bT2 ps (k+1)=some k by rw [HB.out,btr2,g1];rfl)
      go_wp2
      (refine wp_region_mix' (fun _ _ _ _ _ hq=>hq) 34 (by kernel_rfl) (by kernel_rfl) (fun hg=>?_);simp only [headOps,Tc,Tz,List.filter_cons,List.filter_nil,isAlloc,Bool.not_false,Bf,if_true,if_false,List.append_nil,Dc,Dz])
      (repeat (first | (refine wpMix_plain rfl rfl ?_;go_big_quiet_step (fail);refine wpQuiet_nil ?_) | (refine wpMix_skip rfl rfl ?_;simp only [Act.put,Sa,Sz,Ss])))
      (refine wpMix_nil ?_;intro w2 hw2)
      go_wp2
      go_roundw
      case rel=>exact ⟨k+1,by omega,by go_num,by rw [HW.out],Ext.trans X (Ext.trans (ext_alloc _ _) hw2)⟩
      case measure=>simp [intOf] <;> omega
  ·obtain rfl:k=ps.length:=by omega
   go_wp2
   go_ret
   exact ⟨rfl,X⟩
def cnt2 (kind:Int) (l:List Vt):Nat:=l.countP (fun v=>v.kind == kind)
theorem cnt2_next {kind:Int} {l:List Vt} {k:Nat} (h:k < l.length):cnt2 kind (l.take (k+1))=cnt2 kind (l.take k)+if (l[k].kind == kind)=true then 1 else 0:=by
 unfold cnt2
 rw [List.take_add_one,List.countP_append,List.getElem?_eq_getElem h]
 simp [List.countP_cons]
set_option maxHeartbeats 4000000 in
theorem e_l7Count (A:Option Addr) (c:Nat) (qs:List VtE) (kind:Int) (w:World) (hr:Rd VtE.enc 10 w A c qs) (hn:qs.length≤1048576) :
  Calls Tryz.prog 87 #[.slice A qs.length c, .int .i64 kind] w fun e w'=>e = .returned (.int .i64 (cnt2 kind (qs.map Prod.snd)))∧Ext w w':=by
 have HR:=Hd hr
 have HM:=Hd (show ∀ k (h:k < qs.length),∃ h2:k < (qs.map Prod.snd).length,(qs.map Prod.snd)[k]=qs[k].2 from fun k h=>⟨by simpa using h,by simp⟩)
 have HLe:=Hd (show ∀ k,cnt2 kind ((qs.map Prod.snd).take k)≤qs.length from fun k=>Nat.le_trans (List.countP_le_length) (by rw [List.length_take,List.length_map];omega))
 clear hr
 go_enter Tryz.func87,Tryz.ntmps87
 go_wp2
 go_loopw [5,6] (fun n i wr=>∃ k:Nat,k≤qs.length∧i = .int .i64 k∧n = .int .i64 (cnt2 kind ((qs.map Prod.snd).take k))∧Ext w wr) (fun _ i _=>qs.length - (intOf i).toNat)
 case atStart=>exact ⟨0,Nat.zero_le _,rfl,by simp [cnt2],ext_refl _⟩
 case round =>
  obtain ⟨k,hk,rfl,rfl,X⟩:=hrel
  by_cases hlt:k < qs.length
  ·obtain ⟨ab,ao,hA,hab,a0,a1,a2,a3,a4,a5,a6,a7,a8,a9⟩:=(HR.out.keep X).atVtE hlt
   subst hA
   obtain ⟨h2,h3⟩:=HM.out k hlt
   have hle:=HLe.out k
   cases g1:(qs[k].2.kind == kind)
   ·have HN:=Hd (show cnt2 kind ((qs.map Prod.snd).take (k+1))=cnt2 kind ((qs.map Prod.snd).take k) by rw [cnt2_next h2,h3,g1];rfl)
    clear h3
    go_wp2
    go_roundw
    case rel=>exact ⟨k+1,by omega,by go_num,by rw [HN.out],X⟩
    case measure=>simp [intOf] <;> omega
   ·have HN:=Hd (show cnt2 kind ((qs.map Prod.snd).take (k+1))=cnt2 kind ((qs.map Prod.snd).take k)+1 by rw [cnt2_next h2,h3,g1];rfl)
    clear h3
    go_wp2
    go_roundw
    case rel=>exact ⟨k+1,by omega,by go_num,by rw [HN.out];go_num,X⟩
    case measure=>simp [intOf] <;> omega
  ·obtain rfl:k=qs.length:=by omega
   have HN:=Hd (show (qs.map Prod.snd).take qs.length=qs.map Prod.snd from List.take_of_length_le (by simp))
   rw [HN.out]
   go_wp2
   go_ret
   exact ⟨rfl,X⟩
theorem bT2_there (ps:List VtE):∀ k,k≤ps.length→(∃ j,∃ h:j < ps.length,j < k∧(ps[j].2.kind == 6)=true)→∃ b,bT2 ps k=some b
 | 0,_,⟨j,h,h2,_⟩=>absurd h2 (by omega)
 | k+1,hk,⟨j,h,h2,h3⟩=>by
  cases h6:(ps[k].2.kind == 6)
  ·rw [bT2_kind (by omega) h6]
   refine bT2_there ps k (by omega) ⟨j,h, ?_,h3⟩
   by_cases e:j=k
   ·subst e;rw [h6] at h3;cases h3
   ·omega
  ·cases hb:bT2 ps k with
   | none=>exact ⟨k,bT2_none (by omega) h6 hb⟩
   | some b =>
    have:=bT2_lt ps k b hb
    rw [bT2_some (by omega) h6 hb (by omega)]
    split
    ·exact ⟨_,rfl⟩
    ·exact ⟨_,rfl⟩
theorem f_l7Best (ps:List VtE) (h6:0 < cnt2 6 (ps.map Prod.snd)):∃ b,b < ps.length∧∀ (A:Option Addr) (c:Nat) (w:World),VsR w A c ps→LgS ps→ps.length≤1048576 →
  Calls Tryz.prog 133 #[.slice A ps.length c] w fun e w'=>e = .returned (.int .i64 ((b:Nat):Int))∧Ext w w':=by
 have h:∃ j,∃ h:j < ps.length,j < ps.length∧(ps[j].2.kind == 6)=true:=by
  unfold cnt2 at h6
  obtain ⟨v,hv,h⟩:=List.countP_pos_iff.1 h6
  obtain ⟨q,hq,rfl⟩:=List.mem_map.1 hv
  obtain ⟨j,hj,rfl⟩:=List.mem_iff_getElem.1 hq
  exact ⟨j,hj,hj,by simpa using h⟩
 obtain ⟨b,hb⟩:=bT2_there ps ps.length (Nat.le_refl _) h
 refine ⟨b,bT2_lt ps _ b hb,fun A c w hr hs hn=>?_⟩
 have:=e_l7Best A c ps w hr hs hn
 rw [hb] at this
 exact this
abbrev Vt.cs3 (a:LAd) (v:Vt):Array Value:=#[.int .i64 v.kind, .int .i64 v.frm, .int .i64 v.view, .int .i64 v.normal, .int .i64 v.op, .int .i64 v.commit, .int .i64 v.log.base, .slice a.cA v.log.cells.length a.cc, .slice a.sA v.log.seats.length a.sc, .slice a.eA v.log.ents.length a.ec]
theorem row_vote2 {w:World} {A:Option Addr} {c:Nat} {qs:List VtE} (hr:Rd VtE.enc 10 w A c qs) {k:Nat} (hk:k < qs.length):∃ ab ao,A=some ⟨ab,ao,none⟩∧∀ W,Ext w W→∀ j v,(Vt.cs3 qs[k].1 qs[k].2).toList[j]?=some v→W.cell? ⟨ab,ao+k * 10+j,none⟩=some v:=by
 obtain ⟨b,o,e,hb,hc⟩:=hr.2.2 (by omega)
 exact ⟨b,o,e,fun W hW j v hv=>(Below.cell hW (p:=⟨b,o+k * 10+j,none⟩) hb).trans (hc k hk j v hv)⟩
end Go.Proofs.YtikelfmmldafpaaGreat
