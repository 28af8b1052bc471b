/- A drawn replica, of the code alone. -/
import Derived.Test.YtikelfmmldafpaaGreatPk41
import Derived.Test.YtikelfmmldafpaaGreatPk36
import Derived.Test.YtikelfmmldafpaaGreatPk3
import Derived.Test.YtikelfmmldafpaaGreatPk40
import Derived.Test.YtikelfmmldafpaaGreatPk42
namespace Go.Proofs.YtikelfmmldafpaaGreat.Ai
open Go.ChangeShapes Go.WideShapes Go.ChangeAt Go.RowKit Go.Sort
set_option linter.unusedVariables false
set_option linter.unusedSimpArgs false
theorem cks_cons {C:Cx} {R:Nat→Prop} {w:World} {k:Ck} {l:List Ck}:∀ {vs:List Value},CksOk C R w (k::l) vs→∃ v r,vs=v::r∧CkOk C R w k v∧CksOk C R w l r
 | [],h=>h.elim
 | v::r,h=>⟨v,r,rfl,h.1,h.2⟩
theorem cks_nil {C:Cx} {R:Nat→Prop} {w:World}:∀ {vs:List Value},CksOk C R w [] vs→vs=[]
 | [],_=>rfl
 | _::_,h=>h.elim
theorem rep_cells {C:Cx} {R:Nat→Prop} {w:World} {K:Int} {v:Value} (h:ValOk C R w (true,repCells K) v):∃ z0 z1 z2 z3 z4 z5 z6 a1 m1 c1 a2 m2 c2 a3 m3 c3 a4 m4 c4 z7 z8,v = .agg #[.int .i64 z0, .int .i64 z1, .int .i64 z2, .int .i64 z3, .int .i64 z4, .int .i64 z5, .int .i64 z6, .slice a1 m1 c1, .slice a2 m2 c2, .slice a3 m3 c3, .slice a4 m4 c4, .int .i64 z7, .int .i64 z8]:=by
 obtain ⟨arr,rfl,h0⟩:=h
 obtain ⟨_,_,e,⟨z0,rfl,_⟩,h1⟩:=cks_cons h0
 obtain ⟨_,_,rfl,⟨z1,rfl,_⟩,h2⟩:=cks_cons h1
 obtain ⟨_,_,rfl,⟨z2,rfl,_⟩,h3⟩:=cks_cons h2
 obtain ⟨_,_,rfl,⟨z3,rfl,_⟩,h4⟩:=cks_cons h3
 obtain ⟨_,_,rfl,⟨z4,rfl,_⟩,h5⟩:=cks_cons h4
 obtain ⟨_,_,rfl,⟨z5,rfl,_⟩,h6⟩:=cks_cons h5
 obtain ⟨_,_,rfl,⟨z6,rfl,_⟩,h7⟩:=cks_cons h6
 obtain ⟨_,_,rfl,⟨_,a1,m1,c1,rfl,_⟩,h8⟩:=cks_cons h7
 obtain ⟨_,_,rfl,⟨_,a2,m2,c2,rfl,_⟩,h9⟩:=cks_cons h8
 obtain ⟨_,_,rfl,⟨_,a3,m3,c3,rfl,_⟩,h10⟩:=cks_cons h9
 obtain ⟨_,_,rfl,⟨_,a4,m4,c4,rfl,_⟩,h11⟩:=cks_cons h10
 obtain ⟨_,_,rfl,⟨z7,rfl,_⟩,h12⟩:=cks_cons h11
 obtain ⟨_,_,rfl,⟨z8,rfl,_⟩,h13⟩:=cks_cons h12
 have:=cks_nil h13
 subst this
 exact ⟨z0,z1,z2,z3,z4,z5,z6,a1,m1,c1,a2,m2,c2,a3,m3,c3,a4,m4,c4,z7,z8,congrArg Value.agg (Array.ext' e)⟩
theorem msg_cells {C:Cx} {R:Nat→Prop} {w:World} {v:Value} (h:ValOk C R w (true,msgCells) v):∃ z0 z1 z2 z3 z4 z5 z6 z7 z8 z9 z10 z11 z12 z13 a1 m1 c1 a2 m2 c2 a3 m3 c3,v = .agg #[.int .i64 z0, .int .i64 z1, .int .i64 z2, .int .i64 z3, .int .i64 z4, .int .i64 z5, .int .i64 z6, .int .i64 z7, .int .i64 z8, .int .i64 z9, .int .i64 z10, .int .i64 z11, .int .i64 z12, .int .i64 z13, .slice a1 m1 c1, .slice a2 m2 c2, .slice a3 m3 c3]:=by
 obtain ⟨arr,rfl,h0⟩:=h
 obtain ⟨_,_,e,⟨z0,rfl,_⟩,h1⟩:=cks_cons h0
 obtain ⟨_,_,rfl,⟨z1,rfl,_⟩,h2⟩:=cks_cons h1
 obtain ⟨_,_,rfl,⟨z2,rfl,_⟩,h3⟩:=cks_cons h2
 obtain ⟨_,_,rfl,⟨z3,rfl,_⟩,h4⟩:=cks_cons h3
 obtain ⟨_,_,rfl,⟨z4,rfl,_⟩,h5⟩:=cks_cons h4
 obtain ⟨_,_,rfl,⟨z5,rfl,_⟩,h6⟩:=cks_cons h5
 obtain ⟨_,_,rfl,⟨z6,rfl,_⟩,h7⟩:=cks_cons h6
 obtain ⟨_,_,rfl,⟨z7,rfl,_⟩,h8⟩:=cks_cons h7
 obtain ⟨_,_,rfl,⟨z8,rfl,_⟩,h9⟩:=cks_cons h8
 obtain ⟨_,_,rfl,⟨z9,rfl,_⟩,h10⟩:=cks_cons h9
 obtain ⟨_,_,rfl,⟨z10,rfl,_⟩,h11⟩:=cks_cons h10
 obtain ⟨_,_,rfl,⟨z11,rfl,_⟩,h12⟩:=cks_cons h11
 obtain ⟨_,_,rfl,⟨z12,rfl,_⟩,h13⟩:=cks_cons h12
 obtain ⟨_,_,rfl,⟨z13,rfl,_⟩,h14⟩:=cks_cons h13
 obtain ⟨_,_,rfl,⟨_,a1,m1,c1,rfl,_⟩,h15⟩:=cks_cons h14
 obtain ⟨_,_,rfl,⟨_,a2,m2,c2,rfl,_⟩,h16⟩:=cks_cons h15
 obtain ⟨_,_,rfl,⟨_,a3,m3,c3,rfl,_⟩,h17⟩:=cks_cons h16
 have:=cks_nil h17
 subst this
 exact ⟨z0,z1,z2,z3,z4,z5,z6,z7,z8,z9,z10,z11,z12,z13,a1,m1,c1,a2,m2,c2,a3,m3,c3,congrArg Value.agg (Array.ext' e)⟩
theorem setCell_at {w:World} {g:Nat} {cs:Array Value} {T:TypeId} {fz:Nat×Nat} (o:Nat) (v:Value) (h:w.heap[g]?=some (.cells cs T fz)):(w.setCell ⟨g,o,none⟩ v).heap[g]?=some (.cells (cs.setIfInBounds o v) T fz):=by
 rw [setCell_eq_setRow w g o cs T fz v h]
 exact setRow_heap w g cs _ T fz h
theorem set13 (a0 a1 a2 a3 a4 a5 a6 a7 a8 a9 a10 a11 a12 b0 b1 b2 b3 b4 b5 b6 b7 b8 b9 b10 b11 b12:Value):(((((((((((((#[b0,b1,b2,b3,b4,b5,b6,b7,b8,b9,b10,b11,b12].setIfInBounds 0 a0).setIfInBounds 1 a1).setIfInBounds 2 a2).setIfInBounds 3 a3).setIfInBounds 4 a4).setIfInBounds 5 a5).setIfInBounds 6 a6).setIfInBounds 7 a7).setIfInBounds 8 a8).setIfInBounds 9 a9).setIfInBounds 10 a10).setIfInBounds 11 a11).setIfInBounds 12 a12)=#[a0,a1,a2,a3,a4,a5,a6,a7,a8,a9,a10,a11,a12]:=by kernel_rfl
def DrawnR (A:Option Addr) (n c:Nat) (w:World) (e:Ending) (w':World):Prop :=
 ∃ (K:Int) (Q:Nat) (R:Nat→Prop) (v:Value),(K=1∨K=3∨K=5)∧e = .returned v∧w.heap.size≤Q∧Rows (cx K Q A n c) R w'∧ValOk (cx K Q A n c) R w' (true,repCells K) v∧Ext w w'
set_option maxRecDepth 100000 in
set_option maxHeartbeats 1000000 in
theorem d_l9DrawOne {n c:Nat} {A:Option Addr} {w:World} (hc:CodeOk w A n w.heap.size) (hnc:n≤c) (hcm:c≤9223372036854775807) (hk:∀ Q K,(K=1∨K=3∨K=5)→Kepts (cx K Q A n c) (t_l9DrawRun K)) (hk2:∀ Q K,(K=1∨K=3∨K=5)→Kepts (cx K Q A n c) (t_l9DrawReplica K)) :
  Calls Tryz.prog 12 #[.slice A n c] w (DrawnR A n c w):=by
 have HC:=Hd hc
 clear hc
 go_enter Tryz.func12,Tryz.ntmps12
 go_wp2_with fail
 have X1:Ext w (w.alloc rObj):=ext_alloc _ _
 refine (c_l1New A n c (w.alloc rObj) (((HC.out.grown (Nat.le_refl _) (grown_of_ext (row:=none) X1) (fun g he=>by cases he))).up (by simp)) hnc hcm).mono ?_
 rintro e w2 ⟨⟨Q,rfl,hQ,hcur⟩,X2⟩
 simp at hQ
 go_wp2_with fail
 refine (d_l9DrawReplica hcur (kd:=3) (by simp [i64lo,i64hi]) (hk Q) (hk2 Q)).mono ?_
 rintro e w3 ⟨K,hK,v,outs,R',rfl,hv,hgw,hhp,hvals,_⟩
 obtain ⟨x,y,rfl,hx,hy⟩:=vals2 hvals
 simp only at hv
 subst hv
 obtain ⟨z0,z1,z2,z3,z4,z5,z6,a1,m1,c1,a2,m2,c2,a3,m3,c3,a4,m4,c4,z7,z8,hxe⟩:=rep_cells hx
 obtain ⟨y0,y1,y2,y3,y4,y5,y6,y7,y8,y9,y10,y11,y12,y13,b1,n1,d1,b2,n2,d2,b3,n3,d3,hye⟩:=msg_cells hy
 have HX:=Hd hx
 clear hx hy hvals
 subst hxe
 subst hye
 have sz2:=X2.size
 simp at sz2
 have sz3:=hgw.size
 have hbox:w3.heap[w.heap.size]?=some rObj:=by
  have h2:w2.heap[w.heap.size]?=some rObj:=by
   rw [X2.block _ (by simp)]
   exact heap_alloc_new _ _
  rw [hgw.keep _ (by omega) (fun h=>h) (by show w.heap.size≠Q;omega)]
  exact h2
 have HG:=Hd hgw
 have HP:=Hd hhp
 clear hgw hhp
 have cb:=bx_cell hbox
 have fb:=bx_frozen hbox
 have zb:=bx_lt hbox
 have HB:=Hd hbox
 clear hbox
 go_wp2
 have E3:w.grownBy w3 (some w.heap.size):=⟨HG.out.os.trans (X2.os.trans X1.os),HG.out.tape.trans (X2.tape.trans X1.tape),HG.out.output.trans (X2.output.trans X1.output),by omega,fun k hk _=>by
  rw [HG.out.keep k (by omega) (fun h=>h) (by show k≠Q;omega),X2.block k (by simp;omega)]
  exact Below.heap_alloc _ _ _ hk⟩
 have q0:w3.heap[w.heap.size]?=some (.cells #[.int .i64 0, .int .i64 0, .int .i64 0, .int .i64 0, .int .i64 0, .int .i64 0, .int .i64 0, .slice none 0 0, .slice none 0 0, .slice none 0 0, .slice none 0 0, .int .i64 0, .int .i64 0] 33 (0,0)):=HB.out
 have q1:=setCell_at 0 (.int .i64 z0) q0
 have q2:=setCell_at 1 (.int .i64 z1) q1
 have q3:=setCell_at 2 (.int .i64 z2) q2
 have q4:=setCell_at 3 (.int .i64 z3) q3
 have q5:=setCell_at 4 (.int .i64 z4) q4
 have q6:=setCell_at 5 (.int .i64 z5) q5
 have q7:=setCell_at 6 (.int .i64 z6) q6
 have q8:=setCell_at 7 (.slice a1 m1 c1) q7
 have q9:=setCell_at 8 (.slice a2 m2 c2) q8
 have q10:=setCell_at 9 (.slice a3 m3 c3) q9
 have q11:=setCell_at 10 (.slice a4 m4 c4) q10
 have q12:=setCell_at 11 (.int .i64 z7) q11
 have q13:=setCell_at 12 (.int .i64 z8) q12
 have hR:∀ g,R' g→g < w3.heap.size∧g≠w.heap.size:=fun g hg=>⟨HP.out.lt hg,by
  have:Q+1≤g:=(HP.out.rows g hg).1
  omega⟩
 have hfin:∀ W,(∀ g,R' g→W.heap[g]?=w3.heap[g]?)→Ext w W→DrawnR A n c w (.returned (.agg #[.int .i64 z0, .int .i64 z1, .int .i64 z2, .int .i64 z3, .int .i64 z4, .int .i64 z5, .int .i64 z6, .slice a1 m1 c1, .slice a2 m2 c2, .slice a3 m3 c3, .slice a4 m4 c4, .int .i64 z7, .int .i64 z8])) W:=by
  intro W h2 h3
  obtain ⟨G1,G2⟩:=Rows.keep (C:=cx K Q A n c) HP.out.rows h2
  refine ⟨K,Q,R',_,hK,rfl,by omega,G1, ?_,h3⟩
  obtain ⟨arr,ha,hcs⟩:=HX.out
  exact ⟨arr,ha,hcs.gr G2⟩
 have E4:=grown_set (u := .int .i64 z8) (p:=⟨w.heap.size,12,none⟩) (grown_set (u := .int .i64 z7) (p:=⟨w.heap.size,11,none⟩) (grown_set (u := .slice a4 m4 c4) (p:=⟨w.heap.size,10,none⟩) (grown_set (u := .slice a3 m3 c3) (p:=⟨w.heap.size,9,none⟩) (grown_set (u := .slice a2 m2 c2) (p:=⟨w.heap.size,8,none⟩) (grown_set (u := .slice a1 m1 c1) (p:=⟨w.heap.size,7,none⟩) (grown_set (u := .int .i64 z6) (p:=⟨w.heap.size,6,none⟩) (grown_set (u := .int .i64 z5) (p:=⟨w.heap.size,5,none⟩) (grown_set (u := .int .i64 z4) (p:=⟨w.heap.size,4,none⟩) (grown_set (u := .int .i64 z3) (p:=⟨w.heap.size,3,none⟩) (grown_set (u := .int .i64 z2) (p:=⟨w.heap.size,2,none⟩) (grown_set (u := .int .i64 z1) (p:=⟨w.heap.size,1,none⟩) (grown_set (u := .int .i64 z0) (p:=⟨w.heap.size,0,none⟩) E3 rfl) rfl) rfl) rfl) rfl) rfl) rfl) rfl) rfl) rfl) rfl) rfl) rfl
 refine bodyPost_ret (results_box (T:=33) (cs:=#[.int .i64 z0, .int .i64 z1, .int .i64 z2, .int .i64 z3, .int .i64 z4, .int .i64 z5, .int .i64 z6, .slice a1 m1 c1, .slice a2 m2 c2, .slice a3 m3 c3, .slice a4 m4 c4, .int .i64 z7, .int .i64 z8]) Tryz.results12 rfl Tryz.underlying33 (by kernel_rfl) ?_) rfl (hfin _ (fun g hg=>?_) ?_)
 ·rw [Below.heap_alloc _ _ _ (by simp;omega),Below.heap_alloc _ _ _ (by simp;omega)]
  rw [set13] at q13
  exact q13
 ·obtain ⟨g1,g2⟩:=hR g hg
  rw [Below.heap_alloc _ _ _ (by simp;omega),Below.heap_alloc _ _ _ (by simp;omega)]
  repeat rw [Below.heap_setCell _ _ _ _ g2]
 ·exact Ext.trans ⟨E4.os,E4.tape,E4.output,E4.size,fun k hk=>E4.block k hk (by simp;omega)⟩ (Ext.trans (ext_alloc _ _) (ext_alloc _ _))
end Go.Proofs.YtikelfmmldafpaaGreat.Ai
namespace Go.Proofs.YtikelfmmldafpaaGreat.Ai
open Go.ChangeShapes Go.WideShapes Go.ChangeAt Go.RowKit Go.Sort
set_option linter.unusedVariables false
set_option linter.unusedSimpArgs false
set_option maxRecDepth 100000 in
set_option maxHeartbeats 1000000 in
theorem d_DrawTurn {n c:Nat} {A:Option Addr} {w:World} (hc:CodeOk w A n w.heap.size) (hnc:n≤c) (hcm:c≤9223372036854775807) (hk:∀ Q K,(K=1∨K=3∨K=5)→Kepts (cx K Q A n c) (t_l9DrawRun K)) (hk2:∀ Q K,(K=1∨K=3∨K=5)→Kepts (cx K Q A n c) (t_l9DrawReplica K)) :
  Calls Tryz.prog 5 #[.slice A n c] w (DrawnR A n c w):=by
 have HC:=Hd hc
 clear hc
 go_enter Tryz.func5,Tryz.ntmps5
 go_wp2_with fail
 have X1:Ext w (w.alloc rObj):=ext_alloc _ _
 refine (d_l9DrawOne (w:=w.alloc rObj) (((HC.out.grown (Nat.le_refl _) (grown_of_ext (row:=none) X1) (fun g he=>by cases he))).up (by simp)) hnc hcm hk hk2).mono ?_
 rintro e w3 ⟨K,Q,R',v,hK,rfl,hQ,hrows,hval,X3⟩
 simp at hQ
 obtain ⟨z0,z1,z2,z3,z4,z5,z6,a1,m1,c1,a2,m2,c2,a3,m3,c3,a4,m4,c4,z7,z8,hxe⟩:=rep_cells hval
 have HX:=Hd hval
 have HP:=Hd hrows
 clear hval hrows
 subst hxe
 have sz3:=X3.size
 simp at sz3
 have hbox:w3.heap[w.heap.size]?=some rObj:=by
  rw [X3.block _ (by simp)]
  exact heap_alloc_new _ _
 have cb:=bx_cell hbox
 have fb:=bx_frozen hbox
 have zb:=bx_lt hbox
 have HB:=Hd hbox
 clear hbox
 go_wp2
 have E3:w.grownBy w3 (some w.heap.size):=grown_of_ext (Ext.trans X1 X3)
 have q0:w3.heap[w.heap.size]?=some (.cells #[.int .i64 0, .int .i64 0, .int .i64 0, .int .i64 0, .int .i64 0, .int .i64 0, .int .i64 0, .slice none 0 0, .slice none 0 0, .slice none 0 0, .slice none 0 0, .int .i64 0, .int .i64 0] 33 (0,0)):=HB.out
 have q1:=setCell_at 0 (.int .i64 z0) q0
 have q2:=setCell_at 1 (.int .i64 z1) q1
 have q3:=setCell_at 2 (.int .i64 z2) q2
 have q4:=setCell_at 3 (.int .i64 z3) q3
 have q5:=setCell_at 4 (.int .i64 z4) q4
 have q6:=setCell_at 5 (.int .i64 z5) q5
 have q7:=setCell_at 6 (.int .i64 z6) q6
 have q8:=setCell_at 7 (.slice a1 m1 c1) q7
 have q9:=setCell_at 8 (.slice a2 m2 c2) q8
 have q10:=setCell_at 9 (.slice a3 m3 c3) q9
 have q11:=setCell_at 10 (.slice a4 m4 c4) q10
 have q12:=setCell_at 11 (.int .i64 z7) q11
 have q13:=setCell_at 12 (.int .i64 z8) q12
 have hR:∀ g,R' g→g≠w.heap.size:=fun g hg=>by
  have:Q+1≤g:=(HP.out g hg).1
  omega
 have hfin:∀ W,(∀ g,R' g→W.heap[g]?=w3.heap[g]?)→Ext w W→DrawnR A n c w (.returned (.agg #[.int .i64 z0, .int .i64 z1, .int .i64 z2, .int .i64 z3, .int .i64 z4, .int .i64 z5, .int .i64 z6, .slice a1 m1 c1, .slice a2 m2 c2, .slice a3 m3 c3, .slice a4 m4 c4, .int .i64 z7, .int .i64 z8])) W:=by
  intro W h2 h3
  obtain ⟨G1,G2⟩:=Rows.keep (C:=cx K Q A n c) HP.out h2
  refine ⟨K,Q,R',_,hK,rfl,by omega,G1, ?_,h3⟩
  obtain ⟨arr,ha,hcs⟩:=HX.out
  exact ⟨arr,ha,hcs.gr G2⟩
 have E4:=(grown_set (u := .int .i64 z8) (p:=⟨w.heap.size,12,none⟩) (grown_set (u := .int .i64 z7) (p:=⟨w.heap.size,11,none⟩) (grown_set (u := .slice a4 m4 c4) (p:=⟨w.heap.size,10,none⟩) (grown_set (u := .slice a3 m3 c3) (p:=⟨w.heap.size,9,none⟩) (grown_set (u := .slice a2 m2 c2) (p:=⟨w.heap.size,8,none⟩) (grown_set (u := .slice a1 m1 c1) (p:=⟨w.heap.size,7,none⟩) (grown_set (u := .int .i64 z6) (p:=⟨w.heap.size,6,none⟩) (grown_set (u := .int .i64 z5) (p:=⟨w.heap.size,5,none⟩) (grown_set (u := .int .i64 z4) (p:=⟨w.heap.size,4,none⟩) (grown_set (u := .int .i64 z3) (p:=⟨w.heap.size,3,none⟩) (grown_set (u := .int .i64 z2) (p:=⟨w.heap.size,2,none⟩) (grown_set (u := .int .i64 z1) (p:=⟨w.heap.size,1,none⟩) (grown_set (u := .int .i64 z0) (p:=⟨w.heap.size,0,none⟩) E3 rfl) rfl) rfl) rfl) rfl) rfl) rfl) rfl) rfl) rfl) rfl) rfl) rfl)
 rw [set13] at q13
 refine bodyPost_ret (results_box (T:=33) (cs:=#[.int .i64 z0, .int .i64 z1, .int .i64 z2, .int .i64 z3, .int .i64 z4, .int .i64 z5, .int .i64 z6, .slice a1 m1 c1, .slice a2 m2 c2, .slice a3 m3 c3, .slice a4 m4 c4, .int .i64 z7, .int .i64 z8]) Tryz.results5 rfl Tryz.underlying33 (by kernel_rfl) q13) rfl (hfin _ (fun g hg=>?_) ?_)
 ·have g2:=hR g hg
  repeat rw [Below.heap_setCell _ _ _ _ g2]
 ·exact ⟨E4.os,E4.tape,E4.output,E4.size,fun k hk=>E4.block k hk (by simp;omega)⟩
end Go.Proofs.YtikelfmmldafpaaGreat.Ai
namespace Go.Proofs.YtikelfmmldafpaaGreat.Ai
open Go.RowKit
set_option linter.unusedVariables false
theorem kepts_run {K:Int} {Q n c:Nat} {A:Option Addr} (hK:K=1∨K=3∨K=5) (H:Hand K Q A n c):Kepts (cx K Q A n c) (t_l9DrawRun K):=⟨q_NewGroup hK,q_l1Below hK,q_l9DrawGo hK,q_GroupDo hK H,trivial⟩
theorem kepts_rep {K:Int} {Q n c:Nat} {A:Option Addr} (hK:K=1∨K=3∨K=5):Kepts (cx K Q A n c) (t_l9DrawReplica K):=⟨q_l4DrawRight hK,q_l1Below hK,q_UnpackMsg hK,q_l1Once hK,q_l9Made hK,q_l4DrawMsg hK,q_l9Spoil hK,trivial⟩
theorem turn_read {n c:Nat} {A:Option Addr} {w:World} (hc:CodeOk w A n w.heap.size) (hnc:n≤c) (hcm:c≤9223372036854775807) (H:∀ Q K,(K=1∨K=3∨K=5)→Hand K Q A n c) :
  Calls Tryz.prog 5 #[.slice A n c] w fun e w'=>∃ (a:LAd) (V:Option Addr) (d:Nat) (ps:List VtE) (r:Rp),e = .returned (Rp.val a V ps.length d r)∧RpR w' a V d ps r∧(0≤r.of∧r.of≤5)∧(r.log.cells.length≤1048576∧r.log.seats.length≤1048576∧r.log.ents.length≤1048576)∧ps.length≤1048576 ∧
   (∀ p∈ps,p.2.log.cells.length≤1048576∧p.2.log.seats.length≤1048576∧p.2.log.ents.length≤1048576)∧Ext w w':=by
 refine (d_DrawTurn hc hnc hcm (fun Q K hK=>kepts_run hK (H Q K hK)) (fun Q K hK=>kepts_rep hK)).mono ?_
 rintro e w' ⟨K,Q,R,v,hK,rfl,_,hr,hv,X⟩
 obtain ⟨a,V,d,ps,r,rfl,h1,h2,h3,h4,h5,_⟩:=rep_of hr hv
 exact ⟨a,V,d,ps,r,rfl,h1,⟨h2.1,by omega⟩,h3,h4,h5,X⟩
end Go.Proofs.YtikelfmmldafpaaGreat.Ai
namespace Go.Proofs.YtikelfmmldafpaaGreat.Ai
open Go.RowKit
set_option linter.unusedVariables false
theorem wf_look {K:Int} (hK:K=1∨K=3∨K=5):∀ o∈(c_l7Look K).outs,∀ k∈o.2,Ckwf k:=by
 have h:(c_l7Look K).outs.all (fun o=>o.2.all wfB)=true:=by rcases hK with rfl | rfl | rfl <;> kernel_rfl
 exact fun o ho k hk=>wfB_ok (List.all_eq_true.1 (List.all_eq_true.1 h o ho) k hk)
theorem hand {K:Int} {Q n c:Nat} {A:Option Addr} (hK:K=1∨K=3∨K=5):Hand K Q A n c:=by
 refine ⟨⟨fun w R args hhp hargs hpre=>?_,fun args w=>fn_of (P:=Tryz.prog) Tryz.func52 rfl rfl args w,wf_look hK⟩⟩
 obtain ⟨v,hl,h1⟩:=vals1 hargs
 have hargs':args=#[v]:=by
  cases args
  simp only at hl
  rw [hl]
 subst hargs'
 exact look_post hK hhp h1
theorem turn_draw {n c:Nat} {A:Option Addr} {w:World} (hc:CodeOk w A n w.heap.size) (hnc:n≤c) (hcm:c≤9223372036854775807) :
  Calls Tryz.prog 5 #[.slice A n c] w fun e w'=>∃ (a:LAd) (V:Option Addr) (d:Nat) (ps:List VtE) (r:Rp),e = .returned (Rp.val a V ps.length d r)∧RpR w' a V d ps r∧(0≤r.of∧r.of≤5)∧(r.log.cells.length≤1048576∧r.log.seats.length≤1048576∧r.log.ents.length≤1048576)∧ps.length≤1048576 ∧
   (∀ p∈ps,p.2.log.cells.length≤1048576∧p.2.log.seats.length≤1048576∧p.2.log.ents.length≤1048576)∧Ext w w':=turn_read hc hnc hcm fun Q K hK=>hand hK
end Go.Proofs.YtikelfmmldafpaaGreat.Ai
