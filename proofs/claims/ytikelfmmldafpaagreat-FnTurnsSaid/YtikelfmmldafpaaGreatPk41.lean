/- A drawn replica: the run is drawn, the rest is the interpreter's. -/
import Derived.Test.YtikelfmmldafpaaGreatPk36
import Derived.Test.YtikelfmmldafpaaGreatPk35
import Derived.Test.YtikelfmmldafpaaGreatPk4
import Derived.Test.YtikelfmmldafpaaGreatPk17
import Derived.Test.YtikelfmmldafpaaGreatPk40
namespace Go.Proofs.YtikelfmmldafpaaGreat.Ai
open Go.ChangeShapes Go.WideShapes Go.ChangeAt Go.RowKit Go.Sort
set_option linter.unusedVariables false
set_option linter.unusedSimpArgs false
set_option maxHeartbeats 1000000 in
theorem x_l1Long (A:Option Addr) (n c:Nat) (a b:Int) (w:World) (hn:n≤1048576) (h0:0≤a) (h1:a≤b) (h2:b≤1000000):Calls Tryz.prog 68 #[.slice A n c, .int .i64 a, .int .i64 b] w fun e w'=>(∃ x:Int,(0≤x∧x≤b)∧e = .returned (.int .i64 x))∧w'=w:=by
 go_enter Tryz.func68,Tryz.ntmps68
 go_wp2
 all_goals
  go_ret
  exact ⟨⟨_,⟨by omega,by omega⟩,rfl⟩,rfl⟩
section
variable {C:Cx} {E:Env} {w0:World} {R0:Nat→Prop} {σ:Nat→Int} {bp:Nat→Nat} {R:Nat→Prop} {s t:AS} {a:Act} {w w':World}
theorem post_out (h:Stt C w0 R0 σ bp R s a w) {c:Ctr} {i:List Sy} {args:List Value} (hin:∀ σ',Agr s.n σ' σ→i.map (Sy.ev σ')=nums args) (hwf:∀ o∈c.outs,∀ k∈o.2,Ckwf k) (ht:posts (freshR s c.outs).2 (i++(freshR s c.outs).1.flatMap fun l=>l.2.map symO) c.post=some t) {e:Ending} (kp:KPost C c R w args e w') :
  ∃ v outs σ1 R1,e = .returned v∧v=(match outs with | [u]=>u | l => .tuple l.toArray)∧Agr s.n σ1 σ∧s.n≤t.n∧t.bx=s.bx∧Stt C w0 R0 σ1 bp R1 t a w'∧∀ σ' bp',Agr t.n σ' σ1→TpOk C σ' bp' R1 w' (freshR s c.outs).1 outs:=by
 obtain ⟨v,outs,R',rfl,hv,hg,hp',ho,hpost⟩:=kp
 obtain ⟨h1,hgr⟩:=turn_stt h hg hp'
 obtain ⟨σ1,a1,n1,t1,b1,st1,k1⟩:=freshR_num c.outs outs h1 ho hwf
 obtain ⟨p1,p2⟩:=posts_ok ht
 refine ⟨v,outs,σ1,R',rfl,hv,a1,by rw [p1.n];exact n1,by rw [p1.bx,b1],st1.sm p1 fun σ' bp' q1 q2 st=>p2 σ' st.fs ?_,fun σ' bp' q=>(k1 σ' bp' (by rw [←p1.n];exact q)).1⟩
 have e1:=hin σ' ((q1.less n1).trans a1)
 have e2:=(k1 σ' bp q1).2
 rw [List.map_append,e1,e2]
 exact fun p hp hq=>hpost p hp hq
end
def repCells (K:Int):List Ck:=[ii, .int .i64 0 K,ii,ii,ii,ii,ii, .sl 124, .sl 126, .sl 65, .sl 57,ii,ii]
def msgCells:List Ck:=[ii,ii,ii,ii,ii,ii,ii,ii,ii,ii,ii,ii,ii,ii, .sl 124, .sl 126, .sl 65]
def repZero:List Ck:=[ii,ii,ii,ii,ii,ii,ii, .sl 124, .sl 126, .sl 65, .sl 57,ii,ii]
def c_l9DrawReplica (K:Int):Ctr:=⟨[(false,[.cur]),(false,[.cur]),(false,[ii])],[(true,repCells K),(true,msgCells)],[],[]⟩
def preRep:AS:=⟨one .cur::one .unk::one (.num .i64 (var 1))::one .un::one .un::one .un::one (.ptr 0 0)::one (.ptr 1 0)::(List.replicate 11 (one .un)++one .cur::one .unk::one (.num .i64 (var 2))::(List.replicate 79 (one .un)++[])),
 [(33,repZero.map zeroC),(43,msgCells.map zeroC)],3,[],[],[]⟩
def midRep (K:Int):AS:=match posts (freshR preRep (c_l9DrawRun K).outs).2 ([.lin (cst 0), .lin (var 2)]++(freshR preRep (c_l9DrawRun K).outs).1.flatMap fun l=>l.2.map symO) (c_l9DrawRun K).post with
 | some t=>{ t with tm:=setN t.tm 22 (.v (.tup (freshR preRep (c_l9DrawRun K).outs).1)) }
 | none=>preRep
def t_l9DrawReplica (K:Int):List (Nat×Ctr):=[(69,c_l4DrawRight),(70,c_l1Below),(71,c_UnpackMsg),(72,c_l1Once),(73,c_l9Made K),(74,c_l4DrawMsg),(75,c_l9Spoil K)]
def h_l9DrawReplica:List Hn:=[.loop [(4,0),(4,1),(4,2),(4,3),(4,4),(4,5),(4,6),(4,7),(4,8),(4,9),(4,10),(4,11),(4,12),(4,13),(4,14),(4,15),(4,16)] [⟨0,[(32,1)]⟩,⟨-1,[(9,1),(32,-1)]⟩,⟨1,[(32,1)]⟩,⟨2097152,[(32,-1)]⟩,⟨0,[(34,1)]⟩,⟨1,[(34,1)]⟩,⟨2097152,[(34,-1)]⟩,⟨0,[(12,1),(34,-1)]⟩] [] ⟨0,[(12,1),(34,-1)]⟩]
theorem r1_l9DrawReplica:restB ⟨tb 1,t_l9DrawReplica 1,4,2,eqs⟩ Tryz.f36 (c_l9DrawReplica 1) [.lin (cst 0), .lin (cst 0), .lin (var 1)] (opsC (fstC (sndC (bodyC Tryz.f36)))) 4 (sndC (sndC (bodyC Tryz.f36))) (midRep 1) h_l9DrawReplica=true:=by kernel_rfl
theorem r3_l9DrawReplica:restB ⟨tb 3,t_l9DrawReplica 3,4,2,eqs⟩ Tryz.f36 (c_l9DrawReplica 3) [.lin (cst 0), .lin (cst 0), .lin (var 1)] (opsC (fstC (sndC (bodyC Tryz.f36)))) 4 (sndC (sndC (bodyC Tryz.f36))) (midRep 3) h_l9DrawReplica=true:=by kernel_rfl
theorem r5_l9DrawReplica:restB ⟨tb 5,t_l9DrawReplica 5,4,2,eqs⟩ Tryz.f36 (c_l9DrawReplica 5) [.lin (cst 0), .lin (cst 0), .lin (var 1)] (opsC (fstC (sndC (bodyC Tryz.f36)))) 4 (sndC (sndC (bodyC Tryz.f36))) (midRep 5) h_l9DrawReplica=true:=by kernel_rfl
theorem r_l9DrawReplica {K:Int} (hK:K=1∨K=3∨K=5):restB ⟨tb K,t_l9DrawReplica K,4,2,eqs⟩ Tryz.f36 (c_l9DrawReplica K) [.lin (cst 0), .lin (cst 0), .lin (var 1)] (opsC (fstC (sndC (bodyC Tryz.f36)))) 4 (sndC (sndC (bodyC Tryz.f36))) (midRep K) h_l9DrawReplica=true:=by
 rcases hK with rfl | rfl | rfl
 ·exact r1_l9DrawReplica
 ·exact r3_l9DrawReplica
 ·exact r5_l9DrawReplica
def rObj:Obj := .cells #[.int .i64 0, .int .i64 0, .int .i64 0, .int .i64 0, .int .i64 0, .int .i64 0, .int .i64 0, .slice none 0 0, .slice none 0 0, .slice none 0 0, .slice none 0 0, .int .i64 0, .int .i64 0] 33
def mObj:Obj := .cells #[.int .i64 0, .int .i64 0, .int .i64 0, .int .i64 0, .int .i64 0, .int .i64 0, .int .i64 0, .int .i64 0, .int .i64 0, .int .i64 0, .int .i64 0, .int .i64 0, .int .i64 0, .int .i64 0, .slice none 0 0, .slice none 0 0, .slice none 0 0] 43
theorem zeros_ii {C:Cx} {σ:Nat→Int} {bp:Nat→Nat} {R:Nat→Prop} {w:World} {cs:List Ck} (h:cs.all zrB=true):LsOk C σ bp R w (cs.map zeroC) (cs.map zeroV):=zero_ok (by
 rintro k hk k' lo hi rfl
 have:=List.all_eq_true.1 h _ hk
 simp only [zrB,Bool.and_eq_true,nn_iff] at this
 exact ⟨by omega,this.2⟩)
theorem pre_stt {K kd x:Int} {Q n c:Nat} {A:Option Addr} {w:World} (hk:i64lo≤kd∧kd≤i64hi) (hx:0≤x∧x≤80) (hc:Cur w Q A n c) (u:Value) :
  Stt (cx K Q A n c) w (fun _=>False) (fun i=>if i=1 then kd else x) (fun i=>w.heap.size+i) (fun _=>False) preRep
   ⟨(.pointer (some ⟨Q,0,none⟩)::u :: .int .i64 kd::undef::undef::undef :: .pointer (some ⟨w.heap.size,0,none⟩) :: .pointer (some ⟨w.heap.size+1,0,none⟩)::(List.replicate 11 undef ++ .pointer (some ⟨Q,0,none⟩)::u :: .int .i64 x::(List.replicate 79 undef++[]))).toArray,[]⟩ ((w.alloc rObj).alloc mObj):=by
 have hlt:=hc.lt
 have X:Ext w ((w.alloc rObj).alloc mObj):=Ext.trans (ext_alloc _ _) (ext_alloc _ _)
 refine ⟨fun σ' bp' q1 q2=>⟨?_, ?_,⟨by simp [preRep],by simp [preRep],by simp [preRep]⟩⟩,⟨hp_none (hc.ext X),gw_none (grown_of_ext X),fun i hi=>⟨by omega,fun h=>h,by show w.heap.size+i≠Q;omega⟩,fun i j _ _ e=>by omega,rfl,fun q h=>h.elim⟩⟩
 ·have e1:σ' 1=kd:=q1 1 (by show _ < 3;omega)
  have e2:σ' 2=x:=q1 2 (by show _ < 3;omega)
  have b0:bp' 0=w.heap.size:=q2 0 (by show _ < 2;omega)
  have b1:bp' 1=w.heap.size+1:=q2 1 (by show _ < 2;omega)
  have v1:AtOk (cx K Q A n c) σ' bp' (fun _=>False) ((w.alloc rObj).alloc mObj) (.num .i64 (var 1)) (.int .i64 kd):=by
   refine ⟨by rw [ev_var,e1], ?_, ?_⟩ <;> rw [ev_var,e1] <;> simp only [nat8] <;> omega
  have v2:AtOk (cx K Q A n c) σ' bp' (fun _=>False) ((w.alloc rObj).alloc mObj) (.num .i64 (var 2)) (.int .i64 x):=by
   refine ⟨by rw [ev_var,e2], ?_, ?_⟩ <;> rw [ev_var,e2] <;> simp only [nat8,i64lo,i64hi] <;> omega
  have p0:AtOk (cx K Q A n c) σ' bp' (fun _=>False) ((w.alloc rObj).alloc mObj) (.ptr 0 0) (.pointer (some ⟨w.heap.size,0,none⟩)):=by
   show _=Value.pointer _
   rw [b0]
  have p1:AtOk (cx K Q A n c) σ' bp' (fun _=>False) ((w.alloc rObj).alloc mObj) (.ptr 1 0) (.pointer (some ⟨w.heap.size+1,0,none⟩)):=by
   show _=Value.pointer _
   rw [b1]
  have t1:TmOk (cx K Q A n c) σ' bp' (fun _=>False) ((w.alloc rObj).alloc mObj) (List.replicate 79 (one .un)++[]) (List.replicate 79 undef++[]):=un_rep (l:=[]) (vs:=[]) trivial 79
  have t2:TmOk (cx K Q A n c) σ' bp' (fun _=>False) ((w.alloc rObj).alloc mObj) (one .cur::one .unk::one (.num .i64 (var 2))::(List.replicate 79 (one .un)++[])) (.pointer (some ⟨Q,0,none⟩)::u :: .int .i64 x::(List.replicate 79 undef++[])):=⟨rfl,trivial,v2,t1⟩
  exact ⟨rfl,trivial,v1,rfl,rfl,rfl,p0,p1,un_rep t2 11⟩
 ·have b0:bp' 0=w.heap.size:=q2 0 (by show _ < 2;omega)
  have b1:bp' 1=w.heap.size+1:=q2 1 (by show _ < 2;omega)
  have hq0:((w.alloc rObj).alloc mObj).heap[w.heap.size]?=some rObj:=by
   rw [Below.heap_alloc _ _ _ (by simp),heap_alloc_new]
  have hq1:((w.alloc rObj).alloc mObj).heap[w.heap.size+1]?=some mObj:=by
   have e:w.heap.size+1=(w.alloc rObj).heap.size:=by simp
   rw [e,heap_alloc_new]
  exact ⟨⟨_,by rw [b0];exact hq0,zeros_ii (cs:=repZero) (by kernel_rfl)⟩,⟨_,by rw [b1];exact hq1,zeros_ii (cs:=msgCells) (by kernel_rfl)⟩,trivial⟩
set_option maxRecDepth 100000 in
set_option maxHeartbeats 1000000 in
theorem d_l9DrawReplica {Q n c:Nat} {A:Option Addr} {w:World} {kd:Int} (hc:Cur w Q A n c) (hkd:i64lo≤kd∧kd≤i64hi) (hk:∀ K,(K=1∨K=3∨K=5)→Kepts (cx K Q A n c) (t_l9DrawRun K)) (hk2:∀ K,(K=1∨K=3∨K=5)→Kepts (cx K Q A n c) (t_l9DrawReplica K)) :
  Calls Tryz.prog 36 #[.pointer (some ⟨Q,0,none⟩), .slice A n c, .int .i64 kd] w fun e w'=>∃ K,(K=1∨K=3∨K=5)∧KPost (cx K Q A n c) (c_l9DrawReplica K) (fun _=>False) w [.pointer (some ⟨Q,0,none⟩), .pointer none, .int .i64 kd] e w':=by
 have hlt:=hc.lt
 have hn20:=hc.2.2.1.1
 go_enter Tryz.func36,Tryz.ntmps36
 refine wp_seq_k fun K0 hK0=>?_
 have H0:=Hd hK0
 clear hK0
 go_wp2_with fail
 refine H0.out _ _ ?_
 clear H0
 refine wp_seq_k fun K1 hK1=>?_
 have H1:=Hd hK1
 clear hK1
 go_wp2_with fail
 refine (x_l1Long A n c 40 80 _ hn20 (by omega) (by omega) (by omega)).mono ?_
 rintro e w1 ⟨⟨x,hx,rfl⟩,rfl⟩
 have X3:Ext w ((w.alloc rObj).alloc mObj):=Ext.trans (ext_alloc _ _) (ext_alloc _ _)
 go_wp2_with fail
 refine (d_l9DrawRun (w:=(w.alloc rObj).alloc mObj) (hc.ext X3) hx.1 (by omega) hk).mono ?_
 rintro e w2 ⟨K,hK,kp⟩
 have st:=pre_stt (K:=K) hkd hx hc (.slice A n c)
 have hsome:(posts (freshR preRep (c_l9DrawRun K).outs).2 ([.lin (cst 0), .lin (var 2)]++(freshR preRep (c_l9DrawRun K).outs).1.flatMap fun l=>l.2.map symO) (c_l9DrawRun K).post).isSome=true:=by rcases hK with rfl | rfl | rfl <;> kernel_rfl
 obtain ⟨t,ht⟩:=Option.isSome_iff_exists.1 hsome
 have hwf:∀ o∈(c_l9DrawRun K).outs,∀ k∈o.2,Ckwf k:=by
  have h:(c_l9DrawRun K).outs.all (fun o=>o.2.all wfB)=true:=by kernel_rfl
  exact fun o ho k hk=>wfB_ok (List.all_eq_true.1 (List.all_eq_true.1 h o ho) k hk)
 obtain ⟨v,outs,σ1,R1,rfl,hv,ag,le,hbx,st2,tp⟩:=post_out st (i:=[.lin (cst 0), .lin (var 2)]) (fun σ' q=>by
  have e2:σ' 2=x:=q 2 (by show _ < 3;omega)
  show [(cst 0).ev σ',(var 2).ev σ']=[0,x]
  rw [ev_cst,ev_var,e2]) hwf ht kp
 have hmid:midRep K={ t with tm:=setN t.tm 22 (.v (.tup (freshR preRep (c_l9DrawRun K).outs).1)) }:=by
  unfold midRep
  rw [ht]
 have htup:∃ arr:Array Value,v = .tuple arr∧arr.toList=outs:=by
  have h3:=tp σ1 (fun _=>0) (agr_refl _ _)
  match outs,h3 with
  | [],h3=>exact h3.elim
  | [_],h3=>exact h3.2.elim
  | a::b::r,_=>exact ⟨(a::b::r).toArray,hv,rfl⟩
 obtain ⟨arr,rfl,harr⟩:=htup
 have st3:=put_stt (d:=22) (x := .v (.tup (freshR preRep (c_l9DrawRun K).outs).1)) (v := .tuple arr) st2 fun σ' bp' q1 q2=>⟨arr,rfl,by rw [harr];exact tp σ' bp' q1⟩
 rw [←hmid] at st3
 rename_i hrest
 refine hrest _ _ ?_
 clear hrest
 refine restB_ok (k:=4) (goods_of (baseK hK) (hk2 K hK) 4 2) rfl (show Q+1≤w.heap.size from hlt) (r_l9DrawReplica hK) (args:=[.pointer (some ⟨Q,0,none⟩), .pointer none, .int .i64 kd]) (fun σ' q=>?_) st3 (fun a' w' h=>?_)
 ·have e1:σ' 1=kd:=by
   have:(midRep K).n=t.n:=by rw [hmid]
   rw [q 1 (by rw [this];exact Nat.lt_of_lt_of_le (show 1 < 3 by omega) le),ag 1 (by show _ < 3;omega)]
   rfl
  show [(cst 0).ev σ',(cst 0).ev σ',(var 1).ev σ']=[0,0,kd]
  rw [ev_cst,ev_var,e1]
 ·exact H1.out a' w' (wp_mono h (bodyPost_mono fun e w hp=>⟨K,hK,hp⟩))
end Go.Proofs.YtikelfmmldafpaaGreat.Ai
namespace Go.Proofs.YtikelfmmldafpaaGreat.Ai
open Go.RowKit
set_option linter.unusedVariables false
set_option linter.unusedSimpArgs false
section
variable {K:Int} {Q n c:Nat} {A:Option Addr} {R:Nat→Prop} {w:World}
theorem int_at {C:Cx} {ks:List Ck} {j:Nat} {v:Value} (h:∃ k,nth ks j=some k∧CkOk C R w k v) (e:nth ks j=some ii):∃ z,v = .int .i64 z:=by
 obtain ⟨k,h1,h2⟩:=h
 rw [e] at h1
 cases h1
 obtain ⟨z,hz,_⟩:=h2
 exact ⟨z,hz⟩
theorem sl_at {C:Cx} {ks:List Ck} {j T:Nat} {v:Value} (h:∃ k,nth ks j=some k∧CkOk C R w k v) (e:nth ks j=some (.sl T)):∃ a m c z,v = .slice a m c∧SlOk C R w T (.slice a m c) z:=by
 obtain ⟨k,h1,h2⟩:=h
 rw [e] at h1
 cases h1
 obtain ⟨z,hz⟩:=h2
 have hz2:=hz
 obtain ⟨a,m,c,hv,_⟩:=hz2
 exact ⟨a,m,c,z,hv,by rw [←hv];exact hz⟩
theorem cel_of (hr:Rows (cx K Q A n c) R w) {a:Option Addr} {m d:Nat} {z:Int} (h:SlOk (cx K Q A n c) R w 124 (.slice a m d) z):∃ l:List Cel,l.length=m∧l.length≤1048576∧Rd Cel.enc 2 w a d l:=by
 obtain ⟨l,h1,h2,_,h3⟩:=rd_of hr h (enc:=Cel.enc) (P:=fun _=>True) (fun vs hl ht=>by
  match vs,hl with
  | [v0,v1],_ =>
   obtain ⟨z0,rfl⟩:=int_at (ht 0 v0 rfl) rfl
   obtain ⟨z1,rfl⟩:=int_at (ht 1 v1 rfl) rfl
   exact ⟨⟨z0,z1⟩,rfl,trivial⟩)
 exact ⟨l,h1,h2,h3⟩
theorem sea_of (hr:Rows (cx K Q A n c) R w) {a:Option Addr} {m d:Nat} {z:Int} (h:SlOk (cx K Q A n c) R w 126 (.slice a m d) z):∃ l:List Sea,l.length=m∧l.length≤1048576∧Rd Sea.enc 3 w a d l:=by
 obtain ⟨l,h1,h2,_,h3⟩:=rd_of hr h (enc:=Sea.enc) (P:=fun _=>True) (fun vs hl ht=>by
  match vs,hl with
  | [v0,v1,v2],_ =>
   obtain ⟨z0,rfl⟩:=int_at (ht 0 v0 rfl) rfl
   obtain ⟨z1,rfl⟩:=int_at (ht 1 v1 rfl) rfl
   obtain ⟨z2,rfl⟩:=int_at (ht 2 v2 rfl) rfl
   exact ⟨⟨z0,z1,z2⟩,rfl,trivial⟩)
 exact ⟨l,h1,h2,h3⟩
theorem ent_of (hr:Rows (cx K Q A n c) R w) {a:Option Addr} {m d:Nat} {z:Int} (h:SlOk (cx K Q A n c) R w 65 (.slice a m d) z):∃ l:List Ent,l.length=m∧l.length≤1048576∧Rd Ent.enc 5 w a d l:=by
 obtain ⟨l,h1,h2,_,h3⟩:=rd_of hr h (enc:=Ent.enc) (P:=fun _=>True) (fun vs hl ht=>by
  match vs,hl with
  | [v0,v1,v2,v3,v4],_ =>
   obtain ⟨z0,rfl⟩:=int_at (ht 0 v0 rfl) rfl
   obtain ⟨z1,rfl⟩:=int_at (ht 1 v1 rfl) rfl
   obtain ⟨z2,rfl⟩:=int_at (ht 2 v2 rfl) rfl
   obtain ⟨z3,rfl⟩:=int_at (ht 3 v3 rfl) rfl
   obtain ⟨z4,rfl⟩:=int_at (ht 4 v4 rfl) rfl
   exact ⟨⟨z0,z1,z2,z3,z4⟩,rfl,trivial⟩)
 exact ⟨l,h1,h2,h3⟩
theorem log_of (hr:Rows (cx K Q A n c) R w) (b:Int) {a1 a2 a3:Option Addr} {m1 c1 m2 c2 m3 c3:Nat} {z1 z2 z3:Int} (h1:SlOk (cx K Q A n c) R w 124 (.slice a1 m1 c1) z1) (h2:SlOk (cx K Q A n c) R w 126 (.slice a2 m2 c2) z2) (h3:SlOk (cx K Q A n c) R w 65 (.slice a3 m3 c3) z3) :
  ∃ l:Lg,l.base=b∧l.cells.length=m1∧l.seats.length=m2∧l.ents.length=m3∧(l.cells.length≤1048576∧l.seats.length≤1048576∧l.ents.length≤1048576)∧LgR w ⟨a1,c1,a2,c2,a3,c3⟩ l:=by
 obtain ⟨x,x1,x2,x3⟩:=cel_of hr h1
 obtain ⟨y,y1,y2,y3⟩:=sea_of hr h2
 obtain ⟨u,u1,u2,u3⟩:=ent_of hr h3
 exact ⟨⟨b,x,y,u⟩,rfl,x1,y1,u1,⟨x2,y2,u2⟩,x3,y3,u3⟩
theorem cks_of {C:Cx}:∀ {cs:List Ck} {vs:List Value},cs.length=vs.length→(∀ j v,vs[j]?=some v→∃ k,nth cs j=some k∧CkOk C R w k v)→CksOk C R w cs vs
 | [],[],_,_=>trivial
 | [],_::_,h,_=>by simp at h
 | _::_,[],h,_=>by simp at h
 | k::cs,v::vs,h,g=>by
  obtain ⟨k',e,h1⟩:=g 0 v rfl
  cases e
  exact ⟨h1,cks_of (by simpa using h) fun j u hj=>g (j+1) u (by simpa using hj)⟩
def votCells:List Ck:=[ii,ii,ii,ii,ii,ii,ii, .sl 124, .sl 126, .sl 65]
theorem votes_of (hr:Rows (cx K Q A n c) R w) {a:Option Addr} {m d:Nat} {z:Int} (h:SlOk (cx K Q A n c) R w 57 (.slice a m d) z):∃ l:List VtE,l.length=m∧l.length≤1048576∧VsR w a d l∧(∀ p∈l,p.2.log.cells.length≤1048576∧p.2.log.seats.length≤1048576∧p.2.log.ents.length≤1048576)∧∀ p∈l,CksOk (cx K Q A n c) R w votCells (VtE.enc p):=by
 obtain ⟨l,h1,h2,h3,h4⟩:=rd_of hr h (enc:=VtE.enc) (P:=fun p=>(p.2.log.cells.length≤1048576∧p.2.log.seats.length≤1048576∧p.2.log.ents.length≤1048576)∧LgR w p.1 p.2.log∧CksOk (cx K Q A n c) R w votCells (VtE.enc p)) (fun vs hl ht=>by
  have hck:CksOk (cx K Q A n c) R w votCells vs:=cks_of (by rw [hl];rfl) ht
  match vs,hl with
  | [v0,v1,v2,v3,v4,v5,v6,v7,v8,v9],_ =>
   obtain ⟨z0,rfl⟩:=int_at (ht 0 v0 rfl) rfl
   obtain ⟨z1,rfl⟩:=int_at (ht 1 v1 rfl) rfl
   obtain ⟨z2,rfl⟩:=int_at (ht 2 v2 rfl) rfl
   obtain ⟨z3,rfl⟩:=int_at (ht 3 v3 rfl) rfl
   obtain ⟨z4,rfl⟩:=int_at (ht 4 v4 rfl) rfl
   obtain ⟨z5,rfl⟩:=int_at (ht 5 v5 rfl) rfl
   obtain ⟨z6,rfl⟩:=int_at (ht 6 v6 rfl) rfl
   obtain ⟨b1,n1,d1,e1,rfl,s1⟩:=sl_at (ht 7 v7 rfl) rfl
   obtain ⟨b2,n2,d2,e2,rfl,s2⟩:=sl_at (ht 8 v8 rfl) rfl
   obtain ⟨b3,n3,d3,e3,rfl,s3⟩:=sl_at (ht 9 v9 rfl) rfl
   obtain ⟨l,rfl,rfl,rfl,rfl,hs,hg⟩:=log_of hr z6 s1 s2 s3
   exact ⟨(⟨b1,d1,b2,d2,b3,d3⟩,⟨z0,z1,z2,z3,z4,z5,l⟩),rfl,hs,hg,hck⟩)
 exact ⟨l,h1,h2,⟨h4,fun p hp=>(h3 p hp).2.1⟩,fun p hp=>(h3 p hp).1,fun p hp=>(h3 p hp).2.2⟩
end
end Go.Proofs.YtikelfmmldafpaaGreat.Ai
namespace Go.Proofs.YtikelfmmldafpaaGreat.Ai
open Go.RowKit
set_option linter.unusedVariables false
set_option linter.unusedSimpArgs false
theorem rep_of {K:Int} {Q n c:Nat} {A:Option Addr} {R:Nat→Prop} {w:World} (hr:Rows (cx K Q A n c) R w) {v:Value} (h:ValOk (cx K Q A n c) R w (true,[ii, .int .i64 0 K,ii,ii,ii,ii,ii, .sl 124, .sl 126, .sl 65, .sl 57,ii,ii]) v) :
  ∃ (a:LAd) (V:Option Addr) (d:Nat) (ps:List VtE) (r:Rp),v=Rp.val a V ps.length d r∧RpR w a V d ps r∧(0≤r.of∧r.of≤K)∧(r.log.cells.length≤1048576∧r.log.seats.length≤1048576∧r.log.ents.length≤1048576)∧ps.length≤1048576 ∧
   (∀ p∈ps,p.2.log.cells.length≤1048576∧p.2.log.seats.length≤1048576∧p.2.log.ents.length≤1048576)∧∀ p∈ps,CksOk (cx K Q A n c) R w votCells (VtE.enc p):=by
 obtain ⟨arr,rfl,h⟩:=h
 obtain ⟨hl,ht⟩:=h.at
 obtain ⟨l⟩:=arr
 simp only at hl ht
 have g:∀ j v,l[j]?=some v→∃ k,nth [ii,Ck.int .i64 0 K,ii,ii,ii,ii,ii, .sl 124, .sl 126, .sl 65, .sl 57,ii,ii] j=some k∧CkOk (cx K Q A n c) R w k v:=by
  intro j v hj
  have hlt:=(List.getElem?_eq_some_iff.1 hj).1
  rw [←hl] at hlt
  have hk:=List.getElem?_eq_getElem hlt
  exact ⟨_,by rw [nth_eq];exact hk,ht j _ v hk hj⟩
 match l,hl with
 | [v0,v1,v2,v3,v4,v5,v6,v7,v8,v9,v10,v11,v12],_ =>
  obtain ⟨z0,rfl⟩:=int_at (g 0 v0 rfl) rfl
  obtain ⟨k1,e1,f1⟩:=g 1 v1 rfl
  cases e1
  obtain ⟨z1,rfl,o1,o2⟩:=f1
  obtain ⟨z2,rfl⟩:=int_at (g 2 v2 rfl) rfl
  obtain ⟨z3,rfl⟩:=int_at (g 3 v3 rfl) rfl
  obtain ⟨z4,rfl⟩:=int_at (g 4 v4 rfl) rfl
  obtain ⟨z5,rfl⟩:=int_at (g 5 v5 rfl) rfl
  obtain ⟨z6,rfl⟩:=int_at (g 6 v6 rfl) rfl
  obtain ⟨b1,n1,d1,e1,rfl,s1⟩:=sl_at (g 7 v7 rfl) rfl
  obtain ⟨b2,n2,d2,e2,rfl,s2⟩:=sl_at (g 8 v8 rfl) rfl
  obtain ⟨b3,n3,d3,e3,rfl,s3⟩:=sl_at (g 9 v9 rfl) rfl
  obtain ⟨b4,n4,d4,e4,rfl,s4⟩:=sl_at (g 10 v10 rfl) rfl
  obtain ⟨z7,rfl⟩:=int_at (g 11 v11 rfl) rfl
  obtain ⟨z8,rfl⟩:=int_at (g 12 v12 rfl) rfl
  obtain ⟨lg,rfl,rfl,rfl,rfl,hs,hg⟩:=log_of hr z6 s1 s2 s3
  obtain ⟨ps,rfl,p2,p3,p4,p5⟩:=votes_of hr s4
  exact ⟨⟨b1,d1,b2,d2,b3,d3⟩,b4,d4,ps,⟨z0,z1,z2,z3,z4,z5,lg,ps.map Prod.snd,z7,z8⟩,rfl,⟨hg,p3,rfl⟩,⟨o1,o2⟩,hs,p2,p4,p5⟩
end Go.Proofs.YtikelfmmldafpaaGreat.Ai
namespace Go.Proofs.YtikelfmmldafpaaGreat.Ai
open Go.ChangeShapes Go.WideShapes Go.ChangeAt Go.RowKit Go.Sort
set_option linter.unusedVariables false
set_option linter.unusedSimpArgs false
def csS (K:Int):List (Bool×List Ck):=[(true,repCells K),(false,[ii]),(true,votCells)]
def atS (K:Int) (i:Nat):List At:=match (freshR s00 (csS K)).1[i]? with
 | some x=>x.2
 | none=>[]
def t_l7Start (K:Int):List (Nat×Ctr):=[(118,c_l1Max),(86,c_l3Copy),(9,c_LogEnd),(121,c_l1Min),(51,c_l6All K)]
def h_l7Start:List Hn:=[.loop [] [⟨0,[(25,1)]⟩,⟨1,[(25,1)]⟩,⟨2097152,[(25,-1)]⟩,⟨0,[(10,1),(25,-1)]⟩] [] ⟨0,[(10,1),(25,-1)]⟩, .join [⟨0,[(28,1)]⟩,⟨1,[(28,-1)]⟩], .join []]
def tmS (K:Int):List AV := .v (.agg (atS K 0))::one (.ptr 0 0)::one (.ptr 1 0)::one .nil::one (.ptr 2 0)::List.replicate 66 (one .unk)
def bxT (K:Int):List (Nat×List At):=[(33,atS K 0),(33,repZero.map zeroC),(57,atS K 2)]
def midS (K:Int):AS:={ (freshR s00 (csS K)).2 with tm:=tmS K,bx:=bxT K,fa:=[]++(freshR s00 (csS K)).2.fa }
theorem midS_n (K:Int):(midS K).n=(freshR s00 (csS K)).2.n:=by kernel_rfl
theorem l1_l7Start:left ⟨tb 1,t_l7Start 1,4,1,eqs⟩ Tryz.f94 (c_l7Start 1) ((atS 1 0).map symO) (sndC (sndC (bodyC Tryz.f94))) (midS 1) h_l7Start=true:=by kernel_rfl
theorem l3_l7Start:left ⟨tb 3,t_l7Start 3,4,1,eqs⟩ Tryz.f94 (c_l7Start 3) ((atS 3 0).map symO) (sndC (sndC (bodyC Tryz.f94))) (midS 3) h_l7Start=true:=by kernel_rfl
theorem l5_l7Start:left ⟨tb 5,t_l7Start 5,4,1,eqs⟩ Tryz.f94 (c_l7Start 5) ((atS 5 0).map symO) (sndC (sndC (bodyC Tryz.f94))) (midS 5) h_l7Start=true:=by kernel_rfl
theorem l_l7Start {K:Int} (hK:K=1∨K=3∨K=5):left ⟨tb K,t_l7Start K,4,1,eqs⟩ Tryz.f94 (c_l7Start K) ((atS K 0).map symO) (sndC (sndC (bodyC Tryz.f94))) (midS K) h_l7Start=true:=by
 rcases hK with rfl | rfl | rfl
 ·exact l1_l7Start
 ·exact l3_l7Start
 ·exact l5_l7Start
theorem kepts_start {K:Int} {Q n c:Nat} {A:Option Addr} (hK:K=1∨K=3∨K=5):Kepts (cx K Q A n c) (t_l7Start K):=⟨q_l1Max hK,q_l3Copy hK,q_LogEnd hK,q_l1Min hK,q_l6All hK,trivial⟩
abbrev vtZ3:Obj := .cells #[.int .i64 0, .int .i64 0, .int .i64 0, .int .i64 0, .int .i64 0, .int .i64 0, .int .i64 0, .slice none 0 0, .slice none 0 0, .slice none 0 0] 57
set_option maxRecDepth 100000 in
set_option maxHeartbeats 4000000 in
theorem s_l7Start {K:Int} {Q n c:Nat} {A:Option Addr} (hK:K=1∨K=3∨K=5) {R:Nat→Prop} {w:World} (hhp:Hp (cx K Q A n c) R w) {a:LAd} {V:Option Addr} {d:Nat} {ps:List VtE} {r:Rp} (hv:ValOk (cx K Q A n c) R w (true,repCells K) (Rp.val a V ps.length d r)) (hr:VsR w V d ps) (hl:ps.length≤1048576) (hs:LgS ps)
  (ht:∀ p∈ps,CksOk (cx K Q A n c) R w votCells (VtE.enc p)) (h6:0 < cnt2 6 (ps.map Prod.snd)) :
  Calls Tryz.prog 94 #[Rp.val a V ps.length d r] w (KPost (cx K Q A n c) (c_l7Start K) R w [Rp.val a V ps.length d r]):=by
 obtain ⟨b,hb,hB⟩:=f_l7Best ps h6
 have X0:Ext w ((w.alloc (Rp.obj a V ps.length d r)).alloc Rp.zobj):=ext_to (ext_alloc _ _) _
 have hr1:=hr.keep X0
 obtain ⟨ab,ao,hA,hrow⟩:=row_vote2 hr1.1 hb
 have HSl:=Hd (show (Value.slice V ps.length d) = .slice (some ⟨ab,ao,none⟩) ps.length d by rw [hA])
 have D1:=Hd (hOld (o:=Rp.zobj) (hNew (w:=w) (o:=Rp.obj a V ps.length d r) rfl))
 have D2:=Hd (hNew (w:=w.alloc (Rp.obj a V ps.length d r)) (o:=Rp.zobj) (k:=w.heap.size+1) (by simp))
 have HX0:=Hd X0
 have HRow:=Hd hrow
 have HBv:=Hd (show ∀ W,Ext ((w.alloc (Rp.obj a V ps.length d r)).alloc Rp.zobj) W→Calls Tryz.prog 133 #[.slice (some ⟨ab,ao,none⟩) ps.length d] W fun e w'=>e = .returned (.int .i64 (b:Int))∧Ext W w' from fun W h=>by
  have h5:=hB V d W (hr1.keep h) hs hl
  rw [HSl.out] at h5
  exact h5)
 have HP:=Hd hhp
 have HV:=Hd hv
 have HT:=Hd (ht _ (List.getElem_mem hb))
 clear X0 hr hr1 hrow hB hhp hv ht h6 hs hA
 go_enter Tryz.func94,Tryz.ntmps94
 refine wp_seq_k fun K0 hK0=>?_
 have H0:=Hd hK0
 clear hK0
 go_wp2_with fail
 refine H0.out _ _ ?_
 clear H0
 refine wp_seq_k fun K1 hK1=>?_
 have H1:=Hd hK1
 clear hK1
 (refine Rm.wp_region_mix' (R:=relE ((w.alloc (Rp.obj a V ps.length d r)).alloc Rp.zobj).heap.size) (fun _ _ _=>True) (fun _ _ _ _ _ hq=>hq) 8 (by first | exact Nat.le_refl _ | omega | (simp;omega)) (by kernel_rfl) (by kernel_rfl) ?_;simp only [Tc,Tz,Dc,Dz])
 (iterate 1 (refine Rm.wpMix_plain rfl rfl ?_;go_big_quiet_step (fail);refine wpQuiet_nil ?_))
 (refine Rm.wpMix_load1 (fun W9' h9=>show W9'.cell? _=some (.slice (some ⟨ab,ao,none⟩) ps.length d) from (show W9'.cell? _=some (.slice V ps.length d) from bx_cell (Ext.box h9 D1.out) 10).trans (congrArg some HSl.out)) rfl rfl rfl Tryz.underlying31 rfl ?_;simp only [Act.put,Sa,Sz,Ss])
 (iterate 1 (refine Rm.wpMix_plain rfl rfl ?_;go_big_quiet_step (fail);refine wpQuiet_nil ?_))
 (refine Rm.wpMix_load1 (fun W9' h9=>show W9'.cell? _=some (.slice (some ⟨ab,ao,none⟩) ps.length d) from (show W9'.cell? _=some (.slice V ps.length d) from bx_cell (Ext.box h9 D1.out) 10).trans (congrArg some HSl.out)) rfl rfl rfl Tryz.underlying31 rfl ?_;simp only [Act.put,Sa,Sz,Ss])
 (refine Rm.wpMix_det rfl rfl rfl (enters Tryz.func133 (by kernel_rfl) rfl) (fun W9' h9=>HBv.out W9' h9) rfl ?_;simp only [Act.put,Sa,Sz,Ss])
 (iterate 1 (refine Rm.wpMix_plain rfl rfl ?_;go_big_quiet_step (fail);refine wpQuiet_nil ?_))
 (refine Rm.wpMix_loadAgg (fun W9' h9=>HRow.out W9' h9) rfl rfl rfl Tryz.underlying57 (by kernel_rfl) ?_;simp only [Act.put,Sa,Sz,Ss])
 (refine Rm.wpMix_alloc (vtZ3) rfl (fun W=>by kernel_rfl) ?_;intro p5 hp5 hps5 hpi5;simp only [layVal,Act.put,Sa,Sz,Ss])
 refine Rm.wpMix_nil ?_
 rintro w2 ⟨h2,hz2⟩
 have x2:Ext ((w.alloc (Rp.obj a V ps.length d r)).alloc Rp.zobj) w2:=h2
 have hp5':((w.alloc (Rp.obj a V ps.length d r)).alloc Rp.zobj).heap.size≤p5:=hp5
 simp only [sz_alloc] at hp5'
 have HZ2:=Hd hz2
 have X2:=Hd x2
 clear h2 hz2 x2 hp5 hps5 hpi5 HRow HBv
 (go_wp2_with (with_reducible refine wl_stopS 57 ?_);refine stop_store (p5) (Vt.cs3 ps[b].1 ps[b].2) rfl rfl (HZ2.out) (by kernel_rfl) rfl (by simp [Value.oneCell']) ?_)
 intro w3 e3 k3
 have x3:Ext ((w.alloc (Rp.obj a V ps.length d r)).alloc Rp.zobj) w3:=ext_chg X2.out k3 (fun g hg=>by rw [Mi] at hg;simp only [sz_alloc];omega)
 have E1:=x3.box D1.out
 have E2:=x3.box D2.out
 have X3:=Ext.trans HX0.out x3
 clear k3 X2 HZ2 D1 D2 HX0 x3
 simp only [Act.put,Sa,Sz,Ss]
 refine H1.out _ _ ?_
 clear H1
 obtain ⟨gw,hp3⟩:=draw_turn HP.out (grown_of_ext X3) (HP.out.cur.ext X3)
 have gr:=gw.gr fun g hg=>HP.out.lt hg
 have hnR:∀ g,w.heap.size≤g→¬ R g:=fun g h1 h2=>absurd (HP.out.lt h2) (by omega)
 have hQ:Q < w.heap.size:=HP.out.cur.lt
 obtain ⟨σ,hz,st⟩:=lay_stt hp3 gw (fun q hq=>HP.out.lt hq) (cs:=csS K) (us:=[Rp.val a V ps.length d r, .int .i64 b, .agg (VtE.enc ps[b]).toArray]) ⟨HV.out.ext gr,⟨⟨_,rfl,by simp only [i64lo];omega,by simp only [i64hi];omega⟩,trivial⟩,⟨_,rfl,HT.out.gr gr⟩,trivial⟩ (by
  have h:(csS K).all (fun o=>o.2.all wfB)=true:=by rcases hK with rfl | rfl | rfl <;> kernel_rfl
  exact fun o ho k hk=>wfB_ok (List.all_eq_true.1 (List.all_eq_true.1 h o ho) k hk))
 refine left_ok (s:=midS K) (bp:=fun i=>if i=0 then w.heap.size else if i=1 then w.heap.size+1 else p5) (goods_of (baseK hK) (kepts_start hK) 4 1) rfl (show Q+1≤w.heap.size from hQ) (l_l7Start hK) (fun σ' q=>?_) (st (tmS K) (bxT K) [] _ _ rfl ?_ ?_ ?_)
 ·have h:=hz σ' (by rw [←midS_n];exact q)
  have e:((freshR s00 (csS K)).1.flatMap fun l=>l.2.map symO)=(atS K 0).map symO++(((atS K 1).map symO)++((atS K 2).map symO++[])):=by kernel_rfl
  rw [e,List.map_append] at h
  have e2:nums [Rp.val a V ps.length d r, .int .i64 b, .agg (VtE.enc ps[b]).toArray]=nums [Rp.val a V ps.length d r]++nums [.int .i64 b, .agg (VtE.enc ps[b]).toArray]:=by kernel_rfl
  rw [e2] at h
  exact (List.append_inj h (by kernel_rfl)).1
 ·intro i hi
  have hi:i < 3:=hi
  obtain rfl | rfl | rfl:i=0∨i=1∨i=2:=by omega
  ·exact ⟨Nat.le_refl _,hnR _ (Nat.le_refl _),show w.heap.size≠Q by omega⟩
  ·exact ⟨Nat.le_succ _,hnR _ (Nat.le_succ _),show w.heap.size+1≠Q by omega⟩
  ·exact ⟨show w.heap.size≤p5 by omega,hnR _ (show w.heap.size≤p5 by omega),show p5≠Q by omega⟩
 ·intro i j hi hj e
  have hi:i < 3:=hi
  have hj:j < 3:=hj
  split at e <;> split at e <;> (try split at e) <;> (try split at e) <;> omega
 ·rintro σ' bp' q1 q2 ⟨⟨arr1,y1,t1⟩,_,⟨arr3,y3,t3⟩,_⟩
  cases y1
  cases y3
  have b0:bp' 0=w.heap.size:=q2 0 (by show 0 < 3;omega)
  have b1:bp' 1=w.heap.size+1:=q2 1 (by show 1 < 3;omega)
  have b2:bp' 2=p5:=q2 2 (by show 2 < 3;omega)
  refine ⟨⟨⟨_,rfl,t1⟩, ?_, ?_,rfl, ?_,unk_all 66 _ rfl⟩,⟨⟨_,by rw [b0];exact E1,t1⟩,⟨_,by rw [b1];exact E2,zeros_ii (cs:=repZero) (by kernel_rfl)⟩,⟨_,by rw [b2];exact e3,t3⟩,trivial⟩,fun f hf=>by cases hf⟩
  ·show _=Value.pointer _
   rw [b0]
  ·show _=Value.pointer _
   rw [b1]
  ·show _=Value.pointer _
   rw [b2]
end Go.Proofs.YtikelfmmldafpaaGreat.Ai
