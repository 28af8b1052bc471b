/- A drawn run of a group: its size is drawn, the rest is the interpreter's. -/
import Derived.Test.YtikelfmmldafpaaGreatPk35
import Derived.Test.YtikelfmmldafpaaGreatPk1
namespace Go.Proofs.YtikelfmmldafpaaGreat.Ai
open Go.ChangeShapes Go.WideShapes Go.ChangeAt Go.RowKit Go.Sort
set_option linter.unusedVariables false
set_option linter.unusedSimpArgs false
theorem bodyPost_mono {P:Program} {f:Func} {R R':Ending→World→Prop} (h:∀ e w,R e w→R' e w):∀ e a w,bodyPost P f R e a w→bodyPost P f R' e a w:=by
 intro e a w hb
 cases e <;> simp only [bodyPost] at hb ⊢
 ·obtain ⟨h1,v,h2,h3⟩:=hb;exact ⟨h1,v,h2,h _ _ h3⟩
 ·obtain ⟨h1,v,h2,h3⟩:=hb;exact ⟨h1,v,h2,h _ _ h3⟩
 ·exact ⟨hb.1,h _ _ hb.2⟩
 ·exact h _ _ hb
def sndC:Code→Code | .seq _ b=>b | x=>x
def fstC:Code→Code | .seq a _=>a | x=>x
def opsC:Code→Array Oper | .region _ o _=>o | _=>#[]
def bodyC (f:Func):Code:=f.body.getD .skip
def restB (E:Env) (f:Func) (c:Ctr) (ys:List Sy) (ops:Array Oper) (k:Nat) (code:Code) (s:AS) (h:List Hn):Bool:=match steps E ops.toList (ops.toList.drop k) s with
 | some t=>left E f c ys code t h
 | none=>false
theorem restB_ok {C:Cx} {E:Env} {σ:Nat→Int} {bp:Nat→Nat} {R R1:Nat→Prop} {s:AS} {a:Act} {w w1:World} {f:Func} {c:Ctr} {ys:List Sy} {args:List Value} {ops:Array Oper} {k:Nat} (hG:Goods C E) (hm:C.P.follows .mixedOrders=true) (hB:C.B≤w.heap.size) {code:Code} {h:List Hn}
  (hl:restB E f c ys ops k code s h=true) (hz:∀ σ',Agr s.n σ' σ→ys.map (Sy.ev σ')=nums args) (st:Stt C w R σ bp R1 s a w1) {Q:Exit→Act→World→Prop} (hq:∀ a' w',code.wp C.P (bodyPost C.P f (KPost C c R w args)) a' w'→Q .normal a' w'):wpList C.P ops Q (ops.toList.drop k) a w1:=by
 unfold restB at hl
 split at hl
 ·rename_i t ht
  exact steps_sound hG hB st ht fun a' w' ⟨σ2,bp2,R2,g1,g2,g3,g4,g5⟩=>hq a' w' (left_ok hG hm hB hl (fun σ' q=>hz σ' ((q.less g2).trans g1)) g5)
 ·cases hl
def gCells:List Ck:=[ii, .sl 33,ii, .sl 102, .sl 185]
def c_l9DrawRun (K:Int):Ctr:=⟨[(false,[.cur]),(false,[ii])],[(true,gCells),(false,[.sl 137]),(true,gCells)],[⟨1000,[(1,-1)]⟩,⟨0,[(1,1)]⟩],[([],⟨-K,[(8,1)]⟩),([],⟨K,[(8,-1)]⟩),([],⟨-K,[(9,1)]⟩),([],⟨K,[(9,-1)]⟩)]⟩
def t_l9DrawRun (K:Int):List (Nat×Ctr):=[(103,c_NewGroup K),(70,c_l1Below),(105,c_l9DrawGo),(106,c_GroupDo K)]
def h_l9DrawRun (K:Int):List Hn:=[.loop [(3,0),(3,1),(3,2),(3,3),(3,4)] [⟨0,[(8,-1),(9,1)]⟩,⟨0,[(8,1),(9,-1)]⟩,⟨0,[(2,1),(8,1),(10,-1)]⟩,⟨0,[(9,1)]⟩,⟨1,[(9,1)]⟩,⟨2097152,[(9,-1)]⟩,⟨0,[(2,-1),(10,1)]⟩,⟨0,[(2,1),(10,-1)]⟩,⟨0,[(10,1)]⟩,⟨-K,[(10,1)]⟩,⟨K,[(10,-1)]⟩,⟨1,[(10,1)]⟩,⟨2097152,[(10,-1)]⟩,⟨0,[(2,1),(9,1),(10,-1)]⟩,⟨0,[(3,-1),(11,1)]⟩,⟨0,[(3,1),(11,-1)]⟩,⟨0,[(3,1),(9,1),(11,-1)]⟩,⟨0,[(2,-1),(3,1),(10,1),(11,-1)]⟩,⟨0,[(2,1),(3,-1),(10,-1),(11,1)]⟩,⟨0,[(7,1),(9,-1)]⟩] [] ⟨0,[(7,1),(9,-1)]⟩]
def midRun (K:Int):AS:=⟨one .cur::one (.num .i64 (var 0))::one .un::one .un::one (.ptr 0 0)::one .nil::one (.ptr 1 0)::(List.replicate 8 (one .un)++one .cur::one .unk::one (.num .i64 (var 1))::(List.replicate 31 (one .un)++[])),
 [(92,gCells.map zeroC),(92,gCells.map zeroC)],2,[⟨-K,[(1,1)]⟩,⟨K,[(1,-1)]⟩,⟨1000,[(0,-1)]⟩,⟨0,[(0,1)]⟩],[],[]⟩
theorem r1_l9DrawRun:restB ⟨tb 1,t_l9DrawRun 1,4,2,eqs⟩ Tryz.f67 (c_l9DrawRun 1) [.lin (cst 0), .lin (var 0)] (opsC (fstC (sndC (bodyC Tryz.f67)))) 3 (sndC (sndC (bodyC Tryz.f67))) (midRun 1) (h_l9DrawRun 1)=true:=by kernel_rfl
theorem r3_l9DrawRun:restB ⟨tb 3,t_l9DrawRun 3,4,2,eqs⟩ Tryz.f67 (c_l9DrawRun 3) [.lin (cst 0), .lin (var 0)] (opsC (fstC (sndC (bodyC Tryz.f67)))) 3 (sndC (sndC (bodyC Tryz.f67))) (midRun 3) (h_l9DrawRun 3)=true:=by kernel_rfl
theorem r5_l9DrawRun:restB ⟨tb 5,t_l9DrawRun 5,4,2,eqs⟩ Tryz.f67 (c_l9DrawRun 5) [.lin (cst 0), .lin (var 0)] (opsC (fstC (sndC (bodyC Tryz.f67)))) 3 (sndC (sndC (bodyC Tryz.f67))) (midRun 5) (h_l9DrawRun 5)=true:=by kernel_rfl
theorem r_l9DrawRun {K:Int} (hK:K=1∨K=3∨K=5):restB ⟨tb K,t_l9DrawRun K,4,2,eqs⟩ Tryz.f67 (c_l9DrawRun K) [.lin (cst 0), .lin (var 0)] (opsC (fstC (sndC (bodyC Tryz.f67)))) 3 (sndC (sndC (bodyC Tryz.f67))) (midRun K) (h_l9DrawRun K)=true:=by
 rcases hK with rfl | rfl | rfl
 ·exact r1_l9DrawRun
 ·exact r3_l9DrawRun
 ·exact r5_l9DrawRun
theorem un_rep {C:Cx} {σ:Nat→Int} {bp:Nat→Nat} {R:Nat→Prop} {w:World} {l:List AV} {vs:List Value} (h:TmOk C σ bp R w l vs):∀ n,TmOk C σ bp R w (List.replicate n (one .un)++l) (List.replicate n undef++vs)
 | 0=>h
 | n+1=>⟨rfl,un_rep h n⟩
theorem hp_none {K:Int} {Q n c:Nat} {A:Option Addr} {w:World} (hc:Cur w Q A n c):Hp (cx K Q A n c) (fun _=>False) w:=⟨fun _ h=>h.elim,hc,hc.lt,hc.lt⟩
theorem gw_none {K:Int} {Q n c:Nat} {A:Option Addr} {w w':World} (hg:w.grownBy w' (some Q)):Gw (cx K Q A n c) (fun _=>False) (fun _=>False) w w' :=
 ⟨hg.os,hg.tape,hg.output,hg.size,fun _ _=>Iff.rfl,fun g h1 _ h3=>hg.block g h1 fun e=>h3 (by cases e;rfl),fun _ h=>h.elim⟩
def gObj:Obj := .cells #[.int .i64 0, .slice none 0 0, .int .i64 0, .slice none 0 0, .slice none 0 0] 92
theorem mid_stt {K m:Int} {Q n c:Nat} {A:Option Addr} {w w1:World} {row:Obj} (h0:0≤m) (h1:m≤1000) (hK:0≤K∧K≤5) (hc:Cur w Q A n c) (hc1:Cur w1 Q A n c) (hg:(((w.alloc gObj).alloc gObj).alloc row).grownBy w1 (some Q)) (u:Value) :
  Stt (cx K Q A n c) w (fun _=>False) (fun i=>if i=0 then m else K) (fun i=>w.heap.size+i) (fun _=>False) (midRun K)
   ⟨(.pointer (some ⟨Q,0,none⟩) :: .int .i64 m::undef::undef :: .pointer (some ⟨w.heap.size,0,none⟩) :: .slice none 0 0 :: .pointer (some ⟨w.heap.size+1,0,none⟩)::(List.replicate 8 undef ++ .pointer (some ⟨Q,0,none⟩)::u :: .int .i64 K::(List.replicate 31 undef++[]))).toArray,[]⟩ w1:=by
 have hlt:=hc.lt
 have hgw:w.grownBy w1 (some Q):=⟨hg.os,hg.tape,hg.output,by have:=hg.size;simp at this;omega,fun k hk hne=>by
  rw [hg.block k (by simp;omega) hne,Below.heap_alloc _ _ _ (by simp;omega),Below.heap_alloc _ _ _ (by simp;omega),Below.heap_alloc _ _ _ hk]⟩
 have hsz:=hg.size
 simp at hsz
 refine ⟨fun σ' bp' q1 q2=>⟨?_, ?_, ?_⟩,⟨hp_none hc1,gw_none hgw,fun i hi=>⟨by omega,fun h=>h,by show w.heap.size+i≠Q;omega⟩,fun i j _ _ e=>by omega,rfl,fun q h=>h.elim⟩⟩
 ·have e0:σ' 0=m:=q1 0 (by show _ < 2;omega)
  have e1:σ' 1=K:=q1 1 (by show _ < 2;omega)
  have b0:bp' 0=w.heap.size:=q2 0 (by show _ < 2;omega)
  have b1:bp' 1=w.heap.size+1:=q2 1 (by show _ < 2;omega)
  have v0:AtOk (cx K Q A n c) σ' bp' (fun _=>False) w1 (.num .i64 (var 0)) (.int .i64 m):=by
   refine ⟨by rw [ev_var,e0], ?_, ?_⟩ <;> rw [ev_var,e0] <;> simp only [nat8,i64lo,i64hi] <;> omega
  have v1:AtOk (cx K Q A n c) σ' bp' (fun _=>False) w1 (.num .i64 (var 1)) (.int .i64 K):=by
   refine ⟨by rw [ev_var,e1], ?_, ?_⟩ <;> rw [ev_var,e1] <;> simp only [nat8,i64lo,i64hi] <;> omega
  have p0:AtOk (cx K Q A n c) σ' bp' (fun _=>False) w1 (.ptr 0 0) (.pointer (some ⟨w.heap.size,0,none⟩)):=by
   show _=Value.pointer _
   rw [b0]
  have p1:AtOk (cx K Q A n c) σ' bp' (fun _=>False) w1 (.ptr 1 0) (.pointer (some ⟨w.heap.size+1,0,none⟩)):=by
   show _=Value.pointer _
   rw [b1]
  have t1:TmOk (cx K Q A n c) σ' bp' (fun _=>False) w1 (List.replicate 31 (one .un)++[]) (List.replicate 31 undef++[]):=un_rep (l:=[]) (vs:=[]) trivial 31
  have t2:TmOk (cx K Q A n c) σ' bp' (fun _=>False) w1 (one .cur::one .unk::one (.num .i64 (var 1))::(List.replicate 31 (one .un)++[])) (.pointer (some ⟨Q,0,none⟩)::u :: .int .i64 K::(List.replicate 31 undef++[])):=⟨rfl,trivial,v1,t1⟩
  exact ⟨rfl,v0,rfl,rfl,p0,rfl,p1,un_rep t2 8⟩
 ·have b0:bp' 0=w.heap.size:=q2 0 (by show _ < 2;omega)
  have b1:bp' 1=w.heap.size+1:=q2 1 (by show _ < 2;omega)
  have hq0:w1.heap[w.heap.size]?=some gObj:=by
   rw [hg.block _ (by simp;omega) (by simp;omega),Below.heap_alloc _ _ _ (by simp;omega),Below.heap_alloc _ _ _ (by simp),heap_alloc_new]
  have hq1:w1.heap[w.heap.size+1]?=some gObj:=by
   have e:w.heap.size+1=(w.alloc gObj).heap.size:=by simp
   rw [hg.block _ (by simp) (by simp;omega),Below.heap_alloc _ _ _ (by simp),e,heap_alloc_new]
  have ls:LsOk (cx K Q A n c) σ' bp' (fun _=>False) w1 (gCells.map zeroC) [.int .i64 0, .slice none 0 0, .int .i64 0, .slice none 0 0, .slice none 0 0]:=zero_ok (cs:=gCells) (by
   intro k hk k' lo hi e
   simp only [gCells,List.mem_cons,List.not_mem_nil,or_false] at hk
   rcases hk with rfl | rfl | rfl | rfl | rfl <;> simp [ii] at e <;> (obtain ⟨rfl,_,_⟩:=e;simp [nat8,i64lo,i64hi]))
  exact ⟨⟨_,by rw [b0];exact hq0,ls⟩,⟨_,by rw [b1];exact hq1,ls⟩,trivial⟩
 ·have e0:σ' 0=m:=q1 0 (by show _ < 2;omega)
  have e1:σ' 1=K:=q1 1 (by show _ < 2;omega)
  refine ⟨fun f hf=>?_,fun x hx=>(by cases hx),fun x hx=>(by cases hx)⟩
  change f∈[(⟨-K,[(1,1)]⟩:Lin),⟨K,[(1,-1)]⟩,⟨1000,[(0,-1)]⟩,⟨0,[(0,1)]⟩] at hf
  simp only [List.mem_cons,List.not_mem_nil,or_false] at hf
  rcases hf with rfl | rfl | rfl | rfl <;> simp only [Lin.ev,tev,e0,e1] <;> omega
set_option maxRecDepth 100000 in
set_option maxHeartbeats 1000000 in
theorem d_l9DrawRun {Q n c:Nat} {A:Option Addr} {w:World} {m:Int} (hc:Cur w Q A n c) (h0:0≤m) (h1:m≤1000) (hk:∀ K,(K=1∨K=3∨K=5)→Kepts (cx K Q A n c) (t_l9DrawRun K)) :
  Calls Tryz.prog 67 #[.pointer (some ⟨Q,0,none⟩), .int .i64 m] w fun e w'=>∃ K,(K=1∨K=3∨K=5)∧KPost (cx K Q A n c) (c_l9DrawRun K) (fun _=>False) w [.pointer (some ⟨Q,0,none⟩), .int .i64 m] e w':=by
 have hlt:=hc.lt
 go_enter Tryz.func67,Tryz.ntmps67
 refine wp_seq_k fun K0 hK0=>?_
 have H0:=Hd hK0
 clear hK0
 go_wp2_with fail
 refine H0.out _ _ ?_
 clear H0
 refine wp_seq_k fun K1 hK1=>?_
 have H1:=Hd hK1
 clear hK1
 go_wp2_with fail
 have X3:Ext w (((w.alloc gObj).alloc gObj).alloc (.cells #[.int .i64 3, .int .i64 3, .int .i64 3, .int .i64 5, .int .i64 1] 3)):=Ext.trans (Ext.trans (ext_alloc _ _) (ext_alloc _ _)) (ext_alloc _ _)
 refine (Go.Proofs.YtikelfmmldafpaaGreat.c_l1PickInt Q A n c (w.heap.size+1+1) [3,3,3,5,1] _ (hc.ext X3) (by simp) (by simp) (by
  have e:w.heap.size+1+1=((w.alloc gObj).alloc gObj).heap.size:=by simp
  rw [e]
  exact heap_alloc_new _ _) (by omega)).mono ?_
 rintro e w1 ⟨x,hx,rfl,hc1,hg1⟩
 have hK:x=1∨x=3∨x=5:=by
  unfold OneOf at hx
  simp only [List.mem_cons,List.not_mem_nil,or_false] at hx
  omega
 rename_i hrest
 refine hrest _ _ ?_
 clear hrest
 have st:=mid_stt (row := .cells #[.int .i64 3, .int .i64 3, .int .i64 3, .int .i64 5, .int .i64 1] 3) h0 h1 (K:=x) (by omega) hc hc1 hg1 (.slice (some ⟨w.heap.size+1+1,0,none⟩) 5 5)
 refine restB_ok (k:=3) (goods_of (baseK hK) (hk x hK) 4 2) rfl (show Q+1≤w.heap.size from hlt) (r_l9DrawRun hK) (args:=[.pointer (some ⟨Q,0,none⟩), .int .i64 m]) (fun σ' q=>?_) st (fun a' w' h=>?_)
 ·have e0:σ' 0=m:=q 0 (by show _ < 2;omega)
  show [(cst 0).ev σ',(var 0).ev σ']=[0,m]
  rw [ev_cst,ev_var,e0]
 ·refine H1.out a' w' (wp_mono h (bodyPost_mono fun e w hp=>⟨x,hK,hp⟩))
end Go.Proofs.YtikelfmmldafpaaGreat.Ai
namespace Go.Proofs.YtikelfmmldafpaaGreat.Ai
open Go.RowKit
set_option linter.unusedVariables false
set_option linter.unusedSimpArgs false
theorem cells_of {C:Cx} {R:Nat→Prop} {w:World} {T g k0:Nat} {cs:Array Value} {fz:Nat×Nat} {α:Type} {enc:α→List Value} {P:α→Prop} (h0:0 < sz C T) (he:w.heap[g]?=some (.cells cs T fz)) (ht:∀ j v,cs[j]?=some v→∃ c,nth (rks C T) (j % sz C T)=some c∧CkOk C R w c v)
  (hdec:∀ vs:List Value,vs.length=sz C T→(∀ j v,vs[j]?=some v→∃ c,nth (rks C T) j=some c∧CkOk C R w c v)→∃ x,enc x=vs∧P x):∀ m,(k0+m) * sz C T≤cs.size→∃ l:List α,l.length=m∧(∀ x∈l,P x)∧∀ i (h:i < l.length) j u,(enc l[i])[j]?=some u→w.cell? ⟨g,k0 * sz C T+i * sz C T+j,none⟩=some u
 | 0,_=>⟨[],rfl,by simp,fun i h=>by simp at h⟩
 | m+1,hm=>by
  have e1:(k0+(m+1)) * sz C T=(k0+m) * sz C T+sz C T:=by rw [←Nat.add_assoc,Nat.add_mul,Nat.one_mul]
  have e2:(k0+m) * sz C T=k0 * sz C T+m * sz C T:=Nat.add_mul _ _ _
  obtain ⟨l,l1,l2,l3⟩:=cells_of (k0:=k0) h0 he ht hdec m (by omega)
  have hget:∀ j,j < sz C T→((cs.toList.drop ((k0+m) * sz C T)).take (sz C T))[j]?=cs[(k0+m) * sz C T+j]?:=by
   intro j hj
   rw [List.getElem?_take_of_lt hj,List.getElem?_drop,Array.getElem?_toList]
  have hlen:((cs.toList.drop ((k0+m) * sz C T)).take (sz C T)).length=sz C T:=by
   rw [List.length_take,List.length_drop,Array.length_toList]
   omega
  obtain ⟨x,hx,hP⟩:=hdec ((cs.toList.drop ((k0+m) * sz C T)).take (sz C T)) hlen (fun j v hj=>by
   have hjs:j < sz C T:=by
    have:=(List.getElem?_eq_some_iff.1 hj).1
    omega
   rw [hget j hjs] at hj
   obtain ⟨c,c1,c2⟩:=ht _ v hj
   rw [Nat.mul_comm,Nat.mul_add_mod,Nat.mod_eq_of_lt hjs] at c1
   exact ⟨c,c1,c2⟩)
  refine ⟨l++[x],by simp [l1],fun y hy=>?_,fun i hi j u hu=>?_⟩
  ·rcases List.mem_append.1 hy with hy | hy
   ·exact l2 y hy
   ·simp only [Mi] at hy
    rw [hy]
    exact hP
  ·by_cases him:i < l.length
   ·rw [List.getElem_append_left him] at hu
    exact l3 i him j u hu
   ·have him2:i=m:=by simp at hi;omega
    subst him2
    rw [List.getElem_append_right (by omega)] at hu
    simp only [l1,Nat.sub_self,List.getElem_cons_zero] at hu
    rw [hx] at hu
    have hjs:j < sz C T:=by
     have:=(List.getElem?_eq_some_iff.1 hu).1
     omega
    rw [hget j hjs,e2] at hu
    simp only [World.cell?,he]
    exact hu
theorem rd_of {C:Cx} {R:Nat→Prop} {w:World} (hr:∀ g,R g→RowOk C R w g) {T:Nat} {a:Option Addr} {m c:Nat} {n:Int} (h:SlOk C R w T (.slice a m c) n) {α:Type} {enc:α→List Value} {P:α→Prop}
  (hdec:∀ vs:List Value,vs.length=sz C T→(∀ j v,vs[j]?=some v→∃ c,nth (rks C T) j=some c∧CkOk C R w c v)→∃ x,enc x=vs∧P x):∃ l:List α,l.length=m∧l.length≤1048576∧(∀ x∈l,P x)∧Go.Proofs.YtikelfmmldafpaaGreat.Rd enc (sz C T) w a c l:=by
 obtain ⟨a',m',c',e,hn,hL,hmc,hrow⟩:=h
 cases e
 have hLIM:LIM=1048576:=rfl
 rcases hrow with ⟨rfl,rfl⟩ | ⟨g,k0,rfl,hRg,cs,fz,he,hsz⟩
 ·obtain rfl:m=0:=by omega
  exact ⟨[],rfl,by simp,by simp,Nat.le_refl _,Nat.zero_le _,fun h=>by simp at h⟩
 ·obtain ⟨_,_,cs',T',fz',h3,h4,h5,⟨k',hk',hks⟩,h7⟩:=hr g hRg
  rw [he] at h3
  simp only [Option.some.injEq,Obj.cells.injEq] at h3
  obtain ⟨rfl,rfl,rfl⟩:=h3
  have hle:(k0+m) * sz C T≤cs.size:=Nat.le_trans (Nat.mul_le_mul_right _ (by omega)) hsz
  obtain ⟨l,l1,l2,l3⟩:=cells_of (k0:=k0) h4 he h7 hdec m hle
  have hcap:k0+c≤k':=by
   rw [hks] at hsz
   exact Nat.le_of_mul_le_mul_right hsz h4
  refine ⟨l,l1,by omega,l2,by omega, ?_,fun _=>⟨g,k0 * sz C T,rfl,lt_of_some he,l3⟩⟩
  show c≤2 ^ 63 - 1
  omega
def Rows (C:Cx) (R:Nat→Prop) (w:World):Prop:=∀ g,R g→RowOk C R w g
theorem Rows.keep {C:Cx} {R:Nat→Prop} {w w':World} (h:Rows C R w) (hs:∀ g,R g→w'.heap[g]?=w.heap[g]?):Rows C R w'∧Gr R R w w':=by
 have gr:Gr R R w w':=⟨fun _ h=>h,fun g hg cs T fz e=>⟨cs,fz,by rw [hs g hg];exact e,rfl⟩⟩
 refine ⟨fun g hg=>?_,gr⟩
 obtain ⟨h1,h2,cs,T,fz,h3,h4,h5,h6,h7⟩:=h g hg
 refine ⟨h1,h2,cs,T,fz,by rw [hs g hg];exact h3,h4,h5,h6,fun j v hj=>?_⟩
 obtain ⟨k,e1,e2⟩:=h7 j v hj
 exact ⟨k,e1,e2.gr gr⟩
theorem CksOk.gr {C:Cx} {R R':Nat→Prop} {w w':World} (k:Gr R R' w w'):∀ {l:List Ck} {vs:List Value},CksOk C R w l vs→CksOk C R' w' l vs
 | [],[],_=>trivial
 | [],_::_,h=>h.elim
 | _::_,[],h=>h.elim
 | c::l,v::r,h=>⟨h.1.gr k,CksOk.gr k h.2⟩
end Go.Proofs.YtikelfmmldafpaaGreat.Ai
namespace Go.Proofs.YtikelfmmldafpaaGreat.Ai
open Go.RowKit
set_option linter.unusedVariables false
set_option linter.unusedSimpArgs false
def s00:AS:=⟨[],[],0,[],[],[]⟩
theorem lay_stt {C:Cx} {R R1:Nat→Prop} {w W:World} (hp:Hp C R1 W) (gw:Gw C R R1 w W) (r0:∀ q,R q→q < w.heap.size) {cs:List (Bool×List Ck)} {us:List Value} (hv:ValsOk C R1 W cs us) (hw:∀ c∈cs,∀ k∈c.2,Ckwf k) :
  ∃ σ,(∀ σ',Agr (freshR s00 cs).2.n σ' σ→((freshR s00 cs).1.flatMap fun l=>l.2.map symO).map (Sy.ev σ')=nums us) ∧
   ∀ (tm:List AV) (bx:List (Nat×List At)) (fa:List Lin) (bp:Nat→Nat) (a:Act),a.defers=[]→(∀ i,i < bx.length→w.heap.size≤bp i∧¬ R1 (bp i)∧bp i≠C.pc)→(∀ i j,i < bx.length→j < bx.length→bp i=bp j→i=j) →
    (∀ σ' bp',Agr (freshR s00 cs).2.n σ' σ→(∀ i,i < bx.length→bp' i=bp i)→TpOk C σ' bp' R1 W (freshR s00 cs).1 us→TmOk C σ' bp' R1 W tm a.tmps.toList∧BxOk C σ' bp' R1 W 0 bx∧∀ f∈fa,0≤f.ev σ') →
    Stt C w R σ bp R1 { (freshR s00 cs).2 with tm:=tm,bx:=bx,fa:=fa++(freshR s00 cs).2.fa } a W:=by
 have h0:Stt C w R (fun _=>0) (fun _=>0) R1 s00 ⟨#[],[]⟩ W:=⟨fun σ' bp' _ _=>⟨trivial,trivial,⟨by simp [s00],by simp [s00],by simp [s00]⟩⟩,⟨hp,gw,fun i hi=>by simp [s00] at hi,fun i j hi=>by simp [s00] at hi,rfl,r0⟩⟩
 obtain ⟨σ,ag,nn,t1,b1,st,k⟩:=freshR_num cs us h0 hv hw
 refine ⟨σ,fun σ' q=>(k σ' (fun _=>0) q).2,fun tm bx fa bp a hd ho hi hf=>⟨fun σ' bp' q1 q2=>?_,⟨hp,gw,ho,hi,hd,r0⟩⟩⟩
 have f1:=(st.st σ' bp' q1 (fun i hi=>by rw [b1] at hi;simp [s00] at hi)).fs
 obtain ⟨g1,g2,g3⟩:=hf σ' bp' q1 q2 (k σ' bp' q1).1
 exact ⟨g1,g2,⟨fun f hf=>(List.mem_append.1 hf).elim (g3 f) (f1.fa f),f1.lt,f1.cf⟩⟩
theorem unk_all {C:Cx} {σ:Nat→Int} {bp:Nat→Nat} {R:Nat→Prop} {w:World}:∀ (n:Nat) (vs:List Value),vs.length=n→TmOk C σ bp R w (List.replicate n (one .unk)) vs
 | 0,[],_=>trivial
 | 0,_::_,h=>by simp at h
 | _+1,[],h=>by simp at h
 | n+1,_::r,h=>⟨trivial,unk_all n r (by simpa using h)⟩
theorem tm_app {C:Cx} {σ:Nat→Int} {bp:Nat→Nat} {R:Nat→Prop} {w:World}:∀ {l l2:List AV} {vs vs2:List Value},TmOk C σ bp R w l vs→TmOk C σ bp R w l2 vs2→TmOk C σ bp R w (l++l2) (vs++vs2)
 | [],_,[],_,_,k=>k
 | [],_,_::_,_,h,_=>h.elim
 | _::_,_,[],_,h,_=>h.elim
 | _::_,_,_::_,_,h,k=>⟨h.1,tm_app h.2 k⟩
theorem ValOk.ext {C:Cx} {R R':Nat→Prop} {w w':World} {c:Bool×List Ck} {v:Value} (h:ValOk C R w c v) (k:Gr R R' w w'):ValOk C R' w' c v:=by
 unfold ValOk at *
 split at h
 ·obtain ⟨a,e,h⟩:=h
  exact ⟨a,e,h.gr k⟩
 ·exact h.gr k
theorem exec_then {C:Cx} {E:Env} {w0:World} {R0:Nat→Prop} (hG:Goods C E) (hB:C.B≤w0.heap.size) (hm:C.P.follows .mixedOrders=true) {c d:Code} {s:AS} {h h':List Hn} {r:Res} (hex:exec E c s h=some (r,h')) (hx:r.x.isEmpty=true) (hr:r.r.isEmpty=true) {σ:Nat→Int} {bp:Nat→Nat} {R:Nat→Prop} {a:Act} {w:World} (st:Stt C w0 R0 σ bp R s a w)
  {Q:Exit→Act→World→Prop} (k:∀ t∈r.n,∀ a' w',Nx C w0 R0 σ bp s t a' w'→d.wp C.P Q a' w'):(Code.seq c d).wp C.P Q a w:=by
 refine wp_seq (wp_mono (exec_sound hG hB hm c s h _ r hex σ bp R a w st) fun e a' w' he=>?_)
 cases e <;> simp only [Post,Exit.then] at he ⊢
 ·obtain ⟨t,ht,nx⟩:=he
  exact k t ht a' w' nx
 ·obtain ⟨p,hp,_⟩:=he
  rw [List.isEmpty_iff.1 hx] at hp
  cases hp
 ·obtain ⟨t,ht,_⟩:=he
  rw [List.isEmpty_iff.1 hr] at ht
  cases ht
def line3 (E:Env) (a b c:Code) (s:AS) (f:AS→Bool):Bool:=match exec E a s [] with
 | some (r,_)=>r.x.isEmpty && r.r.isEmpty && r.n.all fun s=>match exec E b s [] with
  | some (r,_)=>r.x.isEmpty && r.r.isEmpty && r.n.all fun s=>match exec E c s [] with
   | some (r,_)=>r.x.isEmpty && r.r.isEmpty && r.n.all f
   | none=>false
  | none=>false
 | none=>false
theorem line3_ok {C:Cx} {E:Env} {w0:World} {R0:Nat→Prop} (hG:Goods C E) (hB:C.B≤w0.heap.size) (hm:C.P.follows .mixedOrders=true) {c1 c2 c3 d:Code} {s:AS} {f:AS→Bool} (hl:line3 E c1 c2 c3 s f=true) {σ:Nat→Int} {bp:Nat→Nat} {R:Nat→Prop} {a:Act} {w:World} (st:Stt C w0 R0 σ bp R s a w)
  {Q:Exit→Act→World→Prop} (k:∀ t,f t=true→∀ a' w' σ' bp' R',Stt C w0 R0 σ' bp' R' t a' w'→d.wp C.P Q a' w'):(Code.seq c1 (.seq c2 (.seq c3 d))).wp C.P Q a w:=by
 unfold line3 at hl
 split at hl
 ·rename_i r1 h1 e1
  simp only [Bool.and_eq_true] at hl
  refine exec_then hG hB hm e1 hl.1.1 hl.1.2 st fun t1 m1 a1 w1 ⟨_,_,_,_,_,_,_,st1⟩=>?_
  have hl:=List.all_eq_true.1 hl.2 t1 m1
  split at hl
  ·rename_i r2 h2 e2
   simp only [Bool.and_eq_true] at hl
   refine exec_then hG hB hm e2 hl.1.1 hl.1.2 st1 fun t2 m2 a2 w2 ⟨_,_,_,_,_,_,_,st2⟩=>?_
   have hl:=List.all_eq_true.1 hl.2 t2 m2
   split at hl
   ·rename_i r3 h3 e3
    simp only [Bool.and_eq_true] at hl
    exact exec_then hG hB hm e3 hl.1.1 hl.1.2 st2 fun t3 m3 a3 w3 ⟨_,_,_,_,_,_,_,st3⟩=>k t3 (List.all_eq_true.1 hl.2 t3 m3) a3 w3 _ _ _ st3
   ·cases hl
  ·cases hl
 ·cases hl
def retB (E:Env) (f:Func) (c:Ctr) (ys:List Sy) (ops:Array Oper) (k:Nat) (code:Code) (s:AS):Bool:=match steps E ops.toList (ops.toList.drop k) s with
 | some t=>(match exec E code t [] with
  | some (r,[])=>r.x.isEmpty && r.n.isEmpty && r.r.all (endOk E f c ys)
  | _=>false)
 | none=>false
theorem retB_ok {C:Cx} {E:Env} {σ:Nat→Int} {bp:Nat→Nat} {R R1:Nat→Prop} {s:AS} {a:Act} {w w1:World} {f:Func} {c:Ctr} {ys:List Sy} {args:List Value} {ops:Array Oper} {k:Nat} (hG:Goods C E) (hm:C.P.follows .mixedOrders=true) (hB:C.B≤w.heap.size) {code:Code}
  (hl:retB E f c ys ops k code s=true) (hz:∀ σ',Agr s.n σ' σ→ys.map (Sy.ev σ')=nums args) (st:Stt C w R σ bp R1 s a w1) {Q Q':Exit→Act→World→Prop} (hq:∀ a' w',bodyPost C.P f (KPost C c R w args) .ret a' w'→Q' .ret a' w') (hk:∀ a' w',code.wp C.P Q' a' w'→Q .normal a' w'):wpList C.P ops Q (ops.toList.drop k) a w1:=by
 unfold retB at hl
 split at hl
 ·rename_i t ht
  refine steps_sound hG hB st ht fun a' w' ⟨σ2,bp2,R2,g1,g2,g3,g4,g5⟩=>hk a' w' ?_
  split at hl
  ·rename_i r hex
   simp only [Bool.and_eq_true] at hl
   refine wp_mono (exec_sound hG hB hm code t [] _ r hex _ _ _ a' w' g5) fun e a2 w2 he=>?_
   cases e <;> simp only [Post] at he
   ·obtain ⟨u,hu,_⟩:=he
    rw [List.isEmpty_iff.1 hl.1.2] at hu
    cases hu
   ·obtain ⟨p,hp,_⟩:=he
    rw [List.isEmpty_iff.1 hl.1.1] at hp
    cases hp
   ·obtain ⟨u,hu,nx⟩:=he
    exact hq a2 w2 (fin_of hG.toGood (fun σ' q=>hz σ' ((q.less g2).trans g1)) nx (List.all_eq_true.1 hl.2 u hu))
  ·cases hl
 ·cases hl
end Go.Proofs.YtikelfmmldafpaaGreat.Ai
