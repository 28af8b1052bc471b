/- A drawn run of a group: its size is drawn, the rest is the interpreter's. -/
import Derived.Test.YtckfjploafhenaaGreatPk17
set_option maxRecDepth 100000
set_option maxHeartbeats 16000000
set_option linter.unusedVariables false
set_option linter.unusedSimpArgs false
namespace Go.Proofs.YtckfjploafhenaaGreat.Ai
open Go.ChangeShapes Go.WideShapes Go.ChangeAt Go.RowKit Go.Sort
theorem zg7 {P:Program} {f:Func} {R R':Ending->World->Prop} (h:∀ e w,R e w->R' e w):∀ e a w,bodyPost P f R e a w->bodyPost P f R' e a w:=by
 intro e a w hb;cases e <;> simp only [bodyPost] at hb ⊢
 ·obtain ⟨h1,v,h2,h3⟩:=hb;exact ⟨h1,v,h2,h _ _ h3⟩
 ·obtain ⟨h1,v,h2,h3⟩:=hb;exact ⟨h1,v,h2,h _ _ h3⟩
 ·exact ⟨hb.1,h _ _ hb.2⟩
 ·exact h _ _ hb
def sndC:Code->Code | .seq _ b=>b | x=>x
def fstC:Code->Code | .seq a _=>a | x=>x
def opsC:Code->Array Oper | .region _ o _=>o | _=>#[]
def bodyC (f:Func):Code:=f.body.getD .skip
def restB (E:Env) (f:Func) (c:Ctr) (ys:List Sy) (ops:Array Oper) (k:Nat) (code:Code) (s:AS) (h:List Hn):Bool:=match steps E ops.toList (ops.toList.drop k) s with
 | some t=>left E f c ys code t h
 | none=>false
theorem restB_ok {C:Cx} {E:Env} {σ:Nat->Int} {bp:Nat->Nat} {R R1:Nat->Prop} {s:AS} {a:Act} {w w1:World} {f:Func} {c:Ctr} {ys:List Sy} {args:List Value} {ops:Array Oper} {k:Nat} (hG:Goods C E) (hm:C.P.follows .mixedOrders=true) (hB:C.B<=w.heap.size) {code:Code} {h:List Hn}
  (hl:restB E f c ys ops k code s h=true) (hz:∀ σ',Agr s.n σ' σ->ys.map (Sy.ev σ')=nums args) (st:Stt C w R σ bp R1 s a w1) {Q:Exit->Act->World->Prop} (hq:∀ a' w',code.wp C.P (bodyPost C.P f (KPost C c R w args)) a' w'->Q .normal a' w'):wpList C.P ops Q (ops.toList.drop k) a w1:=by
 unfold restB at hl;split at hl
 ·rename_i t ht;exact zg8 hG hB st ht fun a' w' ⟨σ2,bp2,R2,g1,g2,g3,g4,g5⟩=>hq a' w' (left_ok hG hm hB hl (fun σ' q=>hz σ' ((q.less g2).trans g1)) g5)
 ·cases hl
def gCells:List Ck:=[ii, .sl 33,ii, .sl 91, .sl 194]
def zay (K:Int):Ctr:=⟨[(false,[.cur]),(false,[ii])],[(true,gCells),(false,[.sl 123]),(true,gCells)],[⟨1000,[(1,-1)]⟩,⟨0,[(1,1)]⟩],[([],⟨-K,[(8,1)]⟩),([],⟨K,[(8,-1)]⟩),([],⟨-K,[(9,1)]⟩),([],⟨K,[(9,-1)]⟩)]⟩
def zci (K:Int):List (Nat×Ctr):=[(73,zec K),(42,c_l1Below),(75,zea),(76,zfh K)]
def zfy (K:Int):List Hn:=[.loop [(3,0),(3,1),(3,2),(3,3),(3,4)] [⟨0,[(8,-1),(9,1)]⟩,⟨0,[(8,1),(9,-1)]⟩,⟨0,[(2,1),(8,1),(10,-1)]⟩,⟨0,[(9,1)]⟩,⟨1,[(9,1)]⟩,⟨2097152,[(9,-1)]⟩,⟨0,[(2,-1),(10,1)]⟩,⟨0,[(2,1),(10,-1)]⟩,⟨0,[(10,1)]⟩,⟨-K,[(10,1)]⟩,⟨K,[(10,-1)]⟩,⟨1,[(10,1)]⟩,⟨2097152,[(10,-1)]⟩,⟨0,[(2,1),(9,1),(10,-1)]⟩,⟨0,[(3,-1),(11,1)]⟩,⟨0,[(3,1),(11,-1)]⟩,⟨0,[(3,1),(9,1),(11,-1)]⟩,⟨0,[(2,-1),(3,1),(10,1),(11,-1)]⟩,⟨0,[(2,1),(3,-1),(10,-1),(11,1)]⟩,⟨0,[(7,1),(9,-1)]⟩] [] ⟨0,[(7,1),(9,-1)]⟩]
def midRun (K:Int):AS:=⟨one .cur::one (.num .i64 (var 0))::one .un::one .un::one (.ptr 0 0)::one .nil::one (.ptr 1 0)::(List.replicate 8 (one .un)++one .cur::one .unk::one (.num .i64 (var 1))::(List.replicate 31 (one .un)++[])),
 [(81,gCells.map zeroC),(81,gCells.map zeroC)],2,[⟨-K,[(1,1)]⟩,⟨K,[(1,-1)]⟩,⟨1000,[(0,-1)]⟩,⟨0,[(0,1)]⟩],[],[]⟩
theorem r1_l9DrawRun:restB ⟨tb 1,zci 1,4,2,eqs⟩ Tryz.f39 (zay 1) [.lin (cst 0), .lin (var 0)] (opsC (fstC (sndC (bodyC Tryz.f39)))) 3 (sndC (sndC (bodyC Tryz.f39))) (midRun 1) (zfy 1)=true:=by kernel_rfl
theorem r3_l9DrawRun:restB ⟨tb 3,zci 3,4,2,eqs⟩ Tryz.f39 (zay 3) [.lin (cst 0), .lin (var 0)] (opsC (fstC (sndC (bodyC Tryz.f39)))) 3 (sndC (sndC (bodyC Tryz.f39))) (midRun 3) (zfy 3)=true:=by kernel_rfl
theorem r5_l9DrawRun:restB ⟨tb 5,zci 5,4,2,eqs⟩ Tryz.f39 (zay 5) [.lin (cst 0), .lin (var 0)] (opsC (fstC (sndC (bodyC Tryz.f39)))) 3 (sndC (sndC (bodyC Tryz.f39))) (midRun 5) (zfy 5)=true:=by kernel_rfl
theorem r_l9DrawRun {K:Int} (hK:K=1\/K=3\/K=5):restB ⟨tb K,zci K,4,2,eqs⟩ Tryz.f39 (zay K) [.lin (cst 0), .lin (var 0)] (opsC (fstC (sndC (bodyC Tryz.f39)))) 3 (sndC (sndC (bodyC Tryz.f39))) (midRun K) (zfy K)=true:=by
 rcases hK with rfl | rfl | rfl
 ·exact r1_l9DrawRun
 ·exact r3_l9DrawRun
 ·exact r5_l9DrawRun
theorem un_rep {C:Cx} {σ:Nat->Int} {bp:Nat->Nat} {R:Nat->Prop} {w:World} {l:List AV} {vs:List Value} (h:TmOk C σ bp R w l vs):∀ n,TmOk C σ bp R w (List.replicate n (one .un)++l) (List.replicate n undef++vs)
 | 0=>h
 | n+1=>⟨rfl,un_rep h n⟩
theorem hp_none {K:Int} {Q n c:Nat} {A:Option Addr} {w:World} (hc:Cur w Q A n c):Hp (cx K Q A n c) (fun _=>False) w:=⟨fun _ h=>h.elim,hc,hc.lt,hc.lt⟩
theorem gw_none {K:Int} {Q n c:Nat} {A:Option Addr} {w w':World} (hg:w.grownBy w' (some Q)):Gw (cx K Q A n c) (fun _=>False) (fun _=>False) w w' :=
 ⟨hg.os,hg.tape,hg.output,hg.size,fun _ _=>Iff.rfl,fun g h1 _ h3=>hg.block g h1 fun e=>h3 (by cases e;rfl),fun _ h=>h.elim⟩
def gObj:Obj := .cells #[.int .i64 0, .slice none 0 0, .int .i64 0, .slice none 0 0, .slice none 0 0] 81
theorem mid_stt {K m:Int} {Q n c:Nat} {A:Option Addr} {w w1:World} {row:Obj} (h0:0<=m) (h1:m<=1000) (hK:0<=K/\K<=5) (hc:Cur w Q A n c) (hc1:Cur w1 Q A n c) (hg:(((w.alloc gObj).alloc gObj).alloc row).grownBy w1 (some Q)) (u:Value) :
  Stt (cx K Q A n c) w (fun _=>False) (fun i=>if i=0 then m else K) (fun i=>w.heap.size+i) (fun _=>False) (midRun K)
   ⟨(.pointer (some ⟨Q,0,none⟩) :: .int .i64 m::undef::undef :: .pointer (some ⟨w.heap.size,0,none⟩) :: .slice none 0 0 :: .pointer (some ⟨w.heap.size+1,0,none⟩)::(List.replicate 8 undef ++ .pointer (some ⟨Q,0,none⟩)::u :: .int .i64 K::(List.replicate 31 undef++[]))).toArray,[]⟩ w1:=by
 have hlt:=hc.lt
 have hgw:w.grownBy w1 (some Q):=⟨hg.os,hg.tape,hg.output,by have:=hg.size;simp at this;omega,fun k hk hne=>by
  rw [hg.block k (by simp;omega) hne,Below.heap_alloc _ _ _ (by simp;omega),Below.heap_alloc _ _ _ (by simp;omega),Below.heap_alloc _ _ _ hk]⟩
 have hsz:=hg.size;simp at hsz;refine ⟨fun σ' bp' q1 q2=>⟨?_, ?_, ?_⟩,⟨hp_none hc1,gw_none hgw,fun i hi=>⟨by omega,fun h=>h,by show w.heap.size+i≠Q;omega⟩,fun i j _ _ e=>by omega,rfl,fun q h=>h.elim⟩⟩
 ·have e0:σ' 0=m:=q1 0 (by show _ < 2;omega)
  have e1:σ' 1=K:=q1 1 (by show _ < 2;omega)
  have b0:bp' 0=w.heap.size:=q2 0 (by show _ < 2;omega)
  have b1:bp' 1=w.heap.size+1:=q2 1 (by show _ < 2;omega)
  have v0:AtOk (cx K Q A n c) σ' bp' (fun _=>False) w1 (.num .i64 (var 0)) (.int .i64 m):=by
   refine ⟨by rw [zes,e0], ?_, ?_⟩ <;> rw [zes,e0] <;> simp only [nat8,i64lo,i64hi] <;> omega
  have v1:AtOk (cx K Q A n c) σ' bp' (fun _=>False) w1 (.num .i64 (var 1)) (.int .i64 K):=by
   refine ⟨by rw [zes,e1], ?_, ?_⟩ <;> rw [zes,e1] <;> simp only [nat8,i64lo,i64hi] <;> omega
  have p0:AtOk (cx K Q A n c) σ' bp' (fun _=>False) w1 (.ptr 0 0) (.pointer (some ⟨w.heap.size,0,none⟩)):=by
   show _=Value.pointer _;rw [b0]
  have p1:AtOk (cx K Q A n c) σ' bp' (fun _=>False) w1 (.ptr 1 0) (.pointer (some ⟨w.heap.size+1,0,none⟩)):=by
   show _=Value.pointer _;rw [b1]
  have t1:TmOk (cx K Q A n c) σ' bp' (fun _=>False) w1 (List.replicate 31 (one .un)++[]) (List.replicate 31 undef++[]):=un_rep (l:=[]) (vs:=[]) trivial 31
  have t2:TmOk (cx K Q A n c) σ' bp' (fun _=>False) w1 (one .cur::one .unk::one (.num .i64 (var 1))::(List.replicate 31 (one .un)++[])) (.pointer (some ⟨Q,0,none⟩)::u :: .int .i64 K::(List.replicate 31 undef++[])):=⟨rfl,trivial,v1,t1⟩
  exact ⟨rfl,v0,rfl,rfl,p0,rfl,p1,un_rep t2 8⟩
 ·have b0:bp' 0=w.heap.size:=q2 0 (by show _ < 2;omega)
  have b1:bp' 1=w.heap.size+1:=q2 1 (by show _ < 2;omega)
  have hq0:w1.heap[w.heap.size]?=some gObj:=by
   rw [hg.block _ (by simp;omega) (by simp;omega),Below.heap_alloc _ _ _ (by simp;omega),Below.heap_alloc _ _ _ (by simp),heap_alloc_new]
  have hq1:w1.heap[w.heap.size+1]?=some gObj:=by
   have e:w.heap.size+1=(w.alloc gObj).heap.size:=by simp
   rw [hg.block _ (by simp) (by simp;omega),Below.heap_alloc _ _ _ (by simp),e,heap_alloc_new]
  have ls:LsOk (cx K Q A n c) σ' bp' (fun _=>False) w1 (gCells.map zeroC) [.int .i64 0, .slice none 0 0, .int .i64 0, .slice none 0 0, .slice none 0 0]:=zero_ok (cs:=gCells) (by
   intro k hk k' lo hi e;simp only [gCells,List.mem_cons,List.not_mem_nil,or_false] at hk
   rcases hk with rfl | rfl | rfl | rfl | rfl <;> simp [ii] at e <;> (obtain ⟨rfl,_,_⟩:=e;simp [nat8,i64lo,i64hi]))
  exact ⟨⟨_,by rw [b0];exact hq0,ls⟩,⟨_,by rw [b1];exact hq1,ls⟩,trivial⟩
 ·have e0:σ' 0=m:=q1 0 (by show _ < 2;omega)
  have e1:σ' 1=K:=q1 1 (by show _ < 2;omega)
  refine ⟨fun f hf=>?_,fun x hx=>(by cases hx),fun x hx=>(by cases hx)⟩
  change f∈[(⟨-K,[(1,1)]⟩:Lin),⟨K,[(1,-1)]⟩,⟨1000,[(0,-1)]⟩,⟨0,[(0,1)]⟩] at hf;simp only [List.mem_cons,List.not_mem_nil,or_false] at hf;rcases hf with rfl | rfl | rfl | rfl <;> simp only [Lin.ev,tev,e0,e1] <;> omega
theorem d_l9DrawRun {Q n c:Nat} {A:Option Addr} {w:World} {m:Int} (hc:Cur w Q A n c) (h0:0<=m) (h1:m<=1000) (hk:∀ K,(K=1\/K=3\/K=5)->Kepts (cx K Q A n c) (zci K)) :
  Calls Tryz.prog 39 #[.pointer (some ⟨Q,0,none⟩), .int .i64 m] w fun e w'=>∃ K,(K=1\/K=3\/K=5)/\KPost (cx K Q A n c) (zay K) (fun _=>False) w [.pointer (some ⟨Q,0,none⟩), .int .i64 m] e w':=by
 have hlt:=hc.lt
 go_enter Tryz.func39,Tryz.ntmps39
 refine wp_seq_k fun K0 hK0=>?_
 have H0:=Hd hK0;clear hK0;go_wp2_with fail
 refine H0.out _ _ ?_;clear H0;refine wp_seq_k fun K1 hK1=>?_
 have H1:=Hd hK1;clear hK1;go_wp2_with fail
 have X3:Ext w (((w.alloc gObj).alloc gObj).alloc (.cells #[.int .i64 3, .int .i64 3, .int .i64 3, .int .i64 5, .int .i64 1] 3)):=Ext.trans (Ext.trans (za1 _ _) (za1 _ _)) (za1 _ _)
 refine (Go.Proofs.YtckfjploafhenaaGreat.c_l1PickInt Q A n c (w.heap.size+1+1) [3,3,3,5,1] _ (hc.ext X3) (by simp) (by simp) (by
  have e:w.heap.size+1+1=((w.alloc gObj).alloc gObj).heap.size:=by simp
  rw [e]
  exact heap_alloc_new _ _) (by omega)).mono ?_
 rintro e w1 ⟨x,hx,rfl,hc1,hg1⟩
 have hK:x=1\/x=3\/x=5:=by
  unfold OneOf at hx;simp only [List.mem_cons,List.not_mem_nil,or_false] at hx;omega
 rename_i hrest;refine hrest _ _ ?_;clear hrest;have st:=mid_stt (row := .cells #[.int .i64 3, .int .i64 3, .int .i64 3, .int .i64 5, .int .i64 1] 3) h0 h1 (K:=x) (by omega) hc hc1 hg1 (.slice (some ⟨w.heap.size+1+1,0,none⟩) 5 5)
 refine restB_ok (k:=3) (ze9 (baseK hK) (hk x hK) 4 2) rfl (show Q+1<=w.heap.size from hlt) (r_l9DrawRun hK) (args:=[.pointer (some ⟨Q,0,none⟩), .int .i64 m]) (fun σ' q=>?_) st (fun a' w' h=>?_)
 ·have e0:σ' 0=m:=q 0 (by show _ < 2;omega)
  show [(cst 0).ev σ',(var 0).ev σ']=[0,m];rw [zc4,zes,e0]
 ·refine H1.out a' w' (wp_mono h (zg7 fun e w hp=>⟨x,hK,hp⟩))
end Go.Proofs.YtckfjploafhenaaGreat.Ai
namespace Go.Proofs.YtckfjploafhenaaGreat.Ai
open Go.ChangeShapes Go.WideShapes Go.ChangeAt Go.RowKit Go.Sort
theorem x_l1Long (A:Option Addr) (n c:Nat) (a b:Int) (w:World) (hn:n<=1048576) (h0:0<=a) (h1:a<=b) (h2:b<=1000000):Calls Tryz.prog 40 #[.slice A n c, .int .i64 a, .int .i64 b] w fun e w'=>(∃ x:Int,(0<=x/\x<=b)/\e = .returned (.int .i64 x))/\w'=w:=by
 go_enter Tryz.func40,Tryz.ntmps40
 go_wp2
 all_goals
  go_ret
  exact ⟨⟨_,⟨by omega,by omega⟩,rfl⟩,rfl⟩
section
variable {C:Cx} {E:Env} {w0:World} {R0:Nat->Prop} {σ:Nat->Int} {bp:Nat->Nat} {R:Nat->Prop} {s t:AS} {a:Act} {w w':World}
theorem post_out (h:Stt C w0 R0 σ bp R s a w) {c:Ctr} {i:List Sy} {args:List Value} (hin:∀ σ',Agr s.n σ' σ->i.map (Sy.ev σ')=nums args) (hwf:∀ o∈c.outs,∀ k∈o.2,Ckwf k) (ht:posts (zav s c.outs).2 (i++(zav s c.outs).1.flatMap fun l=>l.2.map symO) c.post=some t) {e:Ending} (kp:KPost C c R w args e w') :
  ∃ v outs σ1 R1,e = .returned v/\v=(match outs with | [u]=>u | l => .tuple l.toArray)/\Agr s.n σ1 σ/\s.n<=t.n/\t.bx=s.bx/\Stt C w0 R0 σ1 bp R1 t a w'/\∀ σ' bp',Agr t.n σ' σ1->TpOk C σ' bp' R1 w' (zav s c.outs).1 outs:=by
 obtain ⟨v,outs,R',rfl,hv,hg,hp',ho,hpost⟩:=kp;obtain ⟨h1,hgr⟩:=turn_stt h hg hp';obtain ⟨σ1,a1,n1,t1,b1,st1,k1⟩:=zha c.outs outs h1 ho hwf;obtain ⟨p1,p2⟩:=posts_ok ht;refine ⟨v,outs,σ1,R',rfl,hv,a1,by rw [p1.n];exact n1,by rw [p1.bx,b1],st1.sm p1 fun σ' bp' q1 q2 st=>p2 σ' st.fs ?_,fun σ' bp' q=>(k1 σ' bp' (by rw [<-p1.n];exact q)).1⟩
 have e1:=hin σ' ((q1.less n1).trans a1);have e2:=(k1 σ' bp q1).2;rw [List.map_append,e1,e2];exact fun p hp hq=>hpost p hp hq
end
def zca (K:Int):List Ck:=[ii, .int .i64 0 K,ii,ii,ii,ii,ii, .sl 162, .sl 111, .sl 104, .sl 45,ii,ii]
def msgCells:List Ck:=[ii,ii,ii,ii,ii,ii,ii,ii,ii,ii,ii,ii,ii,ii, .sl 162, .sl 111, .sl 104]
def repZero:List Ck:=[ii,ii,ii,ii,ii,ii,ii, .sl 162, .sl 111, .sl 104, .sl 45,ii,ii]
def zcf (K:Int):Ctr:=⟨[(false,[.cur]),(false,[.cur]),(false,[ii])],[(true,zca K),(true,msgCells)],[],[]⟩
def zgj:AS:=⟨one .cur::one .unk::one (.num .i64 (var 1))::one .un::one .un::one .un::one (.ptr 0 0)::one (.ptr 1 0)::(List.replicate 11 (one .un)++one .cur::one .unk::one (.num .i64 (var 2))::(List.replicate 79 (one .un)++[])),
 [(33,repZero.map zeroC),(37,msgCells.map zeroC)],3,[],[],[]⟩
def midRep (K:Int):AS:=match posts (zav zgj (zay K).outs).2 ([.lin (cst 0), .lin (var 2)]++(zav zgj (zay K).outs).1.flatMap fun l=>l.2.map symO) (zay K).post with
 | some t=>{ t with tm:=setN t.tm 22 (.v (.tup (zav zgj (zay K).outs).1)) }
 | none=>zgj
def zbk (K:Int):List (Nat×Ctr):=[(41,ze2),(42,c_l1Below),(43,zej),(44,zdq),(45,zhq K),(46,zic),(47,zfk K)]
def zd2:List Hn:=[.loop [(4,0),(4,1),(4,2),(4,3),(4,4),(4,5),(4,6),(4,7),(4,8),(4,9),(4,10),(4,11),(4,12),(4,13),(4,14),(4,15),(4,16)] [⟨0,[(32,1)]⟩,⟨-1,[(9,1),(32,-1)]⟩,⟨1,[(32,1)]⟩,⟨2097152,[(32,-1)]⟩,⟨0,[(34,1)]⟩,⟨1,[(34,1)]⟩,⟨2097152,[(34,-1)]⟩,⟨0,[(12,1),(34,-1)]⟩] [] ⟨0,[(12,1),(34,-1)]⟩]
theorem r1_l9DrawReplica:restB ⟨tb 1,zbk 1,4,2,eqs⟩ Tryz.f10 (zcf 1) [.lin (cst 0), .lin (cst 0), .lin (var 1)] (opsC (fstC (sndC (bodyC Tryz.f10)))) 4 (sndC (sndC (bodyC Tryz.f10))) (midRep 1) zd2=true:=by kernel_rfl
theorem r3_l9DrawReplica:restB ⟨tb 3,zbk 3,4,2,eqs⟩ Tryz.f10 (zcf 3) [.lin (cst 0), .lin (cst 0), .lin (var 1)] (opsC (fstC (sndC (bodyC Tryz.f10)))) 4 (sndC (sndC (bodyC Tryz.f10))) (midRep 3) zd2=true:=by kernel_rfl
theorem r5_l9DrawReplica:restB ⟨tb 5,zbk 5,4,2,eqs⟩ Tryz.f10 (zcf 5) [.lin (cst 0), .lin (cst 0), .lin (var 1)] (opsC (fstC (sndC (bodyC Tryz.f10)))) 4 (sndC (sndC (bodyC Tryz.f10))) (midRep 5) zd2=true:=by kernel_rfl
theorem r_l9DrawReplica {K:Int} (hK:K=1\/K=3\/K=5):restB ⟨tb K,zbk K,4,2,eqs⟩ Tryz.f10 (zcf K) [.lin (cst 0), .lin (cst 0), .lin (var 1)] (opsC (fstC (sndC (bodyC Tryz.f10)))) 4 (sndC (sndC (bodyC Tryz.f10))) (midRep K) zd2=true:=by
 rcases hK with rfl | rfl | rfl
 ·exact r1_l9DrawReplica
 ·exact r3_l9DrawReplica
 ·exact r5_l9DrawReplica
def rObj:Obj := .cells #[.int .i64 0, .int .i64 0, .int .i64 0, .int .i64 0, .int .i64 0, .int .i64 0, .int .i64 0, .slice none 0 0, .slice none 0 0, .slice none 0 0, .slice none 0 0, .int .i64 0, .int .i64 0] 33
def mObj:Obj := .cells #[.int .i64 0, .int .i64 0, .int .i64 0, .int .i64 0, .int .i64 0, .int .i64 0, .int .i64 0, .int .i64 0, .int .i64 0, .int .i64 0, .int .i64 0, .int .i64 0, .int .i64 0, .int .i64 0, .slice none 0 0, .slice none 0 0, .slice none 0 0] 37
theorem zeros_ii {C:Cx} {σ:Nat->Int} {bp:Nat->Nat} {R:Nat->Prop} {w:World} {cs:List Ck} (h:cs.all zrB=true):LsOk C σ bp R w (cs.map zeroC) (cs.map zeroV):=zero_ok (by
 rintro k hk k' lo hi rfl
 have:=List.all_eq_true.1 h _ hk
 simp only [zrB,Bool.and_eq_true,zdv] at this
 exact ⟨by omega,this.2⟩)
theorem pre_stt {K kd x:Int} {Q n c:Nat} {A:Option Addr} {w:World} (hk:i64lo<=kd/\kd<=i64hi) (hx:0<=x/\x<=80) (hc:Cur w Q A n c) (u:Value) :
  Stt (cx K Q A n c) w (fun _=>False) (fun i=>if i=1 then kd else x) (fun i=>w.heap.size+i) (fun _=>False) zgj
   ⟨(.pointer (some ⟨Q,0,none⟩)::u :: .int .i64 kd::undef::undef::undef :: .pointer (some ⟨w.heap.size,0,none⟩) :: .pointer (some ⟨w.heap.size+1,0,none⟩)::(List.replicate 11 undef ++ .pointer (some ⟨Q,0,none⟩)::u :: .int .i64 x::(List.replicate 79 undef++[]))).toArray,[]⟩ ((w.alloc rObj).alloc mObj):=by
 have hlt:=hc.lt;have X:Ext w ((w.alloc rObj).alloc mObj):=Ext.trans (za1 _ _) (za1 _ _);refine ⟨fun σ' bp' q1 q2=>⟨?_, ?_,⟨by simp [zgj],by simp [zgj],by simp [zgj]⟩⟩,⟨hp_none (hc.ext X),gw_none (zbe X),fun i hi=>⟨by omega,fun h=>h,by show w.heap.size+i≠Q;omega⟩,fun i j _ _ e=>by omega,rfl,fun q h=>h.elim⟩⟩
 ·have e1:σ' 1=kd:=q1 1 (by show _ < 3;omega)
  have e2:σ' 2=x:=q1 2 (by show _ < 3;omega)
  have b0:bp' 0=w.heap.size:=q2 0 (by show _ < 2;omega)
  have b1:bp' 1=w.heap.size+1:=q2 1 (by show _ < 2;omega)
  have v1:AtOk (cx K Q A n c) σ' bp' (fun _=>False) ((w.alloc rObj).alloc mObj) (.num .i64 (var 1)) (.int .i64 kd):=by
   refine ⟨by rw [zes,e1], ?_, ?_⟩ <;> rw [zes,e1] <;> simp only [nat8] <;> omega
  have v2:AtOk (cx K Q A n c) σ' bp' (fun _=>False) ((w.alloc rObj).alloc mObj) (.num .i64 (var 2)) (.int .i64 x):=by
   refine ⟨by rw [zes,e2], ?_, ?_⟩ <;> rw [zes,e2] <;> simp only [nat8,i64lo,i64hi] <;> omega
  have p0:AtOk (cx K Q A n c) σ' bp' (fun _=>False) ((w.alloc rObj).alloc mObj) (.ptr 0 0) (.pointer (some ⟨w.heap.size,0,none⟩)):=by
   show _=Value.pointer _;rw [b0]
  have p1:AtOk (cx K Q A n c) σ' bp' (fun _=>False) ((w.alloc rObj).alloc mObj) (.ptr 1 0) (.pointer (some ⟨w.heap.size+1,0,none⟩)):=by
   show _=Value.pointer _;rw [b1]
  have t1:TmOk (cx K Q A n c) σ' bp' (fun _=>False) ((w.alloc rObj).alloc mObj) (List.replicate 79 (one .un)++[]) (List.replicate 79 undef++[]):=un_rep (l:=[]) (vs:=[]) trivial 79
  have t2:TmOk (cx K Q A n c) σ' bp' (fun _=>False) ((w.alloc rObj).alloc mObj) (one .cur::one .unk::one (.num .i64 (var 2))::(List.replicate 79 (one .un)++[])) (.pointer (some ⟨Q,0,none⟩)::u :: .int .i64 x::(List.replicate 79 undef++[])):=⟨rfl,trivial,v2,t1⟩
  exact ⟨rfl,trivial,v1,rfl,rfl,rfl,p0,p1,un_rep t2 11⟩
 ·have b0:bp' 0=w.heap.size:=q2 0 (by show _ < 2;omega)
  have b1:bp' 1=w.heap.size+1:=q2 1 (by show _ < 2;omega)
  have hq0:((w.alloc rObj).alloc mObj).heap[w.heap.size]?=some rObj:=by
   rw [Below.heap_alloc _ _ _ (by simp),heap_alloc_new]
  have hq1:((w.alloc rObj).alloc mObj).heap[w.heap.size+1]?=some mObj:=by
   have e:w.heap.size+1=(w.alloc rObj).heap.size:=by simp
   rw [e,heap_alloc_new]
  exact ⟨⟨_,by rw [b0];exact hq0,zeros_ii (cs:=repZero) (by kernel_rfl)⟩,⟨_,by rw [b1];exact hq1,zeros_ii (cs:=msgCells) (by kernel_rfl)⟩,trivial⟩
theorem d_l9DrawReplica {Q n c:Nat} {A:Option Addr} {w:World} {kd:Int} (hc:Cur w Q A n c) (hkd:i64lo<=kd/\kd<=i64hi) (hk:∀ K,(K=1\/K=3\/K=5)->Kepts (cx K Q A n c) (zci K)) (hk2:∀ K,(K=1\/K=3\/K=5)->Kepts (cx K Q A n c) (zbk K)) :
  Calls Tryz.prog 10 #[.pointer (some ⟨Q,0,none⟩), .slice A n c, .int .i64 kd] w fun e w'=>∃ K,(K=1\/K=3\/K=5)/\KPost (cx K Q A n c) (zcf K) (fun _=>False) w [.pointer (some ⟨Q,0,none⟩), .pointer none, .int .i64 kd] e w':=by
 have hlt:=hc.lt;have hn20:=hc.2.2.1.1
 go_enter Tryz.func10,Tryz.ntmps10
 refine wp_seq_k fun K0 hK0=>?_
 have H0:=Hd hK0;clear hK0;go_wp2_with fail
 refine H0.out _ _ ?_;clear H0;refine wp_seq_k fun K1 hK1=>?_
 have H1:=Hd hK1;clear hK1;go_wp2_with fail
 refine (x_l1Long A n c 40 80 _ hn20 (by omega) (by omega) (by omega)).mono ?_
 rintro e w1 ⟨⟨x,hx,rfl⟩,rfl⟩;have X3:Ext w ((w.alloc rObj).alloc mObj):=Ext.trans (za1 _ _) (za1 _ _);go_wp2_with fail
 refine (d_l9DrawRun (w:=(w.alloc rObj).alloc mObj) (hc.ext X3) hx.1 (by omega) hk).mono ?_
 rintro e w2 ⟨K,hK,kp⟩;have st:=pre_stt (K:=K) hkd hx hc (.slice A n c);have hsome:(posts (zav zgj (zay K).outs).2 ([.lin (cst 0), .lin (var 2)]++(zav zgj (zay K).outs).1.flatMap fun l=>l.2.map symO) (zay K).post).isSome=true:=by rcases hK with rfl | rfl | rfl <;> kernel_rfl
 obtain ⟨t,ht⟩:=Option.isSome_iff_exists.1 hsome
 have hwf:∀ o∈(zay K).outs,∀ k∈o.2,Ckwf k:=by
  have h:(zay K).outs.all (fun o=>o.2.all wfB)=true:=by kernel_rfl
  exact fun o ho k hk=>zgp (List.all_eq_true.1 (List.all_eq_true.1 h o ho) k hk)
 obtain ⟨v,outs,σ1,R1,rfl,hv,ag,le,hbx,st2,tp⟩:=post_out st (i:=[.lin (cst 0), .lin (var 2)]) (fun σ' q=>by
  have e2:σ' 2=x:=q 2 (by show _ < 3;omega)
  show [(cst 0).ev σ',(var 2).ev σ']=[0,x]
  rw [zc4,zes,e2]) hwf ht kp
 have hmid:midRep K={ t with tm:=setN t.tm 22 (.v (.tup (zav zgj (zay K).outs).1)) }:=by
  unfold midRep;rw [ht]
 have htup:∃ arr:Array Value,v = .tuple arr/\arr.toList=outs:=by
  have h3:=tp σ1 (fun _=>0) (zaa _ _)
  match outs,h3 with
  | [],h3=>exact h3.elim
  | [_],h3=>exact h3.2.elim
  | a::b::r,_=>exact ⟨(a::b::r).toArray,hv,rfl⟩
 obtain ⟨arr,rfl,harr⟩:=htup;have st3:=put_stt (d:=22) (x := .v (.tup (zav zgj (zay K).outs).1)) (v := .tuple arr) st2 fun σ' bp' q1 q2=>⟨arr,rfl,by rw [harr];exact tp σ' bp' q1⟩
 rw [<-hmid] at st3;rename_i hrest;refine hrest _ _ ?_;clear hrest;refine restB_ok (k:=4) (ze9 (baseK hK) (hk2 K hK) 4 2) rfl (show Q+1<=w.heap.size from hlt) (r_l9DrawReplica hK) (args:=[.pointer (some ⟨Q,0,none⟩), .pointer none, .int .i64 kd]) (fun σ' q=>?_) st3 (fun a' w' h=>?_)
 ·have e1:σ' 1=kd:=by
   have:(midRep K).n=t.n:=by rw [hmid]
   rw [q 1 (by rw [this];exact Nat.lt_of_lt_of_le (show 1 < 3 by omega) le),ag 1 (by show _ < 3;omega)]
   rfl
  show [(cst 0).ev σ',(cst 0).ev σ',(var 1).ev σ']=[0,0,kd];rw [zc4,zes,e1]
 ·exact H1.out a' w' (wp_mono h (zg7 fun e w hp=>⟨K,hK,hp⟩))
end Go.Proofs.YtckfjploafhenaaGreat.Ai
