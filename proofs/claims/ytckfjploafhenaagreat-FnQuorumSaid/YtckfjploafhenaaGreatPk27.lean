/- ReplicaOk of the reference and of the program. -/
import Derived.Test.YtckfjploafhenaaGreatPk26
set_option maxRecDepth 100000
set_option maxHeartbeats 16000000
set_option linter.unusedVariables false
set_option linter.unusedSimpArgs false
namespace Go.Proofs.YtckfjploafhenaaGreat
open Go.ChangeShapes Go.WideShapes Go.ChangeAt Go.RowKit Go.Sort
theorem c_idxVtE (g:Nat) (lb:Array Value) (p:VtE->Bool) (eg:∀ args w,(callFunc g args).run Tryz.prog w = .ok (.enter g args) w) (A:Option Addr) (c:Nat) (l:List VtE) (w:World) (ha:Rd VtE.enc 10 w A c l) (hn:l.length<=1099511627776)
  (hp:∀ W,Ext w W->∀ k (hk:k < l.length),Calls Tryz.prog g (#[.agg #[.int .i64 l[k].2.kind, .int .i64 l[k].2.frm, .int .i64 l[k].2.view, .int .i64 l[k].2.normal, .int .i64 l[k].2.op, .int .i64 l[k].2.commit, .int .i64 l[k].2.log.base, .slice l[k].1.cA l[k].2.log.cells.length l[k].1.cc, .slice l[k].1.sA l[k].2.log.seats.length l[k].1.sc, .slice l[k].1.eA l[k].2.log.ents.length l[k].1.ec]]++lb) W fun e w'=>e = .returned (.bool (p l[k]))/\Ext W w') :
  Calls Tryz.prog 54 #[.slice A l.length c, .func (.func g) #[] lb] w fun e w'=>e = .returned (.int .i64 (idxOf p l))/\Ext w w':=by
 have HP:=Hd hp;clear hp
 go_enter Tryz.func54,Tryz.ntmps54
 go_wp2
 go_loopw [8] (fun i wr=>∃ k:Nat,k<=l.length/\i = .int .i64 k/\(∀ j (hj:j < l.length),j < k->p l[j]=false)/\Ext w wr) (fun i _=>l.length - (intOf i).toNat)
 case atStart=>exact ⟨0,Nat.zero_le _,rfl,fun j hj h=>absurd h (by omega),za4 _⟩
 case round =>
  obtain ⟨k,hk,rfl,ht,hx0⟩:=hrel;have HT:=Hd ht;clear ht;by_cases hlt:k < l.length
  ·have hcall:=HP.out wr hx0 k hlt;obtain ⟨ab,ao,rfl,hab,a0,a1,a2,a3,a4,a5,a6,a7,a8,a9⟩:=(ha.keep hx0).atVtE hlt;cases hq:p l[k]
   ·rw [hq] at hcall;have HQ:=Hd hq;clear hq HP;go_wp2_with fail
    refine hcall.mono ?_;rintro e w1 ⟨rfl,hx⟩;clear hcall;go_wp2
    go_roundw
    case rel=>exact ⟨k+1,by omega,by go_num,no_next HT.out (fun _=>HQ.out),Ext.trans hx0 hx⟩
    case measure=>simp [intOf] <;> omega
   ·rw [hq] at hcall;have HQ:=Hd hq;clear hq HP;go_wp2_with fail
    refine hcall.mono ?_;rintro e w1 ⟨rfl,hx⟩;clear hcall;go_wp2
    go_ret
    exact ⟨zc0 (idx_hit hlt HQ.out HT.out).symm,Ext.trans hx0 hx⟩
  ·have HV:=Hd (idx_miss (p:=p) (l:=l) (fun j hj=>HT.out j hj (by omega)))
   go_wp2
   go_ret
   exact ⟨zc0 HV.out.symm,hx0⟩
theorem c_anyVtE (g:Nat) (lb:Array Value) (p:VtE->Bool) (eg:∀ args w,(callFunc g args).run Tryz.prog w = .ok (.enter g args) w) (A:Option Addr) (c:Nat) (l:List VtE) (w:World) (ha:Rd VtE.enc 10 w A c l) (hn:l.length<=1099511627776)
  (hp:∀ W,Ext w W->∀ k (hk:k < l.length),Calls Tryz.prog g (#[.agg #[.int .i64 l[k].2.kind, .int .i64 l[k].2.frm, .int .i64 l[k].2.view, .int .i64 l[k].2.normal, .int .i64 l[k].2.op, .int .i64 l[k].2.commit, .int .i64 l[k].2.log.base, .slice l[k].1.cA l[k].2.log.cells.length l[k].1.cc, .slice l[k].1.sA l[k].2.log.seats.length l[k].1.sc, .slice l[k].1.eA l[k].2.log.ents.length l[k].1.ec]]++lb) W fun e w'=>e = .returned (.bool (p l[k]))/\Ext W w') :
  Calls Tryz.prog 93 #[.slice A l.length c, .func (.func g) #[] lb] w fun e w'=>e = .returned (.bool (l.any p))/\Ext w w':=by
 have hcon:=c_idxVtE g lb p eg A c l w ha hn hp;rw [<-idxOf_any];obtain ⟨z,hz⟩:∃ z,idxOf p l=z:=⟨_,rfl⟩;rw [hz] at hcon ⊢;clear hz hp
 go_enter Tryz.func93,Tryz.ntmps93
 go_wp2_with fail
 refine hcon.mono ?_;rintro e w1 ⟨rfl,x1⟩;go_wp2
 go_ret
 exact ⟨rfl,x1⟩
def ofB (n:Int):Bool:=n == 1 || n == 3 || n == 5
theorem ofB_b {n:Int} (h:ofB n=true):1<=n/\n<=5:=by simp [ofB] at h;omega
theorem zda (n:Int) (w:World):Calls Tryz.prog 31 #[.int .i64 n] w fun e w'=>e = .returned (.bool (ofB n))/\Ext w w':=by
 go_enter Tryz.func31,Tryz.ntmps31
 go_wp2
 all_goals
  go_ret
  exact ⟨za7 (by first | (simp [ofB, *];done) | (simp_all [ofB];done)),za4 _⟩
theorem zgv (n:Int) (w:World):Calls Tryz.prog 38 #[.int .i64 n] w fun e w'=>e = .returned (.bool (ofB n))/\Ext w w':=by
 go_enter Tryz.func38,Tryz.ntmps38
 go_wp2
 all_goals
  go_ret
  exact ⟨za7 (by first | (simp [ofB, *];done) | (simp_all [ofB];done)),za4 _⟩
def rpTail (r:Rp):Bool:=(r.mode == 1 && (r.view == r.normal && r.view == r.cell)) || (r.mode == 2 && (decide (r.normal<=r.view) && r.view == r.cell)) || ((r.mode == 0 || r.mode == 3) && (r.view == 0 && r.normal == 0 && r.commit == 0 && isZ r.log && (r.mode == 3 || r.votes.length == 0)))
def rpOk (r:Rp):Bool:=ofB r.of && inB r.me 0 (r.of - 1) && inB r.view 0 1000000000 && inB r.normal 0 1000000000 && inB r.cell 0 1000000000 && inB r.nonce 0 1000000000 && zb8 r.log r.commit && decide (r.votes.length<=20) && r.votes.all (vtOk r.of) && rpTail r
theorem rpNo_0 {r:Rp} (h:ofB r.of=false):rpOk r=false:=by simp [rpOk,h]
theorem rpNo_1 {r:Rp} (h:inB r.me 0 (r.of - 1)=false):rpOk r=false:=by simp [rpOk,h]
theorem rpNo_2 {r:Rp} (h:inB r.view 0 1000000000=false):rpOk r=false:=by simp [rpOk,h]
theorem rpNo_3 {r:Rp} (h:inB r.normal 0 1000000000=false):rpOk r=false:=by simp [rpOk,h]
theorem rpNo_4 {r:Rp} (h:inB r.cell 0 1000000000=false):rpOk r=false:=by simp [rpOk,h]
theorem rpNo_5 {r:Rp} (h:inB r.nonce 0 1000000000=false):rpOk r=false:=by simp [rpOk,h]
theorem rpNo_6 {r:Rp} (h:zb8 r.log r.commit=false):rpOk r=false:=by simp [rpOk,h]
theorem rpNo_len {r:Rp} (h:¬ r.votes.length<=20):rpOk r=false:=by simp [rpOk,h]
theorem rpNo_vote {ps:List VtE} {r:Rp} (he:ps.map Prod.snd=r.votes) {k:Nat} (hk:k < ps.length) (h:vtOk r.of ps[k].2=false):rpOk r=false:=by
 have:r.votes.all (vtOk r.of)=false:=by
  rw [<-he,List.all_eq_false];exact ⟨ps[k].2,List.mem_map_of_mem (List.getElem_mem hk),by simp [h]⟩
 simp [rpOk,this]
def VkTo (of:Int) (ps:List VtE) (k:Nat):Prop:=∀ j (h:j < ps.length),j < k->vtOk of ps[j].2=true
theorem VkTo.next {of:Int} {ps:List VtE} {k:Nat} (h:VkTo of ps k) (hk:k < ps.length) (hs:vtOk of ps[k].2=true):VkTo of ps (k+1):=fun j hj hjk=>by
 by_cases he:j=k
 ·subst he;exact hs
 ·exact h j hj (by omega)
theorem rpOk_all {ps:List VtE} {r:Rp} (he:ps.map Prod.snd=r.votes) (h:VkTo r.of ps ps.length):r.votes.all (vtOk r.of)=true:=by
 rw [<-he,List.all_eq_true];intro v hv;obtain ⟨p,hp,rfl⟩:=List.mem_map.1 hv;obtain ⟨k,hk,rfl⟩:=List.mem_iff_getElem.1 hp;exact h k hk hk
theorem rpOk_any {ps:List VtE} {r:Rp} (he:ps.map Prod.snd=r.votes):r.votes.all (vtOk r.of)=!ps.any (fun p=>!vtOk r.of p.2):=by
 subst_vars
 rw [<-he,List.all_map,List.any_eq_not_all_not,Bool.not_not];congr 1
 funext p
 simp
theorem rpOk_tail {r:Rp} (h0:ofB r.of=true) (h1:inB r.me 0 (r.of - 1)=true) (h2:inB r.view 0 1000000000=true) (h3:inB r.normal 0 1000000000=true) (h4:inB r.cell 0 1000000000=true) (h5:inB r.nonce 0 1000000000=true) (h6:zb8 r.log r.commit=true) (h8:r.votes.length<=20) (h9:r.votes.all (vtOk r.of)=true):rpTail r=rpOk r:=by
 unfold rpOk;rw [h0,h1,h2,h3,h4,h5,h6,h9,decide_eq_true h8]
 simp
theorem c_badVote (b:LAd) (v:Vt) (P:Nat) (a:LAd) (A:Option Addr) (n c:Nat) (r:Rp) (h0:-1000000<=r.of) (h1:r.of<=1000000) (hs:v.log.small) (w:World) (hr:LgR w b v.log) (hb:w.heap[P]?=some (Rp.obj a A n c r)) :
  Calls Tryz.prog 94 #[VtE.val b v, .pointer (some ⟨P,0,none⟩)] w fun e w'=>e = .returned (.bool (!vtOk r.of v))/\Ext w w':=by
 have X0:=za1 w (Vt.obj b v);have HC:=Hd (c_voteOk b v r.of h0 h1 hs _ (hr.keep X0));have b1:=za2 (hOld (o:=Vt.obj b v) hb);have z1:=bx_lt hb;clear hr hs hb
 go_enter Tryz.func94,Tryz.ntmps94
 go_wp2_with fail
 refine HC.out.mono ?_;rintro e w1 ⟨rfl,x1⟩;go_wp2
 go_ret
 exact ⟨rfl,Ext.trans X0 x1⟩
theorem zh3 (a:LAd) (A:Option Addr) (c:Nat) (ps:List VtE) (r:Rp) (w:World) (hr:RpR w a A c ps r) (hs:r.log.small) (hn:ps.length<=1048576) (hv:LgS ps) :
  Calls Tryz.prog 8 #[Rp.val a A ps.length c r] w fun e w'=>e = .returned (.bool (rpOk r))/\Ext w w':=by
 have X0:=za1 w (Rp.obj a A ps.length c r);have hlen:r.votes.length=ps.length:=by rw [<-hr.e];simp
 have HLen:=Hd hlen;have HR:=Hd hr;have HVS:=Hd hv;have HL:=Hd (fun W (h:Ext w W)=>zif a r.log r.commit hs W (hr.l.keep h))
 have HS:=Hd hs;clear hr hs hv hlen;cases q0:ofB r.of
 ·have HN:=Hd (rpNo_0 q0)
  go_enter Tryz.func8,Tryz.ntmps8
  go_wp2_with (first | (go_at_call 31;refine (zda _ _).mono ?_;rintro e w1 ⟨rfl,hx⟩;obtain ⟨hc1,hf1,hs1⟩:=hx.rules;(try simp at hs1);have z0:w.heap.size < w1.heap.size:=(by omega)) | (go_at_call 32;refine (zb6 _ _ _ _).mono ?_;rintro e w1 ⟨rfl,hx⟩;obtain ⟨hc1,hf1,hs1⟩:=hx.rules;(try simp at hs1);have z0:w.heap.size < w1.heap.size:=(by omega)) | (go_at_call 33;refine (zah _ _).mono ?_;rintro e w1 ⟨rfl,hx⟩;obtain ⟨hc1,hf1,hs1⟩:=hx.rules;(try simp at hs1);have z0:w.heap.size < w1.heap.size:=(by omega)) | (go_at_call 34;refine (HL.out _ (by (repeat (first | with_reducible exact za4 _ | with_reducible refine za9 ?_ _ | with_reducible refine zak ?_ (by first | (simp;done) | (simp;omega) | omega) _ | with_reducible refine zab ?_ | with_reducible refine Ext.trans ?_ (by assumption))))).mono ?_;rintro e w1 ⟨rfl,hx⟩;obtain ⟨hc1,hf1,hs1⟩:=hx.rules;(try simp at hs1);have z0:w.heap.size < w1.heap.size:=(by omega)))
  go_ret
  refine ⟨za7 HN.out.symm, ?_⟩
  (repeat (first | with_reducible exact za4 _ | with_reducible refine za9 ?_ _ | with_reducible refine zak ?_ (by first | (simp;done) | (simp;omega) | omega) _ | with_reducible refine zab ?_ | with_reducible refine Ext.trans ?_ (by assumption)))
 obtain ⟨ob0,ob1⟩:=ofB_b q0;cases q1:inB r.me 0 (r.of - 1)
 ·have HN:=Hd (rpNo_1 q1)
  go_enter Tryz.func8,Tryz.ntmps8
  go_wp2_with (first | (go_at_call 31;refine (zda _ _).mono ?_;rintro e w1 ⟨rfl,hx⟩;obtain ⟨hc1,hf1,hs1⟩:=hx.rules;(try simp at hs1);have z0:w.heap.size < w1.heap.size:=(by omega)) | (go_at_call 32;refine (zb6 _ _ _ _).mono ?_;rintro e w1 ⟨rfl,hx⟩;obtain ⟨hc1,hf1,hs1⟩:=hx.rules;(try simp at hs1);have z0:w.heap.size < w1.heap.size:=(by omega)) | (go_at_call 33;refine (zah _ _).mono ?_;rintro e w1 ⟨rfl,hx⟩;obtain ⟨hc1,hf1,hs1⟩:=hx.rules;(try simp at hs1);have z0:w.heap.size < w1.heap.size:=(by omega)) | (go_at_call 34;refine (HL.out _ (by (repeat (first | with_reducible exact za4 _ | with_reducible refine za9 ?_ _ | with_reducible refine zak ?_ (by first | (simp;done) | (simp;omega) | omega) _ | with_reducible refine zab ?_ | with_reducible refine Ext.trans ?_ (by assumption))))).mono ?_;rintro e w1 ⟨rfl,hx⟩;obtain ⟨hc1,hf1,hs1⟩:=hx.rules;(try simp at hs1);have z0:w.heap.size < w1.heap.size:=(by omega)))
  go_ret
  refine ⟨za7 HN.out.symm, ?_⟩
  (repeat (first | with_reducible exact za4 _ | with_reducible refine za9 ?_ _ | with_reducible refine zak ?_ (by first | (simp;done) | (simp;omega) | omega) _ | with_reducible refine zab ?_ | with_reducible refine Ext.trans ?_ (by assumption)))
 cases q2:inB r.view 0 1000000000
 ·have HN:=Hd (rpNo_2 q2)
  go_enter Tryz.func8,Tryz.ntmps8
  go_wp2_with (first | (go_at_call 31;refine (zda _ _).mono ?_;rintro e w1 ⟨rfl,hx⟩;obtain ⟨hc1,hf1,hs1⟩:=hx.rules;(try simp at hs1);have z0:w.heap.size < w1.heap.size:=(by omega)) | (go_at_call 32;refine (zb6 _ _ _ _).mono ?_;rintro e w1 ⟨rfl,hx⟩;obtain ⟨hc1,hf1,hs1⟩:=hx.rules;(try simp at hs1);have z0:w.heap.size < w1.heap.size:=(by omega)) | (go_at_call 33;refine (zah _ _).mono ?_;rintro e w1 ⟨rfl,hx⟩;obtain ⟨hc1,hf1,hs1⟩:=hx.rules;(try simp at hs1);have z0:w.heap.size < w1.heap.size:=(by omega)) | (go_at_call 34;refine (HL.out _ (by (repeat (first | with_reducible exact za4 _ | with_reducible refine za9 ?_ _ | with_reducible refine zak ?_ (by first | (simp;done) | (simp;omega) | omega) _ | with_reducible refine zab ?_ | with_reducible refine Ext.trans ?_ (by assumption))))).mono ?_;rintro e w1 ⟨rfl,hx⟩;obtain ⟨hc1,hf1,hs1⟩:=hx.rules;(try simp at hs1);have z0:w.heap.size < w1.heap.size:=(by omega)))
  go_ret
  refine ⟨za7 HN.out.symm, ?_⟩
  (repeat (first | with_reducible exact za4 _ | with_reducible refine za9 ?_ _ | with_reducible refine zak ?_ (by first | (simp;done) | (simp;omega) | omega) _ | with_reducible refine zab ?_ | with_reducible refine Ext.trans ?_ (by assumption)))
 cases q3:inB r.normal 0 1000000000
 ·have HN:=Hd (rpNo_3 q3)
  go_enter Tryz.func8,Tryz.ntmps8
  go_wp2_with (first | (go_at_call 31;refine (zda _ _).mono ?_;rintro e w1 ⟨rfl,hx⟩;obtain ⟨hc1,hf1,hs1⟩:=hx.rules;(try simp at hs1);have z0:w.heap.size < w1.heap.size:=(by omega)) | (go_at_call 32;refine (zb6 _ _ _ _).mono ?_;rintro e w1 ⟨rfl,hx⟩;obtain ⟨hc1,hf1,hs1⟩:=hx.rules;(try simp at hs1);have z0:w.heap.size < w1.heap.size:=(by omega)) | (go_at_call 33;refine (zah _ _).mono ?_;rintro e w1 ⟨rfl,hx⟩;obtain ⟨hc1,hf1,hs1⟩:=hx.rules;(try simp at hs1);have z0:w.heap.size < w1.heap.size:=(by omega)) | (go_at_call 34;refine (HL.out _ (by (repeat (first | with_reducible exact za4 _ | with_reducible refine za9 ?_ _ | with_reducible refine zak ?_ (by first | (simp;done) | (simp;omega) | omega) _ | with_reducible refine zab ?_ | with_reducible refine Ext.trans ?_ (by assumption))))).mono ?_;rintro e w1 ⟨rfl,hx⟩;obtain ⟨hc1,hf1,hs1⟩:=hx.rules;(try simp at hs1);have z0:w.heap.size < w1.heap.size:=(by omega)))
  go_ret
  refine ⟨za7 HN.out.symm, ?_⟩
  (repeat (first | with_reducible exact za4 _ | with_reducible refine za9 ?_ _ | with_reducible refine zak ?_ (by first | (simp;done) | (simp;omega) | omega) _ | with_reducible refine zab ?_ | with_reducible refine Ext.trans ?_ (by assumption)))
 cases q4:inB r.cell 0 1000000000
 ·have HN:=Hd (rpNo_4 q4)
  go_enter Tryz.func8,Tryz.ntmps8
  go_wp2_with (first | (go_at_call 31;refine (zda _ _).mono ?_;rintro e w1 ⟨rfl,hx⟩;obtain ⟨hc1,hf1,hs1⟩:=hx.rules;(try simp at hs1);have z0:w.heap.size < w1.heap.size:=(by omega)) | (go_at_call 32;refine (zb6 _ _ _ _).mono ?_;rintro e w1 ⟨rfl,hx⟩;obtain ⟨hc1,hf1,hs1⟩:=hx.rules;(try simp at hs1);have z0:w.heap.size < w1.heap.size:=(by omega)) | (go_at_call 33;refine (zah _ _).mono ?_;rintro e w1 ⟨rfl,hx⟩;obtain ⟨hc1,hf1,hs1⟩:=hx.rules;(try simp at hs1);have z0:w.heap.size < w1.heap.size:=(by omega)) | (go_at_call 34;refine (HL.out _ (by (repeat (first | with_reducible exact za4 _ | with_reducible refine za9 ?_ _ | with_reducible refine zak ?_ (by first | (simp;done) | (simp;omega) | omega) _ | with_reducible refine zab ?_ | with_reducible refine Ext.trans ?_ (by assumption))))).mono ?_;rintro e w1 ⟨rfl,hx⟩;obtain ⟨hc1,hf1,hs1⟩:=hx.rules;(try simp at hs1);have z0:w.heap.size < w1.heap.size:=(by omega)))
  go_ret
  refine ⟨za7 HN.out.symm, ?_⟩
  (repeat (first | with_reducible exact za4 _ | with_reducible refine za9 ?_ _ | with_reducible refine zak ?_ (by first | (simp;done) | (simp;omega) | omega) _ | with_reducible refine zab ?_ | with_reducible refine Ext.trans ?_ (by assumption)))
 cases q5:inB r.nonce 0 1000000000
 ·have HN:=Hd (rpNo_5 q5)
  go_enter Tryz.func8,Tryz.ntmps8
  go_wp2_with (first | (go_at_call 31;refine (zda _ _).mono ?_;rintro e w1 ⟨rfl,hx⟩;obtain ⟨hc1,hf1,hs1⟩:=hx.rules;(try simp at hs1);have z0:w.heap.size < w1.heap.size:=(by omega)) | (go_at_call 32;refine (zb6 _ _ _ _).mono ?_;rintro e w1 ⟨rfl,hx⟩;obtain ⟨hc1,hf1,hs1⟩:=hx.rules;(try simp at hs1);have z0:w.heap.size < w1.heap.size:=(by omega)) | (go_at_call 33;refine (zah _ _).mono ?_;rintro e w1 ⟨rfl,hx⟩;obtain ⟨hc1,hf1,hs1⟩:=hx.rules;(try simp at hs1);have z0:w.heap.size < w1.heap.size:=(by omega)) | (go_at_call 34;refine (HL.out _ (by (repeat (first | with_reducible exact za4 _ | with_reducible refine za9 ?_ _ | with_reducible refine zak ?_ (by first | (simp;done) | (simp;omega) | omega) _ | with_reducible refine zab ?_ | with_reducible refine Ext.trans ?_ (by assumption))))).mono ?_;rintro e w1 ⟨rfl,hx⟩;obtain ⟨hc1,hf1,hs1⟩:=hx.rules;(try simp at hs1);have z0:w.heap.size < w1.heap.size:=(by omega)))
  go_ret
  refine ⟨za7 HN.out.symm, ?_⟩
  (repeat (first | with_reducible exact za4 _ | with_reducible refine za9 ?_ _ | with_reducible refine zak ?_ (by first | (simp;done) | (simp;omega) | omega) _ | with_reducible refine zab ?_ | with_reducible refine Ext.trans ?_ (by assumption)))
 cases q6:zb8 r.log r.commit
 ·have HN:=Hd (rpNo_6 q6)
  go_enter Tryz.func8,Tryz.ntmps8
  go_wp2_with (first | (go_at_call 31;refine (zda _ _).mono ?_;rintro e w1 ⟨rfl,hx⟩;obtain ⟨hc1,hf1,hs1⟩:=hx.rules;(try simp at hs1);have z0:w.heap.size < w1.heap.size:=(by omega)) | (go_at_call 32;refine (zb6 _ _ _ _).mono ?_;rintro e w1 ⟨rfl,hx⟩;obtain ⟨hc1,hf1,hs1⟩:=hx.rules;(try simp at hs1);have z0:w.heap.size < w1.heap.size:=(by omega)) | (go_at_call 33;refine (zah _ _).mono ?_;rintro e w1 ⟨rfl,hx⟩;obtain ⟨hc1,hf1,hs1⟩:=hx.rules;(try simp at hs1);have z0:w.heap.size < w1.heap.size:=(by omega)) | (go_at_call 34;refine (HL.out _ (by (repeat (first | with_reducible exact za4 _ | with_reducible refine za9 ?_ _ | with_reducible refine zak ?_ (by first | (simp;done) | (simp;omega) | omega) _ | with_reducible refine zab ?_ | with_reducible refine Ext.trans ?_ (by assumption))))).mono ?_;rintro e w1 ⟨rfl,hx⟩;obtain ⟨hc1,hf1,hs1⟩:=hx.rules;(try simp at hs1);have z0:w.heap.size < w1.heap.size:=(by omega)))
  go_ret
  refine ⟨za7 HN.out.symm, ?_⟩
  (repeat (first | with_reducible exact za4 _ | with_reducible refine za9 ?_ _ | with_reducible refine zak ?_ (by first | (simp;done) | (simp;omega) | omega) _ | with_reducible refine zab ?_ | with_reducible refine Ext.trans ?_ (by assumption)))
 rcases Nat.lt_or_ge 20 ps.length with hgt | h20
 ·have h20:¬ ps.length<=20:=by omega
  have g20:decide ((20:Int) < (ps.length:Int))=true:=by simp;omega
  have HN:=Hd (rpNo_len (r:=r) (by rw [HLen.out];exact h20))
  clear h20 hgt
  go_enter Tryz.func8,Tryz.ntmps8
  go_wp2_with (first | (go_at_call 31;refine (zda _ _).mono ?_;rintro e w1 ⟨rfl,hx⟩;obtain ⟨hc1,hf1,hs1⟩:=hx.rules;(try simp at hs1);have z0:w.heap.size < w1.heap.size:=(by omega)) | (go_at_call 32;refine (zb6 _ _ _ _).mono ?_;rintro e w1 ⟨rfl,hx⟩;obtain ⟨hc1,hf1,hs1⟩:=hx.rules;(try simp at hs1);have z0:w.heap.size < w1.heap.size:=(by omega)) | (go_at_call 33;refine (zah _ _).mono ?_;rintro e w1 ⟨rfl,hx⟩;obtain ⟨hc1,hf1,hs1⟩:=hx.rules;(try simp at hs1);have z0:w.heap.size < w1.heap.size:=(by omega)) | (go_at_call 34;refine (HL.out _ (by (repeat (first | with_reducible exact za4 _ | with_reducible refine za9 ?_ _ | with_reducible refine zak ?_ (by first | (simp;done) | (simp;omega) | omega) _ | with_reducible refine zab ?_ | with_reducible refine Ext.trans ?_ (by assumption))))).mono ?_;rintro e w1 ⟨rfl,hx⟩;obtain ⟨hc1,hf1,hs1⟩:=hx.rules;(try simp at hs1);have z0:w.heap.size < w1.heap.size:=(by omega)))
  go_ret
  refine ⟨za7 HN.out.symm, ?_⟩
  (repeat (first | with_reducible exact za4 _ | with_reducible refine za9 ?_ _ | with_reducible refine zak ?_ (by first | (simp;done) | (simp;omega) | omega) _ | with_reducible refine zab ?_ | with_reducible refine Ext.trans ?_ (by assumption)))
 have g20:decide ((20:Int) < (ps.length:Int))=false:=by simp;omega
 have HT:=Hd (fun (h9:r.votes.all (vtOk r.of)=true)=>rpOk_tail q0 q1 q2 q3 q4 q5 q6 (by rw [HLen.out];exact h20) h9)
 go_enter Tryz.func8,Tryz.ntmps8
 go_wp2_with (first | (go_at_call 31;refine (zda _ _).mono ?_;rintro e w1 ⟨rfl,hx⟩;obtain ⟨hc1,hf1,hs1⟩:=hx.rules;(try simp at hs1);have z0:w.heap.size < w1.heap.size:=(by omega)) | (go_at_call 32;refine (zb6 _ _ _ _).mono ?_;rintro e w1 ⟨rfl,hx⟩;obtain ⟨hc1,hf1,hs1⟩:=hx.rules;(try simp at hs1);have z0:w.heap.size < w1.heap.size:=(by omega)) | (go_at_call 33;refine (zah _ _).mono ?_;rintro e w1 ⟨rfl,hx⟩;obtain ⟨hc1,hf1,hs1⟩:=hx.rules;(try simp at hs1);have z0:w.heap.size < w1.heap.size:=(by omega)) | (go_at_call 34;refine (HL.out _ (by (repeat (first | with_reducible exact za4 _ | with_reducible refine za9 ?_ _ | with_reducible refine zak ?_ (by first | (simp;done) | (simp;omega) | omega) _ | with_reducible refine zab ?_ | with_reducible refine Ext.trans ?_ (by assumption))))).mono ?_;rintro e w1 ⟨rfl,hx⟩;obtain ⟨hc1,hf1,hs1⟩:=hx.rules;(try simp at hs1);have z0:w.heap.size < w1.heap.size:=(by omega)))
 go_loopw [3] (fun i wr=>∃ k:Nat,k<=ps.length/\i = .int .i64 k/\VkTo r.of ps k/\Ext (w.alloc (Rp.obj a A ps.length c r)) wr) (fun i _=>ps.length - (intOf i).toNat)
 case atStart =>
  refine ⟨0,Nat.zero_le _,rfl,fun j hj hjk=>absurd hjk (by omega), ?_⟩
  (repeat (first | with_reducible exact za4 _ | with_reducible refine za9 ?_ _ | with_reducible refine zak ?_ (by first | (simp;done) | (simp;omega) | omega) _ | with_reducible refine zab ?_ | with_reducible refine Ext.trans ?_ (by assumption)))
 case round =>
  obtain ⟨k,hk,rfl,ht,hx0⟩:=hrel;have HTo:=Hd ht;clear ht;have B1:=hx0.box (hNew (w:=w) (o:=Rp.obj a A ps.length c r) rfl);have b1:=za2 B1;have f1:=zad B1;have z1:=bx_lt B1;have X1:=Ext.trans X0 hx0;clear B1;by_cases hlt:k < ps.length
  ·obtain ⟨ab,ao,hA,hab,a0,a1,a2,a3,a4,a5,a6,a7,a8,a9⟩:=(HR.out.v.1.keep X1).atVtE hlt;rw [hA] at b1;have HA:=Hd hA;have HC:=Hd (fun W (h:Ext wr W)=>zf6 ps[k].1 ps[k].2 r.of (by omega) (by omega) (HVS.out _ (List.getElem_mem hlt)) W ((HR.out.v.2 _ (List.getElem_mem hlt)).keep (Ext.trans X1 h)))
   clear hA;cases qv:vtOk r.of ps[k].2
   ·have HN:=Hd (rpNo_vote HR.out.e hlt qv);rw [qv] at HC;clear qv;go_wp2
    (refine mrx (fun _ _ _=>True) 9 (fun hg=>?_);simp only [Tc,Tz,Dc,Dz])
    (repeat (first | (refine mqu ?_;go_big_quiet_step (fail);refine mnil ?_) | (refine msk ?_;simp only [Act.put,Sa,Sz,Ss]) | (refine Rm.more ?_;refine mdt Tryz.func35 (fun W hW=>HC.out W hW) ?_;simp only [Act.put,Sa,Sz,Ss])))
    (refine Rm.wpMix_nil ?_;intro w2 hw2)
    go_wp2
    go_ret
    exact ⟨za7 HN.out.symm,Ext.trans X1 hw2⟩
   ·have HN:=Hd (HTo.out.next hlt qv)
    rw [qv] at HC;clear qv;go_wp2
    (refine mrx (fun _ _ _=>True) 9 (fun hg=>?_);simp only [Tc,Tz,Dc,Dz])
    (repeat (first | (refine mqu ?_;go_big_quiet_step (fail);refine mnil ?_) | (refine msk ?_;simp only [Act.put,Sa,Sz,Ss]) | (refine Rm.more ?_;refine mdt Tryz.func35 (fun W hW=>HC.out W hW) ?_;simp only [Act.put,Sa,Sz,Ss])))
    (refine Rm.wpMix_nil ?_;intro w2 hw2)
    go_wp2
    go_roundw
    case rel=>exact ⟨k+1,by omega,by go_num,HN.out,Ext.trans hx0 hw2⟩
    case measure=>simp [intOf] <;> omega
  ·obtain rfl:k=ps.length:=by omega
   have HV:=Hd (HT.out (rpOk_all HR.out.e HTo.out));clear q0 q1 q2 q3 q4 q5 q6 hx0;go_wp2_with (first | (go_at_call 36;refine (c_sSameLog0 a r.log _ HS.out.1 HS.out.2.1 HS.out.2.2).mono ?_;rintro e w1 ⟨rfl,hx⟩;obtain ⟨hc1,hf1,hs1⟩:=hx.rules;(try simp at hs1);have z0:w.heap.size < w1.heap.size:=(by omega)))
   all_goals
    go_ret
    refine ⟨za7 ?_, ?_⟩
    ·rw [<-HV.out]
     (first | (simp [rpTail,HLen.out, *];done) | (simp_all [rpTail,HLen.out];done) | (simp_all [rpTail,HLen.out];first | omega | (intro h;omega) | (rw [Bool.eq_iff_iff];simp;done)))
    ·(repeat (first | with_reducible exact za4 _ | with_reducible refine za9 ?_ _ | with_reducible refine zak ?_ (by first | (simp;done) | (simp;omega) | omega) _ | with_reducible refine zab ?_ | with_reducible refine Ext.trans ?_ (by assumption)))
theorem c_iReplicaOk (a:LAd) (A:Option Addr) (c:Nat) (ps:List VtE) (r:Rp) (w:World) (hr:RpR w a A c ps r) (hs:r.log.small) (hn:ps.length<=1048576) (hv:LgS ps) :
  Calls Tryz.prog 48 #[Rp.val a A ps.length c r] w fun e w'=>e = .returned (.bool (rpOk r))/\Ext w w':=by
 have X0:=za1 w (Rp.obj a A ps.length c r);have hlen:r.votes.length=ps.length:=by rw [<-hr.e];simp
 have HLen:=Hd hlen;have HR:=Hd hr;have HVS:=Hd hv;have HL:=Hd (fun W (h:Ext w W)=>c_hasNumber a r.log r.commit hs W (hr.l.keep h))
 have HS:=Hd hs;clear hr hs hv hlen;cases q0:ofB r.of
 ·have HN:=Hd (rpNo_0 q0)
  go_enter Tryz.func48,Tryz.ntmps48
  go_wp2_with (first | (go_at_call 38;refine (zgv _ _).mono ?_;rintro e w1 ⟨rfl,hx⟩;obtain ⟨hc1,hf1,hs1⟩:=hx.rules;(try simp at hs1);have z0:w.heap.size < w1.heap.size:=(by omega)) | (go_at_call 53;refine (zce _ _ _ _).mono ?_;rintro e w1 ⟨rfl,hx⟩;obtain ⟨hc1,hf1,hs1⟩:=hx.rules;(try simp at hs1);have z0:w.heap.size < w1.heap.size:=(by omega)) | (go_at_call 37;refine (zas _ _).mono ?_;rintro e w1 ⟨rfl,hx⟩;obtain ⟨hc1,hf1,hs1⟩:=hx.rules;(try simp at hs1);have z0:w.heap.size < w1.heap.size:=(by omega)) | (go_at_call 92;refine (HL.out _ (by (repeat (first | with_reducible exact za4 _ | with_reducible refine za9 ?_ _ | with_reducible refine zak ?_ (by first | (simp;done) | (simp;omega) | omega) _ | with_reducible refine zab ?_ | with_reducible refine Ext.trans ?_ (by assumption))))).mono ?_;rintro e w1 ⟨rfl,hx⟩;obtain ⟨hc1,hf1,hs1⟩:=hx.rules;(try simp at hs1);have z0:w.heap.size < w1.heap.size:=(by omega)))
  go_ret
  refine ⟨za7 HN.out.symm, ?_⟩
  (repeat (first | with_reducible exact za4 _ | with_reducible refine za9 ?_ _ | with_reducible refine zak ?_ (by first | (simp;done) | (simp;omega) | omega) _ | with_reducible refine zab ?_ | with_reducible refine Ext.trans ?_ (by assumption)))
 obtain ⟨ob0,ob1⟩:=ofB_b q0;cases q1:inB r.me 0 (r.of - 1)
 ·have HN:=Hd (rpNo_1 q1)
  go_enter Tryz.func48,Tryz.ntmps48
  go_wp2_with (first | (go_at_call 38;refine (zgv _ _).mono ?_;rintro e w1 ⟨rfl,hx⟩;obtain ⟨hc1,hf1,hs1⟩:=hx.rules;(try simp at hs1);have z0:w.heap.size < w1.heap.size:=(by omega)) | (go_at_call 53;refine (zce _ _ _ _).mono ?_;rintro e w1 ⟨rfl,hx⟩;obtain ⟨hc1,hf1,hs1⟩:=hx.rules;(try simp at hs1);have z0:w.heap.size < w1.heap.size:=(by omega)) | (go_at_call 37;refine (zas _ _).mono ?_;rintro e w1 ⟨rfl,hx⟩;obtain ⟨hc1,hf1,hs1⟩:=hx.rules;(try simp at hs1);have z0:w.heap.size < w1.heap.size:=(by omega)) | (go_at_call 92;refine (HL.out _ (by (repeat (first | with_reducible exact za4 _ | with_reducible refine za9 ?_ _ | with_reducible refine zak ?_ (by first | (simp;done) | (simp;omega) | omega) _ | with_reducible refine zab ?_ | with_reducible refine Ext.trans ?_ (by assumption))))).mono ?_;rintro e w1 ⟨rfl,hx⟩;obtain ⟨hc1,hf1,hs1⟩:=hx.rules;(try simp at hs1);have z0:w.heap.size < w1.heap.size:=(by omega)))
  go_ret
  refine ⟨za7 HN.out.symm, ?_⟩
  (repeat (first | with_reducible exact za4 _ | with_reducible refine za9 ?_ _ | with_reducible refine zak ?_ (by first | (simp;done) | (simp;omega) | omega) _ | with_reducible refine zab ?_ | with_reducible refine Ext.trans ?_ (by assumption)))
 cases q2:inB r.view 0 1000000000
 ·have HN:=Hd (rpNo_2 q2)
  go_enter Tryz.func48,Tryz.ntmps48
  go_wp2_with (first | (go_at_call 38;refine (zgv _ _).mono ?_;rintro e w1 ⟨rfl,hx⟩;obtain ⟨hc1,hf1,hs1⟩:=hx.rules;(try simp at hs1);have z0:w.heap.size < w1.heap.size:=(by omega)) | (go_at_call 53;refine (zce _ _ _ _).mono ?_;rintro e w1 ⟨rfl,hx⟩;obtain ⟨hc1,hf1,hs1⟩:=hx.rules;(try simp at hs1);have z0:w.heap.size < w1.heap.size:=(by omega)) | (go_at_call 37;refine (zas _ _).mono ?_;rintro e w1 ⟨rfl,hx⟩;obtain ⟨hc1,hf1,hs1⟩:=hx.rules;(try simp at hs1);have z0:w.heap.size < w1.heap.size:=(by omega)) | (go_at_call 92;refine (HL.out _ (by (repeat (first | with_reducible exact za4 _ | with_reducible refine za9 ?_ _ | with_reducible refine zak ?_ (by first | (simp;done) | (simp;omega) | omega) _ | with_reducible refine zab ?_ | with_reducible refine Ext.trans ?_ (by assumption))))).mono ?_;rintro e w1 ⟨rfl,hx⟩;obtain ⟨hc1,hf1,hs1⟩:=hx.rules;(try simp at hs1);have z0:w.heap.size < w1.heap.size:=(by omega)))
  go_ret
  refine ⟨za7 HN.out.symm, ?_⟩
  (repeat (first | with_reducible exact za4 _ | with_reducible refine za9 ?_ _ | with_reducible refine zak ?_ (by first | (simp;done) | (simp;omega) | omega) _ | with_reducible refine zab ?_ | with_reducible refine Ext.trans ?_ (by assumption)))
 cases q3:inB r.normal 0 1000000000
 ·have HN:=Hd (rpNo_3 q3)
  go_enter Tryz.func48,Tryz.ntmps48
  go_wp2_with (first | (go_at_call 38;refine (zgv _ _).mono ?_;rintro e w1 ⟨rfl,hx⟩;obtain ⟨hc1,hf1,hs1⟩:=hx.rules;(try simp at hs1);have z0:w.heap.size < w1.heap.size:=(by omega)) | (go_at_call 53;refine (zce _ _ _ _).mono ?_;rintro e w1 ⟨rfl,hx⟩;obtain ⟨hc1,hf1,hs1⟩:=hx.rules;(try simp at hs1);have z0:w.heap.size < w1.heap.size:=(by omega)) | (go_at_call 37;refine (zas _ _).mono ?_;rintro e w1 ⟨rfl,hx⟩;obtain ⟨hc1,hf1,hs1⟩:=hx.rules;(try simp at hs1);have z0:w.heap.size < w1.heap.size:=(by omega)) | (go_at_call 92;refine (HL.out _ (by (repeat (first | with_reducible exact za4 _ | with_reducible refine za9 ?_ _ | with_reducible refine zak ?_ (by first | (simp;done) | (simp;omega) | omega) _ | with_reducible refine zab ?_ | with_reducible refine Ext.trans ?_ (by assumption))))).mono ?_;rintro e w1 ⟨rfl,hx⟩;obtain ⟨hc1,hf1,hs1⟩:=hx.rules;(try simp at hs1);have z0:w.heap.size < w1.heap.size:=(by omega)))
  go_ret
  refine ⟨za7 HN.out.symm, ?_⟩
  (repeat (first | with_reducible exact za4 _ | with_reducible refine za9 ?_ _ | with_reducible refine zak ?_ (by first | (simp;done) | (simp;omega) | omega) _ | with_reducible refine zab ?_ | with_reducible refine Ext.trans ?_ (by assumption)))
 cases q4:inB r.cell 0 1000000000
 ·have HN:=Hd (rpNo_4 q4)
  go_enter Tryz.func48,Tryz.ntmps48
  go_wp2_with (first | (go_at_call 38;refine (zgv _ _).mono ?_;rintro e w1 ⟨rfl,hx⟩;obtain ⟨hc1,hf1,hs1⟩:=hx.rules;(try simp at hs1);have z0:w.heap.size < w1.heap.size:=(by omega)) | (go_at_call 53;refine (zce _ _ _ _).mono ?_;rintro e w1 ⟨rfl,hx⟩;obtain ⟨hc1,hf1,hs1⟩:=hx.rules;(try simp at hs1);have z0:w.heap.size < w1.heap.size:=(by omega)) | (go_at_call 37;refine (zas _ _).mono ?_;rintro e w1 ⟨rfl,hx⟩;obtain ⟨hc1,hf1,hs1⟩:=hx.rules;(try simp at hs1);have z0:w.heap.size < w1.heap.size:=(by omega)) | (go_at_call 92;refine (HL.out _ (by (repeat (first | with_reducible exact za4 _ | with_reducible refine za9 ?_ _ | with_reducible refine zak ?_ (by first | (simp;done) | (simp;omega) | omega) _ | with_reducible refine zab ?_ | with_reducible refine Ext.trans ?_ (by assumption))))).mono ?_;rintro e w1 ⟨rfl,hx⟩;obtain ⟨hc1,hf1,hs1⟩:=hx.rules;(try simp at hs1);have z0:w.heap.size < w1.heap.size:=(by omega)))
  go_ret
  refine ⟨za7 HN.out.symm, ?_⟩
  (repeat (first | with_reducible exact za4 _ | with_reducible refine za9 ?_ _ | with_reducible refine zak ?_ (by first | (simp;done) | (simp;omega) | omega) _ | with_reducible refine zab ?_ | with_reducible refine Ext.trans ?_ (by assumption)))
 cases q5:inB r.nonce 0 1000000000
 ·have HN:=Hd (rpNo_5 q5)
  go_enter Tryz.func48,Tryz.ntmps48
  go_wp2_with (first | (go_at_call 38;refine (zgv _ _).mono ?_;rintro e w1 ⟨rfl,hx⟩;obtain ⟨hc1,hf1,hs1⟩:=hx.rules;(try simp at hs1);have z0:w.heap.size < w1.heap.size:=(by omega)) | (go_at_call 53;refine (zce _ _ _ _).mono ?_;rintro e w1 ⟨rfl,hx⟩;obtain ⟨hc1,hf1,hs1⟩:=hx.rules;(try simp at hs1);have z0:w.heap.size < w1.heap.size:=(by omega)) | (go_at_call 37;refine (zas _ _).mono ?_;rintro e w1 ⟨rfl,hx⟩;obtain ⟨hc1,hf1,hs1⟩:=hx.rules;(try simp at hs1);have z0:w.heap.size < w1.heap.size:=(by omega)) | (go_at_call 92;refine (HL.out _ (by (repeat (first | with_reducible exact za4 _ | with_reducible refine za9 ?_ _ | with_reducible refine zak ?_ (by first | (simp;done) | (simp;omega) | omega) _ | with_reducible refine zab ?_ | with_reducible refine Ext.trans ?_ (by assumption))))).mono ?_;rintro e w1 ⟨rfl,hx⟩;obtain ⟨hc1,hf1,hs1⟩:=hx.rules;(try simp at hs1);have z0:w.heap.size < w1.heap.size:=(by omega)))
  go_ret
  refine ⟨za7 HN.out.symm, ?_⟩
  (repeat (first | with_reducible exact za4 _ | with_reducible refine za9 ?_ _ | with_reducible refine zak ?_ (by first | (simp;done) | (simp;omega) | omega) _ | with_reducible refine zab ?_ | with_reducible refine Ext.trans ?_ (by assumption)))
 cases q6:zb8 r.log r.commit
 ·have HN:=Hd (rpNo_6 q6)
  go_enter Tryz.func48,Tryz.ntmps48
  go_wp2_with (first | (go_at_call 38;refine (zgv _ _).mono ?_;rintro e w1 ⟨rfl,hx⟩;obtain ⟨hc1,hf1,hs1⟩:=hx.rules;(try simp at hs1);have z0:w.heap.size < w1.heap.size:=(by omega)) | (go_at_call 53;refine (zce _ _ _ _).mono ?_;rintro e w1 ⟨rfl,hx⟩;obtain ⟨hc1,hf1,hs1⟩:=hx.rules;(try simp at hs1);have z0:w.heap.size < w1.heap.size:=(by omega)) | (go_at_call 37;refine (zas _ _).mono ?_;rintro e w1 ⟨rfl,hx⟩;obtain ⟨hc1,hf1,hs1⟩:=hx.rules;(try simp at hs1);have z0:w.heap.size < w1.heap.size:=(by omega)) | (go_at_call 92;refine (HL.out _ (by (repeat (first | with_reducible exact za4 _ | with_reducible refine za9 ?_ _ | with_reducible refine zak ?_ (by first | (simp;done) | (simp;omega) | omega) _ | with_reducible refine zab ?_ | with_reducible refine Ext.trans ?_ (by assumption))))).mono ?_;rintro e w1 ⟨rfl,hx⟩;obtain ⟨hc1,hf1,hs1⟩:=hx.rules;(try simp at hs1);have z0:w.heap.size < w1.heap.size:=(by omega)))
  go_ret
  refine ⟨za7 HN.out.symm, ?_⟩
  (repeat (first | with_reducible exact za4 _ | with_reducible refine za9 ?_ _ | with_reducible refine zak ?_ (by first | (simp;done) | (simp;omega) | omega) _ | with_reducible refine zab ?_ | with_reducible refine Ext.trans ?_ (by assumption)))
 rcases Nat.lt_or_ge 20 ps.length with hgt | h20
 ·have h20:¬ ps.length<=20:=by omega
  have g20:decide ((20:Int) < (ps.length:Int))=true:=by simp;omega
  have HN:=Hd (rpNo_len (r:=r) (by rw [HLen.out];exact h20))
  clear h20 hgt
  go_enter Tryz.func48,Tryz.ntmps48
  go_wp2_with (first | (go_at_call 38;refine (zgv _ _).mono ?_;rintro e w1 ⟨rfl,hx⟩;obtain ⟨hc1,hf1,hs1⟩:=hx.rules;(try simp at hs1);have z0:w.heap.size < w1.heap.size:=(by omega)) | (go_at_call 53;refine (zce _ _ _ _).mono ?_;rintro e w1 ⟨rfl,hx⟩;obtain ⟨hc1,hf1,hs1⟩:=hx.rules;(try simp at hs1);have z0:w.heap.size < w1.heap.size:=(by omega)) | (go_at_call 37;refine (zas _ _).mono ?_;rintro e w1 ⟨rfl,hx⟩;obtain ⟨hc1,hf1,hs1⟩:=hx.rules;(try simp at hs1);have z0:w.heap.size < w1.heap.size:=(by omega)) | (go_at_call 92;refine (HL.out _ (by (repeat (first | with_reducible exact za4 _ | with_reducible refine za9 ?_ _ | with_reducible refine zak ?_ (by first | (simp;done) | (simp;omega) | omega) _ | with_reducible refine zab ?_ | with_reducible refine Ext.trans ?_ (by assumption))))).mono ?_;rintro e w1 ⟨rfl,hx⟩;obtain ⟨hc1,hf1,hs1⟩:=hx.rules;(try simp at hs1);have z0:w.heap.size < w1.heap.size:=(by omega)))
  go_ret
  refine ⟨za7 HN.out.symm, ?_⟩
  (repeat (first | with_reducible exact za4 _ | with_reducible refine za9 ?_ _ | with_reducible refine zak ?_ (by first | (simp;done) | (simp;omega) | omega) _ | with_reducible refine zab ?_ | with_reducible refine Ext.trans ?_ (by assumption)))
 have g20:decide ((20:Int) < (ps.length:Int))=false:=by simp;omega
 have HT:=Hd (fun (h9:r.votes.all (vtOk r.of)=true)=>rpOk_tail q0 q1 q2 q3 q4 q5 q6 (by rw [HLen.out];exact h20) h9)
 have HAny:=Hd (fun W (h:Ext (w.alloc (Rp.obj a A ps.length c r)) W)=>c_anyVtE 94 #[.pointer (some ⟨w.heap.size,0,none⟩)] (fun p=>!vtOk r.of p.2) (enters Tryz.func94 (by kernel_rfl) rfl) A c ps W (HR.out.v.1.keep (Ext.trans X0 h)) (by omega) (fun W2 h2 k hk=>c_badVote ps[k].1 ps[k].2 w.heap.size a A ps.length c r (by omega) (by omega) (HVS.out _ (List.getElem_mem hk)) W2 ((HR.out.v.2 _ (List.getElem_mem hk)).keep (Ext.trans X0 (Ext.trans h h2))) ((Ext.trans h h2).box (hNew (w:=w) (o:=Rp.obj a A ps.length c r) rfl))))
 cases qa:ps.any (fun p=>!vtOk r.of p.2)
 ·have HV:=Hd (HT.out (by rw [rpOk_any HR.out.e,qa];rfl))
  rw [qa] at HAny;clear qa
  go_enter Tryz.func48,Tryz.ntmps48
  go_wp2_with (first | (go_at_call 93;refine (HAny.out _ (by (repeat (first | with_reducible exact za4 _ | with_reducible refine za9 ?_ _ | with_reducible refine zak ?_ (by first | (simp;done) | (simp;omega) | omega) _ | with_reducible refine zab ?_ | with_reducible refine Ext.trans ?_ (by assumption))))).mono ?_;rintro e w1 ⟨rfl,hx⟩;obtain ⟨hc1,hf1,hs1⟩:=hx.rules;(try simp at hs1);have z0:w.heap.size < w1.heap.size:=(by omega)) | (first | (go_at_call 38;refine (zgv _ _).mono ?_;rintro e w1 ⟨rfl,hx⟩;obtain ⟨hc1,hf1,hs1⟩:=hx.rules;(try simp at hs1);have z0:w.heap.size < w1.heap.size:=(by omega)) | (go_at_call 53;refine (zce _ _ _ _).mono ?_;rintro e w1 ⟨rfl,hx⟩;obtain ⟨hc1,hf1,hs1⟩:=hx.rules;(try simp at hs1);have z0:w.heap.size < w1.heap.size:=(by omega)) | (go_at_call 37;refine (zas _ _).mono ?_;rintro e w1 ⟨rfl,hx⟩;obtain ⟨hc1,hf1,hs1⟩:=hx.rules;(try simp at hs1);have z0:w.heap.size < w1.heap.size:=(by omega)) | (go_at_call 92;refine (HL.out _ (by (repeat (first | with_reducible exact za4 _ | with_reducible refine za9 ?_ _ | with_reducible refine zak ?_ (by first | (simp;done) | (simp;omega) | omega) _ | with_reducible refine zab ?_ | with_reducible refine Ext.trans ?_ (by assumption))))).mono ?_;rintro e w1 ⟨rfl,hx⟩;obtain ⟨hc1,hf1,hs1⟩:=hx.rules;(try simp at hs1);have z0:w.heap.size < w1.heap.size:=(by omega))) | (first | (go_at_call 96;refine (c_isLogZero a r.log _ HS.out.1 HS.out.2.1 HS.out.2.2).mono ?_;rintro e w1 ⟨rfl,hx⟩;obtain ⟨hc1,hf1,hs1⟩:=hx.rules;(try simp at hs1);have z0:w.heap.size < w1.heap.size:=(by omega))))
  all_goals
   go_ret
   refine ⟨za7 ?_, ?_⟩
   ·rw [<-HV.out]
    (first | (simp [rpTail,HLen.out, *];done) | (simp_all [rpTail,HLen.out];done) | (simp_all [rpTail,HLen.out];first | omega | (intro h;omega) | (rw [Bool.eq_iff_iff];simp;done)))
   ·(repeat (first | with_reducible exact za4 _ | with_reducible refine za9 ?_ _ | with_reducible refine zak ?_ (by first | (simp;done) | (simp;omega) | omega) _ | with_reducible refine zab ?_ | with_reducible refine Ext.trans ?_ (by assumption)))
 ·have HN:=Hd (show rpOk r=false by simp [rpOk,rpOk_any HR.out.e,qa])
  rw [qa] at HAny;clear qa
  go_enter Tryz.func48,Tryz.ntmps48
  go_wp2_with (first | (go_at_call 93;refine (HAny.out _ (by (repeat (first | with_reducible exact za4 _ | with_reducible refine za9 ?_ _ | with_reducible refine zak ?_ (by first | (simp;done) | (simp;omega) | omega) _ | with_reducible refine zab ?_ | with_reducible refine Ext.trans ?_ (by assumption))))).mono ?_;rintro e w1 ⟨rfl,hx⟩;obtain ⟨hc1,hf1,hs1⟩:=hx.rules;(try simp at hs1);have z0:w.heap.size < w1.heap.size:=(by omega)) | (first | (go_at_call 38;refine (zgv _ _).mono ?_;rintro e w1 ⟨rfl,hx⟩;obtain ⟨hc1,hf1,hs1⟩:=hx.rules;(try simp at hs1);have z0:w.heap.size < w1.heap.size:=(by omega)) | (go_at_call 53;refine (zce _ _ _ _).mono ?_;rintro e w1 ⟨rfl,hx⟩;obtain ⟨hc1,hf1,hs1⟩:=hx.rules;(try simp at hs1);have z0:w.heap.size < w1.heap.size:=(by omega)) | (go_at_call 37;refine (zas _ _).mono ?_;rintro e w1 ⟨rfl,hx⟩;obtain ⟨hc1,hf1,hs1⟩:=hx.rules;(try simp at hs1);have z0:w.heap.size < w1.heap.size:=(by omega)) | (go_at_call 92;refine (HL.out _ (by (repeat (first | with_reducible exact za4 _ | with_reducible refine za9 ?_ _ | with_reducible refine zak ?_ (by first | (simp;done) | (simp;omega) | omega) _ | with_reducible refine zab ?_ | with_reducible refine Ext.trans ?_ (by assumption))))).mono ?_;rintro e w1 ⟨rfl,hx⟩;obtain ⟨hc1,hf1,hs1⟩:=hx.rules;(try simp at hs1);have z0:w.heap.size < w1.heap.size:=(by omega))))
  go_ret
  refine ⟨za7 HN.out.symm, ?_⟩
  (repeat (first | with_reducible exact za4 _ | with_reducible refine za9 ?_ _ | with_reducible refine zak ?_ (by first | (simp;done) | (simp;omega) | omega) _ | with_reducible refine zab ?_ | with_reducible refine Ext.trans ?_ (by assumption)))
end Go.Proofs.YtckfjploafhenaaGreat
