/- A typed replica has a reading. -/
import Derived.Test.YtckfjploafhenaaGreatPk17
import Derived.Test.YtckfjploafhenaaGreatPk19
import Derived.Test.YtckfjploafhenaaGreatPk20
import Derived.Test.YtckfjploafhenaaGreatPk18
import Derived.Test.YtckfjploafhenaaGreatProg
import Derived.Test.YtckfjploafhenaaGreatPk16
set_option maxRecDepth 100000
set_option maxHeartbeats 16000000
set_option linter.unusedVariables false
set_option linter.unusedSimpArgs false
namespace Go.Proofs.YtckfjploafhenaaGreat.Ai
open Go.RowKit
noncomputable def cy (K:Int) (B pc:Nat) (Cu:World->Prop):Cx:=⟨Tryz.prog,tb K,B,pc,Cu⟩
section
variable {K:Int} {B pc:Nat} {Cu:World->Prop} {R:Nat->Prop} {w:World}
theorem zb7 {C:Cx} {ks:List Ck} {j:Nat} {v:Value} (h:∃ k,nth ks j=some k/\CkOk C R w k v) (e:nth ks j=some ii):∃ z,v = .int .i64 z:=by
 obtain ⟨k,h1,h2⟩:=h;rw [e] at h1;cases h1;obtain ⟨z,hz,_⟩:=h2;exact ⟨z,hz⟩
theorem sl_at {C:Cx} {ks:List Ck} {j T:Nat} {v:Value} (h:∃ k,nth ks j=some k/\CkOk C R w k v) (e:nth ks j=some (.sl T)):∃ a m c z,v = .slice a m c/\SlOk C R w T (.slice a m c) z:=by
 obtain ⟨k,h1,h2⟩:=h;rw [e] at h1;cases h1;obtain ⟨z,hz⟩:=h2;have hz2:=hz;obtain ⟨a,m,c,hv,_⟩:=hz2;exact ⟨a,m,c,z,hv,by rw [<-hv];exact hz⟩
theorem cel_of (hr:Rows (cy K B pc Cu) R w) {a:Option Addr} {m d:Nat} {z:Int} (h:SlOk (cy K B pc Cu) R w 162 (.slice a m d) z):∃ l:List Cel,l.length=m/\l.length<=1048576/\Rd Cel.enc 2 w a d l:=by
 obtain ⟨l,h1,h2,_,h3⟩:=rd_of hr h (enc:=Cel.enc) (P:=fun _=>True) (fun vs hl ht=>by
  match vs,hl with
  | [v0,v1],_ =>
   obtain ⟨z0,rfl⟩:=zb7 (ht 0 v0 rfl) rfl;obtain ⟨z1,rfl⟩:=zb7 (ht 1 v1 rfl) rfl
   exact ⟨⟨z0,z1⟩,rfl,trivial⟩)
 exact ⟨l,h1,h2,h3⟩
theorem sea_of (hr:Rows (cy K B pc Cu) R w) {a:Option Addr} {m d:Nat} {z:Int} (h:SlOk (cy K B pc Cu) R w 111 (.slice a m d) z):∃ l:List Sea,l.length=m/\l.length<=1048576/\Rd Sea.enc 3 w a d l:=by
 obtain ⟨l,h1,h2,_,h3⟩:=rd_of hr h (enc:=Sea.enc) (P:=fun _=>True) (fun vs hl ht=>by
  match vs,hl with
  | [v0,v1,v2],_ =>
   obtain ⟨z0,rfl⟩:=zb7 (ht 0 v0 rfl) rfl;obtain ⟨z1,rfl⟩:=zb7 (ht 1 v1 rfl) rfl;obtain ⟨z2,rfl⟩:=zb7 (ht 2 v2 rfl) rfl
   exact ⟨⟨z0,z1,z2⟩,rfl,trivial⟩)
 exact ⟨l,h1,h2,h3⟩
theorem ent_of (hr:Rows (cy K B pc Cu) R w) {a:Option Addr} {m d:Nat} {z:Int} (h:SlOk (cy K B pc Cu) R w 104 (.slice a m d) z):∃ l:List Ent,l.length=m/\l.length<=1048576/\Rd Ent.enc 5 w a d l:=by
 obtain ⟨l,h1,h2,_,h3⟩:=rd_of hr h (enc:=Ent.enc) (P:=fun _=>True) (fun vs hl ht=>by
  match vs,hl with
  | [v0,v1,v2,v3,v4],_ =>
   obtain ⟨z0,rfl⟩:=zb7 (ht 0 v0 rfl) rfl;obtain ⟨z1,rfl⟩:=zb7 (ht 1 v1 rfl) rfl;obtain ⟨z2,rfl⟩:=zb7 (ht 2 v2 rfl) rfl;obtain ⟨z3,rfl⟩:=zb7 (ht 3 v3 rfl) rfl;obtain ⟨z4,rfl⟩:=zb7 (ht 4 v4 rfl) rfl
   exact ⟨⟨z0,z1,z2,z3,z4⟩,rfl,trivial⟩)
 exact ⟨l,h1,h2,h3⟩
theorem log_of (hr:Rows (cy K B pc Cu) R w) (b:Int) {a1 a2 a3:Option Addr} {m1 c1 m2 c2 m3 c3:Nat} {z1 z2 z3:Int} (h1:SlOk (cy K B pc Cu) R w 162 (.slice a1 m1 c1) z1) (h2:SlOk (cy K B pc Cu) R w 111 (.slice a2 m2 c2) z2) (h3:SlOk (cy K B pc Cu) R w 104 (.slice a3 m3 c3) z3) :
  ∃ l:Lg,l.base=b/\l.cells.length=m1/\l.seats.length=m2/\l.ents.length=m3/\(l.cells.length<=1048576/\l.seats.length<=1048576/\l.ents.length<=1048576)/\LgR w ⟨a1,c1,a2,c2,a3,c3⟩ l:=by
 obtain ⟨x,x1,x2,x3⟩:=cel_of hr h1;obtain ⟨y,y1,y2,y3⟩:=sea_of hr h2;obtain ⟨u,u1,u2,u3⟩:=ent_of hr h3;exact ⟨⟨b,x,y,u⟩,rfl,x1,y1,u1,⟨x2,y2,u2⟩,x3,y3,u3⟩
theorem cks_of {C:Cx}:∀ {cs:List Ck} {vs:List Value},cs.length=vs.length->(∀ j v,vs[j]?=some v->∃ k,nth cs j=some k/\CkOk C R w k v)->CksOk C R w cs vs
 | [],[],_,_=>trivial
 | [],_::_,h,_=>by simp at h
 | _::_,[],h,_=>by simp at h
 | k::cs,v::vs,h,g=>by
  obtain ⟨k',e,h1⟩:=g 0 v rfl;cases e;exact ⟨h1,cks_of (by simpa using h) fun j u hj=>g (j+1) u (by simpa using hj)⟩
def zht:List Ck:=[ii,ii,ii,ii,ii,ii,ii, .sl 162, .sl 111, .sl 104]
theorem votes_of (hr:Rows (cy K B pc Cu) R w) {a:Option Addr} {m d:Nat} {z:Int} (h:SlOk (cy K B pc Cu) R w 45 (.slice a m d) z):∃ l:List VtE,l.length=m/\l.length<=1048576/\VsR w a d l/\(∀ p∈l,p.2.log.cells.length<=1048576/\p.2.log.seats.length<=1048576/\p.2.log.ents.length<=1048576)/\∀ p∈l,CksOk (cy K B pc Cu) R w zht (VtE.enc p):=by
 obtain ⟨l,h1,h2,h3,h4⟩:=rd_of hr h (enc:=VtE.enc) (P:=fun p=>(p.2.log.cells.length<=1048576/\p.2.log.seats.length<=1048576/\p.2.log.ents.length<=1048576)/\LgR w p.1 p.2.log/\CksOk (cy K B pc Cu) R w zht (VtE.enc p)) (fun vs hl ht=>by
  have hck:CksOk (cy K B pc Cu) R w zht vs:=cks_of (by rw [hl];rfl) ht
  match vs,hl with
  | [v0,v1,v2,v3,v4,v5,v6,v7,v8,v9],_ =>
   obtain ⟨z0,rfl⟩:=zb7 (ht 0 v0 rfl) rfl;obtain ⟨z1,rfl⟩:=zb7 (ht 1 v1 rfl) rfl;obtain ⟨z2,rfl⟩:=zb7 (ht 2 v2 rfl) rfl;obtain ⟨z3,rfl⟩:=zb7 (ht 3 v3 rfl) rfl;obtain ⟨z4,rfl⟩:=zb7 (ht 4 v4 rfl) rfl;obtain ⟨z5,rfl⟩:=zb7 (ht 5 v5 rfl) rfl;obtain ⟨z6,rfl⟩:=zb7 (ht 6 v6 rfl) rfl;obtain ⟨b1,n1,d1,e1,rfl,s1⟩:=sl_at (ht 7 v7 rfl) rfl;obtain ⟨b2,n2,d2,e2,rfl,s2⟩:=sl_at (ht 8 v8 rfl) rfl;obtain ⟨b3,n3,d3,e3,rfl,s3⟩:=sl_at (ht 9 v9 rfl) rfl;obtain ⟨l,rfl,rfl,rfl,rfl,hs,hg⟩:=log_of hr z6 s1 s2 s3
   exact ⟨(⟨b1,d1,b2,d2,b3,d3⟩,⟨z0,z1,z2,z3,z4,z5,l⟩),rfl,hs,hg,hck⟩)
 exact ⟨l,h1,h2,⟨h4,fun p hp=>(h3 p hp).2.1⟩,fun p hp=>(h3 p hp).1,fun p hp=>(h3 p hp).2.2⟩
end
end Go.Proofs.YtckfjploafhenaaGreat.Ai
namespace Go.Proofs.YtckfjploafhenaaGreat.Ai
open Go.RowKit
theorem rep_of {K:Int} {B pc:Nat} {Cu:World->Prop} {R:Nat->Prop} {w:World} (hr:Rows (cy K B pc Cu) R w) {v:Value} (h:ValOk (cy K B pc Cu) R w (true,[ii, .int .i64 0 K,ii,ii,ii,ii,ii, .sl 162, .sl 111, .sl 104, .sl 45,ii,ii]) v) :
  ∃ (a:LAd) (V:Option Addr) (d:Nat) (ps:List VtE) (r:Rp),v=Rp.val a V ps.length d r/\RpR w a V d ps r/\(0<=r.of/\r.of<=K)/\(r.log.cells.length<=1048576/\r.log.seats.length<=1048576/\r.log.ents.length<=1048576)/\ps.length<=1048576 /\
   (∀ p∈ps,p.2.log.cells.length<=1048576/\p.2.log.seats.length<=1048576/\p.2.log.ents.length<=1048576)/\∀ p∈ps,CksOk (cy K B pc Cu) R w zht (VtE.enc p):=by
 obtain ⟨arr,rfl,h⟩:=h;obtain ⟨hl,ht⟩:=h.at;obtain ⟨l⟩:=arr;simp only at hl ht
 have g:∀ j v,l[j]?=some v->∃ k,nth [ii,Ck.int .i64 0 K,ii,ii,ii,ii,ii, .sl 162, .sl 111, .sl 104, .sl 45,ii,ii] j=some k/\CkOk (cy K B pc Cu) R w k v:=by
  intro j v hj;have hlt:=(List.getElem?_eq_some_iff.1 hj).1;rw [<-hl] at hlt;have hk:=List.getElem?_eq_getElem hlt;exact ⟨_,by rw [zbv];exact hk,ht j _ v hk hj⟩
 match l,hl with
 | [v0,v1,v2,v3,v4,v5,v6,v7,v8,v9,v10,v11,v12],_ =>
  obtain ⟨z0,rfl⟩:=zb7 (g 0 v0 rfl) rfl;obtain ⟨k1,e1,f1⟩:=g 1 v1 rfl;cases e1;obtain ⟨z1,rfl,o1,o2⟩:=f1;obtain ⟨z2,rfl⟩:=zb7 (g 2 v2 rfl) rfl;obtain ⟨z3,rfl⟩:=zb7 (g 3 v3 rfl) rfl;obtain ⟨z4,rfl⟩:=zb7 (g 4 v4 rfl) rfl;obtain ⟨z5,rfl⟩:=zb7 (g 5 v5 rfl) rfl;obtain ⟨z6,rfl⟩:=zb7 (g 6 v6 rfl) rfl;obtain ⟨b1,n1,d1,e1,rfl,s1⟩:=sl_at (g 7 v7 rfl) rfl;obtain ⟨b2,n2,d2,e2,rfl,s2⟩:=sl_at (g 8 v8 rfl) rfl;obtain ⟨b3,n3,d3,e3,rfl,s3⟩:=sl_at (g 9 v9 rfl) rfl;obtain ⟨b4,n4,d4,e4,rfl,s4⟩:=sl_at (g 10 v10 rfl) rfl;obtain ⟨z7,rfl⟩:=zb7 (g 11 v11 rfl) rfl;obtain ⟨z8,rfl⟩:=zb7 (g 12 v12 rfl) rfl;obtain ⟨lg,rfl,rfl,rfl,rfl,hs,hg⟩:=log_of hr z6 s1 s2 s3;obtain ⟨ps,rfl,p2,p3,p4,p5⟩:=votes_of hr s4;exact ⟨⟨b1,d1,b2,d2,b3,d3⟩,b4,d4,ps,⟨z0,z1,z2,z3,z4,z5,lg,ps.map Prod.snd,z7,z8⟩,rfl,⟨hg,p3,rfl⟩,⟨o1,o2⟩,hs,p2,p4,p5⟩
end Go.Proofs.YtckfjploafhenaaGreat.Ai
namespace Go.Proofs.YtckfjploafhenaaGreat.Ai
open Go.RowKit
theorem msg_of {K:Int} {B pc:Nat} {Cu:World->Prop} {R:Nat->Prop} {w:World} (hr:Rows (cy K B pc Cu) R w) {v:Value} (h:ValOk (cy K B pc Cu) R w (true,msgCells) v) :
  ∃ (a:LAd) (m:Mg),v=Mg.val a m/\LgR w a m.log/\(m.log.cells.length<=1048576/\m.log.seats.length<=1048576/\m.log.ents.length<=1048576):=by
 obtain ⟨arr,rfl,h⟩:=h;obtain ⟨hl,ht⟩:=h.at;obtain ⟨l⟩:=arr;simp only at hl ht
 have g:∀ j v,l[j]?=some v->∃ k,nth msgCells j=some k/\CkOk (cy K B pc Cu) R w k v:=by
  intro j v hj;have hlt:=(List.getElem?_eq_some_iff.1 hj).1;rw [<-hl] at hlt;have hk:=List.getElem?_eq_getElem hlt;exact ⟨_,by rw [zbv];exact hk,ht j _ v hk hj⟩
 match l,hl with
 | [v0,v1,v2,v3,v4,v5,v6,v7,v8,v9,v10,v11,v12,v13,v14,v15,v16],_ =>
  obtain ⟨z0,rfl⟩:=zb7 (g 0 v0 rfl) rfl;obtain ⟨z1,rfl⟩:=zb7 (g 1 v1 rfl) rfl;obtain ⟨z2,rfl⟩:=zb7 (g 2 v2 rfl) rfl;obtain ⟨z3,rfl⟩:=zb7 (g 3 v3 rfl) rfl;obtain ⟨z4,rfl⟩:=zb7 (g 4 v4 rfl) rfl;obtain ⟨z5,rfl⟩:=zb7 (g 5 v5 rfl) rfl;obtain ⟨z6,rfl⟩:=zb7 (g 6 v6 rfl) rfl;obtain ⟨z7,rfl⟩:=zb7 (g 7 v7 rfl) rfl;obtain ⟨z8,rfl⟩:=zb7 (g 8 v8 rfl) rfl;obtain ⟨z9,rfl⟩:=zb7 (g 9 v9 rfl) rfl;obtain ⟨z10,rfl⟩:=zb7 (g 10 v10 rfl) rfl;obtain ⟨z11,rfl⟩:=zb7 (g 11 v11 rfl) rfl;obtain ⟨z12,rfl⟩:=zb7 (g 12 v12 rfl) rfl;obtain ⟨z13,rfl⟩:=zb7 (g 13 v13 rfl) rfl;obtain ⟨b1,n1,d1,e1,rfl,s1⟩:=sl_at (g 14 v14 rfl) rfl;obtain ⟨b2,n2,d2,e2,rfl,s2⟩:=sl_at (g 15 v15 rfl) rfl;obtain ⟨b3,n3,d3,e3,rfl,s3⟩:=sl_at (g 16 v16 rfl) rfl;obtain ⟨lg,rfl,rfl,rfl,rfl,hs,hg⟩:=log_of hr z13 s1 s2 s3;exact ⟨⟨b1,d1,b2,d2,b3,d3⟩,⟨z0,z1,z2,z3,z4,z5,z6,z7,z8,z9,z10,z11,z12,lg⟩,rfl,hg,hs⟩
end Go.Proofs.YtckfjploafhenaaGreat.Ai
namespace Go.Proofs.YtckfjploafhenaaGreat.Ai
open Go.RowKit
def s00:AS:=⟨[],[],0,[],[],[]⟩
theorem lay_stt {C:Cx} {R R1:Nat->Prop} {w W:World} (hp:Hp C R1 W) (gw:Gw C R R1 w W) (r0:∀ q,R q->q < w.heap.size) {cs:List (Bool×List Ck)} {us:List Value} (hv:zey C R1 W cs us) (hw:∀ c∈cs,∀ k∈c.2,Ckwf k) :
  ∃ σ,(∀ σ',Agr (zav s00 cs).2.n σ' σ->((zav s00 cs).1.flatMap fun l=>l.2.map symO).map (Sy.ev σ')=nums us) /\
   ∀ (tm:List AV) (bx:List (Nat×List At)) (fa:List Lin) (bp:Nat->Nat) (a:Act),a.defers=[]->(∀ i,i < bx.length->w.heap.size<=bp i/\¬ R1 (bp i)/\bp i≠C.pc)->(∀ i j,i < bx.length->j < bx.length->bp i=bp j->i=j) ->
    (∀ σ' bp',Agr (zav s00 cs).2.n σ' σ->(∀ i,i < bx.length->bp' i=bp i)->TpOk C σ' bp' R1 W (zav s00 cs).1 us->TmOk C σ' bp' R1 W tm a.tmps.toList/\BxOk C σ' bp' R1 W 0 bx/\∀ f∈fa,0<=f.ev σ') ->
    Stt C w R σ bp R1 { (zav s00 cs).2 with tm:=tm,bx:=bx,fa:=fa++(zav s00 cs).2.fa } a W:=by
 have h0:Stt C w R (fun _=>0) (fun _=>0) R1 s00 ⟨#[],[]⟩ W:=⟨fun σ' bp' _ _=>⟨trivial,trivial,⟨by simp [s00],by simp [s00],by simp [s00]⟩⟩,⟨hp,gw,fun i hi=>by simp [s00] at hi,fun i j hi=>by simp [s00] at hi,rfl,r0⟩⟩
 obtain ⟨σ,ag,nn,t1,b1,st,k⟩:=zha cs us h0 hv hw;refine ⟨σ,fun σ' q=>(k σ' (fun _=>0) q).2,fun tm bx fa bp a hd ho hi hf=>⟨fun σ' bp' q1 q2=>?_,⟨hp,gw,ho,hi,hd,r0⟩⟩⟩
 have f1:=(st.st σ' bp' q1 (fun i hi=>by rw [b1] at hi;simp [s00] at hi)).fs
 obtain ⟨g1,g2,g3⟩:=hf σ' bp' q1 q2 (k σ' bp' q1).1;exact ⟨g1,g2,⟨fun f hf=>(List.mem_append.1 hf).elim (g3 f) (f1.fa f),f1.lt,f1.cf⟩⟩
theorem unk_all {C:Cx} {σ:Nat->Int} {bp:Nat->Nat} {R:Nat->Prop} {w:World}:∀ (n:Nat) (vs:List Value),vs.length=n->TmOk C σ bp R w (List.replicate n (one .unk)) vs
 | 0,[],_=>trivial
 | 0,_::_,h=>by simp at h
 | _+1,[],h=>by simp at h
 | n+1,_::r,h=>⟨trivial,unk_all n r (by simpa using h)⟩
theorem tm_app {C:Cx} {σ:Nat->Int} {bp:Nat->Nat} {R:Nat->Prop} {w:World}:∀ {l l2:List AV} {vs vs2:List Value},TmOk C σ bp R w l vs->TmOk C σ bp R w l2 vs2->TmOk C σ bp R w (l++l2) (vs++vs2)
 | [],_,[],_,_,k=>k
 | [],_,_::_,_,h,_=>h.elim
 | _::_,_,[],_,h,_=>h.elim
 | _::_,_,_::_,_,h,k=>⟨h.1,tm_app h.2 k⟩
theorem ValOk.ext {C:Cx} {R R':Nat->Prop} {w w':World} {c:Bool×List Ck} {v:Value} (h:ValOk C R w c v) (k:Gr R R' w w'):ValOk C R' w' c v:=by
 unfold ValOk at *;split at h
 ·obtain ⟨a,e,h⟩:=h;exact ⟨a,e,h.gr k⟩
 ·exact h.gr k
theorem exec_then {C:Cx} {E:Env} {w0:World} {R0:Nat->Prop} (hG:Goods C E) (hB:C.B<=w0.heap.size) (hm:C.P.follows .mixedOrders=true) {c d:Code} {s:AS} {h h':List Hn} {r:Res} (hex:exec E c s h=some (r,h')) (hx:r.x.isEmpty=true) (hr:r.r.isEmpty=true) {σ:Nat->Int} {bp:Nat->Nat} {R:Nat->Prop} {a:Act} {w:World} (st:Stt C w0 R0 σ bp R s a w)
  {Q:Exit->Act->World->Prop} (k:∀ t∈r.n,∀ a' w',Nx C w0 R0 σ bp s t a' w'->d.wp C.P Q a' w'):(Code.seq c d).wp C.P Q a w:=by
 refine wp_seq (wp_mono (zhh hG hB hm c s h _ r hex σ bp R a w st) fun e a' w' he=>?_)
 cases e <;> simp only [Post,Exit.then] at he ⊢
 ·obtain ⟨t,ht,nx⟩:=he;exact k t ht a' w' nx
 ·obtain ⟨p,hp,_⟩:=he;rw [List.isEmpty_iff.1 hx] at hp;cases hp
 ·obtain ⟨t,ht,_⟩:=he;rw [List.isEmpty_iff.1 hr] at ht;cases ht
def line3 (E:Env) (a b c:Code) (s:AS) (f:AS->Bool):Bool:=match exec E a s [] with
 | some (r,_)=>r.x.isEmpty && r.r.isEmpty && r.n.all fun s=>match exec E b s [] with
  | some (r,_)=>r.x.isEmpty && r.r.isEmpty && r.n.all fun s=>match exec E c s [] with
   | some (r,_)=>r.x.isEmpty && r.r.isEmpty && r.n.all f
   | none=>false
  | none=>false
 | none=>false
theorem line3_ok {C:Cx} {E:Env} {w0:World} {R0:Nat->Prop} (hG:Goods C E) (hB:C.B<=w0.heap.size) (hm:C.P.follows .mixedOrders=true) {c1 c2 c3 d:Code} {s:AS} {f:AS->Bool} (hl:line3 E c1 c2 c3 s f=true) {σ:Nat->Int} {bp:Nat->Nat} {R:Nat->Prop} {a:Act} {w:World} (st:Stt C w0 R0 σ bp R s a w)
  {Q:Exit->Act->World->Prop} (k:∀ t,f t=true->∀ a' w' σ' bp' R',Stt C w0 R0 σ' bp' R' t a' w'->d.wp C.P Q a' w'):(Code.seq c1 (.seq c2 (.seq c3 d))).wp C.P Q a w:=by
 unfold line3 at hl;split at hl
 ·rename_i r1 h1 e1;simp only [Bool.and_eq_true] at hl;refine exec_then hG hB hm e1 hl.1.1 hl.1.2 st fun t1 m1 a1 w1 ⟨_,_,_,_,_,_,_,st1⟩=>?_
  have hl:=List.all_eq_true.1 hl.2 t1 m1;split at hl
  ·rename_i r2 h2 e2;simp only [Bool.and_eq_true] at hl;refine exec_then hG hB hm e2 hl.1.1 hl.1.2 st1 fun t2 m2 a2 w2 ⟨_,_,_,_,_,_,_,st2⟩=>?_
   have hl:=List.all_eq_true.1 hl.2 t2 m2;split at hl
   ·rename_i r3 h3 e3;simp only [Bool.and_eq_true] at hl;exact exec_then hG hB hm e3 hl.1.1 hl.1.2 st2 fun t3 m3 a3 w3 ⟨_,_,_,_,_,_,_,st3⟩=>k t3 (List.all_eq_true.1 hl.2 t3 m3) a3 w3 _ _ _ st3
   ·cases hl
  ·cases hl
 ·cases hl
def retB (E:Env) (f:Func) (c:Ctr) (ys:List Sy) (ops:Array Oper) (k:Nat) (code:Code) (s:AS):Bool:=match steps E ops.toList (ops.toList.drop k) s with
 | some t=>(match exec E code t [] with
  | some (r,[])=>r.x.isEmpty && r.n.isEmpty && r.r.all (endOk E f c ys)
  | _=>false)
 | none=>false
theorem retB_ok {C:Cx} {E:Env} {σ:Nat->Int} {bp:Nat->Nat} {R R1:Nat->Prop} {s:AS} {a:Act} {w w1:World} {f:Func} {c:Ctr} {ys:List Sy} {args:List Value} {ops:Array Oper} {k:Nat} (hG:Goods C E) (hm:C.P.follows .mixedOrders=true) (hB:C.B<=w.heap.size) {code:Code}
  (hl:retB E f c ys ops k code s=true) (hz:∀ σ',Agr s.n σ' σ->ys.map (Sy.ev σ')=nums args) (st:Stt C w R σ bp R1 s a w1) {Q Q':Exit->Act->World->Prop} (hq:∀ a' w',bodyPost C.P f (KPost C c R w args) .ret a' w'->Q' .ret a' w') (hk:∀ a' w',code.wp C.P Q' a' w'->Q .normal a' w'):wpList C.P ops Q (ops.toList.drop k) a w1:=by
 unfold retB at hl;split at hl
 ·rename_i t ht;refine zg8 hG hB st ht fun a' w' ⟨σ2,bp2,R2,g1,g2,g3,g4,g5⟩=>hk a' w' ?_
  split at hl
  ·rename_i r hex;simp only [Bool.and_eq_true] at hl;refine wp_mono (zhh hG hB hm code t [] _ r hex _ _ _ a' w' g5) fun e a2 w2 he=>?_
   cases e <;> simp only [Post] at he
   ·obtain ⟨u,hu,_⟩:=he;rw [List.isEmpty_iff.1 hl.1.2] at hu;cases hu
   ·obtain ⟨p,hp,_⟩:=he;rw [List.isEmpty_iff.1 hl.1.1] at hp;cases hp
   ·obtain ⟨u,hu,nx⟩:=he;exact hq a2 w2 (fin_of hG.toGood (fun σ' q=>hz σ' ((q.less g2).trans g1)) nx (List.all_eq_true.1 hl.2 u hu))
  ·cases hl
 ·cases hl
end Go.Proofs.YtckfjploafhenaaGreat.Ai
namespace Go.Proofs.YtckfjploafhenaaGreat.Ai
open Go.ChangeShapes Go.WideShapes Go.ChangeAt Go.RowKit Go.Sort
def DrawnM (w:World) (e:Ending) (w':World):Prop :=
 ∃ (K:Int) (Q:Nat) (R:Nat->Prop) (v u:Value),(K=1\/K=3\/K=5)/\e = .returned (.tuple #[v,u])/\Rows (cy K 0 Q fun _=>True) R w'/\ValOk (cy K 0 Q fun _=>True) R w' (true,zca K) v/\ValOk (cy K 0 Q fun _=>True) R w' (true,msgCells) u/\Ext w w'
theorem CkOk.ctx {C C':Cx} {R:Nat->Prop} {w:World} {k:Ck} {v:Value} (h:CkOk C R w k v) (ht:C'.tb=C.tb) (hp:C'.pc=C.pc):CkOk C' R w k v:=by
 have hs:∀ T,sz C' T=sz C T:=fun T=>by unfold sz;rw [ht]
 cases k with
 | sl T =>
  obtain ⟨n,a,m,c,h1,h2,h3,h4,h5⟩:=h;exact ⟨n,a,m,c,h1,h2,h3,h4,by rw [hs];exact h5⟩
 | cur =>
  show v = .pointer (some ⟨C'.pc,0,none⟩);rw [hp];exact h
 | _=>exact h
theorem CksOk.ctx {C C':Cx} {R:Nat->Prop} {w:World} (ht:C'.tb=C.tb) (hp:C'.pc=C.pc):∀ {l:List Ck} {vs:List Value},CksOk C R w l vs->CksOk C' R w l vs
 | [],[],_=>trivial
 | [],_::_,h=>h.elim
 | _::_,[],h=>h.elim
 | _::_,_::_,h=>⟨h.1.ctx ht hp,CksOk.ctx ht hp h.2⟩
theorem ValOk.ctx {C C':Cx} {R:Nat->Prop} {w:World} {c:Bool×List Ck} {v:Value} (h:ValOk C R w c v) (ht:C'.tb=C.tb) (hp:C'.pc=C.pc):ValOk C' R w c v:=by
 unfold ValOk at *;split at h
 ·obtain ⟨a,e,h⟩:=h;exact ⟨a,e,CksOk.ctx ht hp h⟩
 ·exact CksOk.ctx ht hp h
theorem baseY {K:Int} {pc:Nat} (hK:K=1\/K=3\/K=5):Base (cy K 0 pc fun _=>True) (tb K) eqs where
 tb:=fun t T h=>h
 cur:=fun _ _ _ _ _=>trivial
 ty:=ty_all hK
 eq:=eq_all hK
 hm:=rfl
def csO (K:Int):List (Bool×List Ck):=[(true,zca K),(true,msgCells)]
def zhf (K:Int):Ctr:=⟨[],csO K,[],[]⟩
def tmO (K:Int):List AV:=one .unk::one .unk::one (.ptr 0 0)::one (.ptr 1 0)::(List.replicate 6 (one .unk) ++ .v (.tup (zav s00 (csO K)).1)::List.replicate 4 (one .unk))
def bxO:List (Nat×List At):=[(33,repZero.map zeroC),(37,msgCells.map zeroC)]
def midO (K:Int):AS:={ (zav s00 (csO K)).2 with tm:=tmO K,bx:=bxO,fa:=[]++(zav s00 (csO K)).2.fa }
theorem o1:restB ⟨tb 1,[],4,2,eqs⟩ Tryz.f5 (zhf 1) [] (opsC (fstC (sndC (bodyC Tryz.f5)))) 4 (sndC (sndC (bodyC Tryz.f5))) (midO 1) []=true:=by kernel_rfl
theorem o3:restB ⟨tb 3,[],4,2,eqs⟩ Tryz.f5 (zhf 3) [] (opsC (fstC (sndC (bodyC Tryz.f5)))) 4 (sndC (sndC (bodyC Tryz.f5))) (midO 3) []=true:=by kernel_rfl
theorem o5:restB ⟨tb 5,[],4,2,eqs⟩ Tryz.f5 (zhf 5) [] (opsC (fstC (sndC (bodyC Tryz.f5)))) 4 (sndC (sndC (bodyC Tryz.f5))) (midO 5) []=true:=by kernel_rfl
theorem o135 {K:Int} (hK:K=1\/K=3\/K=5):restB ⟨tb K,[],4,2,eqs⟩ Tryz.f5 (zhf K) [] (opsC (fstC (sndC (bodyC Tryz.f5)))) 4 (sndC (sndC (bodyC Tryz.f5))) (midO K) []=true:=by
 rcases hK with rfl | rfl | rfl
 ·exact o1
 ·exact o3
 ·exact o5
theorem wf_csO {K:Int} (hK:K=1\/K=3\/K=5):∀ o∈csO K,∀ k∈o.2,Ckwf k:=by
 have h:(csO K).all (fun o=>o.2.all wfB)=true:=by rcases hK with rfl | rfl | rfl <;> kernel_rfl
 exact fun o ho k hk=>zgp (List.all_eq_true.1 (List.all_eq_true.1 h o ho) k hk)
theorem d_DrawOnOk {n c:Nat} {A:Option Addr} {w:World} (hc:CodeOk w A n w.heap.size) (hnc:n<=c) (hcm:c<=9223372036854775807) (hk:∀ Q K,(K=1\/K=3\/K=5)->Kepts (cx K Q A n c) (zci K)) (hk2:∀ Q K,(K=1\/K=3\/K=5)->Kepts (cx K Q A n c) (zbk K)) :
  Calls Tryz.prog 5 #[.slice A n c] w (DrawnM w):=by
 have HC:=Hd hc;clear hc
 go_enter Tryz.func5,Tryz.ntmps5
 refine wp_seq_k fun K0 hK0=>?_
 have H0:=Hd hK0;clear hK0;go_wp2_with fail
 refine H0.out _ _ ?_;clear H0;refine wp_seq_k fun K1 hK1=>?_
 have H1:=Hd hK1;clear hK1;go_wp2_with fail
 have X1:Ext w ((w.alloc rObj).alloc mObj):=Ext.trans (za1 _ _) (za1 _ _);refine (c_l1New A n c ((w.alloc rObj).alloc mObj) (((HC.out.grown (Nat.le_refl _) (zbe (row:=none) X1) (fun g he=>by cases he))).up (by simp;omega)) hnc hcm).mono ?_
 rintro e w2 ⟨⟨Q,rfl,hQ,hcur⟩,X2⟩;simp at hQ;go_wp2_with fail
 refine (d_l9DrawReplica hcur (kd:=3) (by simp [i64lo,i64hi]) (hk Q) (hk2 Q)).mono ?_
 rintro e w3 ⟨K,hK,v,outs,R',rfl,hv,hgw,hhp,hvals,-⟩;obtain ⟨x,y,rfl,hx,hy⟩:=vals2 hvals;simp only at hv;subst hv;clear hvals;have sz2:=X2.size;simp at sz2;have sz3:=hgw.size
 have hb0:w3.heap[w.heap.size]?=some rObj:=by
  have h2:w2.heap[w.heap.size]?=some rObj:=by
   rw [X2.block _ (by simp;omega),Below.heap_alloc _ _ _ (by simp)]
   exact heap_alloc_new _ _
  rw [hgw.keep _ (by omega) (fun h=>h) (by show w.heap.size≠Q;omega)]
  exact h2
 have hb1:w3.heap[w.heap.size+1]?=some mObj:=by
  have h2:w2.heap[w.heap.size+1]?=some mObj:=by
   rw [X2.block _ (by simp)]
   have e:w.heap.size+1=(w.alloc rObj).heap.size:=by simp
   rw [e];exact heap_alloc_new _ _
  rw [hgw.keep _ (by omega) (fun h=>h) (by show w.heap.size+1≠Q;omega)]
  exact h2
 have hlow:∀ g,R' g->Q+1<=g:=fun g h=>(hhp.rows g h).1
 have hp3:Hp (cy K 0 Q fun _=>True) R' w3:=⟨fun g hg=>by
  obtain ⟨_,h2,h3⟩:=hhp.rows g hg
  exact ⟨Nat.zero_le _,h2,h3⟩,trivial,hhp.pc,Nat.zero_le _⟩
 have gw3:Gw (cy K 0 Q fun _=>True) (fun _=>False) R' w w3:=by
  refine ⟨hgw.os.trans (X2.os.trans X1.os),hgw.tape.trans (X2.tape.trans X1.tape),hgw.output.trans (X2.output.trans X1.output),by omega,fun g hg=>hgw.rows g (by omega),fun g hg _ hq=>?_,fun _ h=>h.elim⟩
  rw [hgw.keep g (by omega) (fun h=>h) hq,X2.block g (by simp;omega),Below.heap_alloc _ _ _ (by simp;omega)]
  exact Below.heap_alloc _ _ _ hg
 obtain ⟨σ,hz,st⟩:=lay_stt hp3 gw3 (fun q hq=>hq.elim) (cs:=csO K) (us:=[x,y]) ⟨hx.ctx rfl rfl,hy.ctx rfl rfl,trivial⟩ (wf_csO hK)
 rename_i hrest;refine hrest _ _ ?_;clear hrest;refine restB_ok (k:=4) (s:=midO K) (bp:=fun i=>if i=0 then w.heap.size else w.heap.size+1) (C:=cy K 0 Q fun _=>True) (R:=fun _=>False) (args:=[]) (ze9 (baseY hK) (show Kepts _ [] from trivial) 4 2) rfl (Nat.zero_le _) (o135 hK) (fun σ' q=>rfl) (st (tmO K) bxO [] _ _ rfl ?_ ?_ ?_) (fun a' w' h=>?_)
 ·intro i hi;have hi:i < 2:=hi;obtain rfl | rfl:i=0\/i=1:=by omega
  ·exact ⟨Nat.le_refl _,fun h=>by have:=hlow _ h;simp at this;omega,show w.heap.size≠Q by omega⟩
  ·exact ⟨Nat.le_succ _,fun h=>by have:=hlow _ h;simp at this;omega,show w.heap.size+1≠Q by omega⟩
 ·intro i j hi hj e;have hi:i < 2:=hi;have hj:j < 2:=hj;obtain rfl | rfl:i=0\/i=1:=by omega
  ·obtain rfl | rfl:j=0\/j=1:=by omega
   ·rfl
   ·exact absurd e (show ¬ (w.heap.size=w.heap.size+1) by omega)
  ·obtain rfl | rfl:j=0\/j=1:=by omega
   ·exact absurd e (show ¬ (w.heap.size+1=w.heap.size) by omega)
   ·rfl
 ·intro σ' bp' q1 q2 h;have b0:bp' 0=w.heap.size:=q2 0 (by show 0 < 2;omega)
  have b1:bp' 1=w.heap.size+1:=q2 1 (by show 1 < 2;omega)
  refine ⟨⟨trivial,trivial,by show _=Value.pointer _;rw [b0],by show _=Value.pointer _;rw [b1],trivial,trivial,trivial,trivial,trivial,trivial,⟨_,rfl,h⟩,trivial,trivial,trivial,trivial,trivial⟩,⟨⟨_,by rw [b0];exact hb0,zeros_ii (cs:=repZero) (by kernel_rfl)⟩,⟨_,by rw [b1];exact hb1,zeros_ii (cs:=msgCells) (by kernel_rfl)⟩,trivial⟩,fun f hf=>by cases hf⟩
 ·refine H1.out a' w' (wp_mono h (zg7 fun e w' hp=>?_))
  obtain ⟨v,outs,R2,rfl,hv,hgw2,hhp2,hvals2,_⟩:=hp;obtain ⟨x',y',rfl,hx',hy'⟩:=vals2 hvals2;exact ⟨K,Q,R2,x',y',hK,by rw [hv],hhp2.rows,hx',hy',⟨hgw2.os,hgw2.tape,hgw2.output,hgw2.size,fun k hk=>hgw2.keep k hk (fun h=>h) (show k≠Q by omega)⟩⟩
end Go.Proofs.YtckfjploafhenaaGreat.Ai
namespace Go.Proofs.YtckfjploafhenaaGreat
open Go.ChangeShapes Go.WideShapes Go.ChangeAt Go.RowKit Go.Sort
def inB (x lo hi:Int):Bool:=decide (lo<=x) && decide (x<=hi)
theorem zb6 (x lo hi:Int) (w:World):Calls Tryz.prog 32 #[.int .i64 x, .int .i64 lo, .int .i64 hi] w fun e w'=>e = .returned (.bool (inB x lo hi))/\Ext w w':=by
 go_enter Tryz.func32,Tryz.ntmps32
 go_wp2
 all_goals
  go_ret
  exact ⟨za7 (by simp [inB, *] <;> omega),za4 _⟩
theorem zce (x lo hi:Int) (w:World):Calls Tryz.prog 53 #[.int .i64 x, .int .i64 lo, .int .i64 hi] w fun e w'=>e = .returned (.bool (inB x lo hi))/\Ext w w':=by
 go_enter Tryz.func53,Tryz.ntmps53
 go_wp2
 all_goals
  go_ret
  exact ⟨za7 (by simp [inB, *] <;> omega),za4 _⟩
theorem zah (x:Int) (w:World):Calls Tryz.prog 33 #[.int .i64 x] w fun e w'=>e = .returned (.bool (inB x 0 1000000000))/\Ext w w':=by
 go_enter Tryz.func33,Tryz.ntmps33
 go_wp2_with (go_at_call 32;refine (zb6 _ _ _ _).mono ?_;rintro e w1 ⟨rfl,hx⟩)
 go_ret
 exact ⟨rfl,hx⟩
theorem zas (x:Int) (w:World):Calls Tryz.prog 37 #[.int .i64 x] w fun e w'=>e = .returned (.bool (inB x 0 1000000000))/\Ext w w':=by
 go_enter Tryz.func37,Tryz.ntmps37
 go_wp2_with (go_at_call 53;refine (zce _ _ _ _).mono ?_;rintro e w1 ⟨rfl,hx⟩)
 go_ret
 exact ⟨rfl,hx⟩
theorem zgz (x:Int) (w:World):Calls Tryz.prog 141 #[.int .i64 x] w fun e w'=>e = .returned (.bool (inB x 1 1000000000))/\Ext w w':=by
 go_enter Tryz.func141,Tryz.ntmps141
 go_wp2_with (go_at_call 53;refine (zce _ _ _ _).mono ?_;rintro e w1 ⟨rfl,hx⟩)
 go_ret
 exact ⟨rfl,hx⟩
theorem zde (x:Int) (w:World):Calls Tryz.prog 142 #[.int .i64 x] w fun e w'=>e = .returned (.bool (inB x (-1) 1000000000))/\Ext w w':=by
 go_enter Tryz.func142,Tryz.ntmps142
 go_wp2_with (go_at_call 53;refine (zce _ _ _ _).mono ?_;rintro e w1 ⟨rfl,hx⟩)
 go_ret
 exact ⟨rfl,hx⟩
theorem zcu (x a b:Int):inB x a b=true↔a<=x/\x<=b:=by simp [inB]
abbrev wh (x:Int):Bool:=inB x 0 1000000000
end Go.Proofs.YtckfjploafhenaaGreat
namespace Go.Proofs.YtckfjploafhenaaGreat
def idxOf {α:Type} (p:α->Bool) (l:List α):Int:=match l.findIdx? p with
 | some i=>i
 | none=>-1
theorem idx_hit {α:Type} {p:α->Bool} {l:List α} {k:Nat} (hk:k < l.length) (h:p l[k]=true) (hb:∀ j (hj:j < l.length),j < k->p l[j]=false):idxOf p l=k:=by
 have:l.findIdx? p=some k:=List.findIdx?_eq_some_iff_getElem.2 ⟨hk,h,fun j hj=>by simp [hb j (by omega) hj]⟩
 unfold idxOf;rw [this]
theorem idx_miss {α:Type} {p:α->Bool} {l:List α} (hb:∀ j (hj:j < l.length),p l[j]=false):idxOf p l=-1:=by
 have:l.findIdx? p=none:=List.findIdx?_eq_none_iff.2 fun x hx=>by
  obtain ⟨i,hi,rfl⟩:=List.getElem_of_mem hx;exact hb i hi
 unfold idxOf;rw [this]
theorem no_next {α:Type} {p:α->Bool} {l:List α} {k:Nat} (hb:∀ j (hj:j < l.length),j < k->p l[j]=false) (h:∀ hk:k < l.length,p l[k]=false):∀ j (hj:j < l.length),j < k+1->p l[j]=false:=fun j hj hk=>by
 by_cases he:j=k
 ·subst he;exact h hj
 ·exact hb j hj (by omega)
theorem idxOf_lt {α:Type} {p:α->Bool} {l:List α} (h0:0<=idxOf p l):∃ k:Nat,idxOf p l=k/\k < l.length:=by
 unfold idxOf at *;cases h:l.findIdx? p with
 | none=>rw [h] at h0;simp at h0
 | some i=>exact ⟨i,rfl,(List.findIdx?_eq_some_iff_getElem.1 h).1⟩
theorem idxOf_any {α:Type} (p:α->Bool) (l:List α):decide (0<=idxOf p l)=l.any p:=by
 unfold idxOf;cases h:l.findIdx? p with
 | none =>
  have:=List.findIdx?_eq_none_iff.1 h
  simp
  simpa using this
 | some i =>
  obtain ⟨h3,h4,h5⟩:=List.findIdx?_eq_some_iff_getElem.1 h
  simp
  exact ⟨_,List.getElem_mem h3,h4⟩
end Go.Proofs.YtckfjploafhenaaGreat
namespace Go.Proofs.YtckfjploafhenaaGreat
open Go.ChangeShapes Go.WideShapes Go.ChangeAt Go.RowKit Go.Sort
def cmdOk (k x v:Int):Bool:=decide (0<=x/\x<=1000000000/\((k=1\/k=4)/\v=0\/(k=2\/k=3)/\0<=v/\v<=1000000000))
theorem c_sCmdOk (k x v:Int) (w:World):Calls Tryz.prog 111 #[.agg #[.int .i64 k, .int .i64 x, .int .i64 v]] w fun e w'=>e = .returned (.bool (cmdOk k x v))/\Ext w w':=by
 go_enter Tryz.func111,Tryz.ntmps111
 go_wp2_with (go_at_call 33;refine (zah _ _).mono ?_;rintro e w1 ⟨rfl,hx⟩;obtain ⟨hc1,hf1,hs1⟩:=hx.rules;(try simp at hs1);have z0:w.heap.size < w1.heap.size:=(by omega))
 all_goals
  go_ret
  refine ⟨?_, ?_⟩
  ·(refine za7 ?_;rw [Bool.eq_iff_iff];simp only [inB,cmdOk,Bool.and_eq_true,Bool.or_eq_true,Bool.not_eq_true,Bool.not_eq_true',Bool.not_eq_false',Bool.not_eq_false,Bool.not_not,beq_iff_eq,bne_iff_ne,ne_eq,beq_eq_false_iff_ne,bne_eq_false_iff_eq,decide_eq_true_eq,decide_eq_false_iff_not,Bool.and_eq_false_imp,Bf,reduceCtorEq,iff_true,iff_false,true_iff,false_iff,not_and,not_or] at *;omega)
  ·(repeat (first | with_reducible exact za4 _ | with_reducible refine za9 ?_ _ | with_reducible refine zak ?_ (by first | (simp;done) | (simp;omega) | omega) _ | with_reducible refine zab ?_ | with_reducible refine Ext.trans ?_ (by assumption)))
theorem c_iCmdOk (k x v:Int) (w:World):Calls Tryz.prog 100 #[.agg #[.int .i64 k, .int .i64 x, .int .i64 v]] w fun e w'=>e = .returned (.bool (cmdOk k x v))/\Ext w w':=by
 go_enter Tryz.func100,Tryz.ntmps100
 go_wp2_with (go_at_call 37;refine (zas _ _).mono ?_;rintro e w1 ⟨rfl,hx⟩;obtain ⟨hc1,hf1,hs1⟩:=hx.rules;(try simp at hs1);have z0:w.heap.size < w1.heap.size:=(by omega))
 all_goals
  go_ret
  refine ⟨?_, ?_⟩
  ·(refine za7 ?_;rw [Bool.eq_iff_iff];simp only [inB,cmdOk,Bool.and_eq_true,Bool.or_eq_true,Bool.not_eq_true,Bool.not_eq_true',Bool.not_eq_false',Bool.not_eq_false,Bool.not_not,beq_iff_eq,bne_iff_ne,ne_eq,beq_eq_false_iff_ne,bne_eq_false_iff_eq,decide_eq_true_eq,decide_eq_false_iff_not,Bool.and_eq_false_imp,Bf,reduceCtorEq,iff_true,iff_false,true_iff,false_iff,not_and,not_or] at *;omega)
  ·(repeat (first | with_reducible exact za4 _ | with_reducible refine za9 ?_ _ | with_reducible refine zak ?_ (by first | (simp;done) | (simp;omega) | omega) _ | with_reducible refine zab ?_ | with_reducible refine Ext.trans ?_ (by assumption)))
def Ent.ok (e:Ent):Bool:=wh e.client && inB e.req 1 1000000000 && cmdOk e.kind e.key e.value
theorem entOk_mk (a b k x v:Int):(⟨a,b,k,x,v⟩:Ent).ok=(inB a 0 1000000000 && inB b 1 1000000000 && cmdOk k x v):=rfl
theorem c_sEntryOk (r:Ent) (w:World):Calls Tryz.prog 113 #[.agg #[.int .i64 r.client, .int .i64 r.req, .int .i64 r.kind, .int .i64 r.key, .int .i64 r.value]] w fun e w'=>e = .returned (.bool r.ok)/\Ext w w':=by
 obtain ⟨a,b,k,x,v⟩:=r;rw [entOk_mk];dsimp only
 go_enter Tryz.func113,Tryz.ntmps113
 go_wp2_with (first | (go_at_call 33;refine (zah _ _).mono ?_;rintro e w1 ⟨rfl,hx⟩;obtain ⟨hc1,hf1,hs1⟩:=hx.rules;(try simp at hs1);have z0:w.heap.size < w1.heap.size:=(by omega)) | (go_at_call 32;refine (zb6 _ _ _ _).mono ?_;rintro e w1 ⟨rfl,hx⟩;obtain ⟨hc1,hf1,hs1⟩:=hx.rules;(try simp at hs1);have z0:w.heap.size < w1.heap.size:=(by omega)) | (go_at_call 111;refine (c_sCmdOk _ _ _ _).mono ?_;rintro e w1 ⟨rfl,hx⟩;obtain ⟨hc1,hf1,hs1⟩:=hx.rules;(try simp at hs1);have z0:w.heap.size < w1.heap.size:=(by omega)))
 all_goals
  go_ret
  refine ⟨za7 ?_, ?_⟩
  ·(first | (simp [*];done) | (simp_all;done))
  ·(repeat (first | with_reducible exact za4 _ | with_reducible refine za9 ?_ _ | with_reducible refine zak ?_ (by first | (simp;done) | (simp;omega) | omega) _ | with_reducible refine zab ?_ | with_reducible refine Ext.trans ?_ (by assumption)))
theorem c_iEntryOk (r:Ent) (w:World):Calls Tryz.prog 106 #[.agg #[.int .i64 r.client, .int .i64 r.req, .int .i64 r.kind, .int .i64 r.key, .int .i64 r.value]] w fun e w'=>e = .returned (.bool r.ok)/\Ext w w':=by
 obtain ⟨a,b,k,x,v⟩:=r;rw [entOk_mk];dsimp only
 go_enter Tryz.func106,Tryz.ntmps106
 go_wp2_with (first | (go_at_call 37;refine (zas _ _).mono ?_;rintro e w1 ⟨rfl,hx⟩;obtain ⟨hc1,hf1,hs1⟩:=hx.rules;(try simp at hs1);have z0:w.heap.size < w1.heap.size:=(by omega)) | (go_at_call 141;refine (zgz _ _).mono ?_;rintro e w1 ⟨rfl,hx⟩;obtain ⟨hc1,hf1,hs1⟩:=hx.rules;(try simp at hs1);have z0:w.heap.size < w1.heap.size:=(by omega)) | (go_at_call 100;refine (c_iCmdOk _ _ _ _).mono ?_;rintro e w1 ⟨rfl,hx⟩;obtain ⟨hc1,hf1,hs1⟩:=hx.rules;(try simp at hs1);have z0:w.heap.size < w1.heap.size:=(by omega)))
 all_goals
  go_ret
  refine ⟨za7 ?_, ?_⟩
  ·(first | (simp [*];done) | (simp_all;done))
  ·(repeat (first | with_reducible exact za4 _ | with_reducible refine za9 ?_ _ | with_reducible refine zak ?_ (by first | (simp;done) | (simp;omega) | omega) _ | with_reducible refine zab ?_ | with_reducible refine Ext.trans ?_ (by assumption)))
theorem c_badEntry (r:Ent) (w:World):Calls Tryz.prog 144 #[.agg #[.int .i64 r.client, .int .i64 r.req, .int .i64 r.kind, .int .i64 r.key, .int .i64 r.value]] w fun e w'=>e = .returned (.bool (!r.ok))/\Ext w w':=by
 obtain ⟨a,b,k,x,v⟩:=r;have hcon:=c_iEntryOk ⟨a,b,k,x,v⟩;dsimp only at hcon;dsimp only
 go_enter Tryz.func144,Tryz.ntmps144
 go_wp2_with fail
 refine (hcon _).mono ?_;rintro e w1 ⟨rfl,hx⟩;clear hcon;go_wp2
 go_ret
 exact ⟨rfl,Ext.trans (za1 _ _) hx⟩
end Go.Proofs.YtckfjploafhenaaGreat
