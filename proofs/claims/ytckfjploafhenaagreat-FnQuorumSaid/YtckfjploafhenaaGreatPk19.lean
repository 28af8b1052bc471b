/- Typed rows read as lists. -/
import Derived.Test.YtckfjploafhenaaGreatPk17
import Derived.Test.YtckfjploafhenaaGreatPk16
import Derived.Laws.Tables
import Derived.Test.YtckfjploafhenaaGreatPk15
import Derived.Laws.Rows
import Derived.Test.YtckfjploafhenaaGreatPk18
import Derived.Test.YtckfjploafhenaaGreatProg
import Derived.OwnWalk
set_option maxRecDepth 100000
set_option maxHeartbeats 16000000
set_option linter.unusedVariables false
set_option linter.unusedSimpArgs false
namespace Go.Proofs.YtckfjploafhenaaGreat.Ai
open Go.RowKit
theorem cells_of {C:Cx} {R:Nat->Prop} {w:World} {T g k0:Nat} {cs:Array Value} {fz:Nat×Nat} {α:Type} {enc:α->List Value} {P:α->Prop} (h0:0 < sz C T) (he:w.heap[g]?=some (.cells cs T fz)) (ht:∀ j v,cs[j]?=some v->∃ c,nth (rks C T) (j % sz C T)=some c/\CkOk C R w c v)
  (hdec:∀ vs:List Value,vs.length=sz C T->(∀ j v,vs[j]?=some v->∃ c,nth (rks C T) j=some c/\CkOk C R w c v)->∃ x,enc x=vs/\P x):∀ m,(k0+m) * sz C T<=cs.size->∃ l:List α,l.length=m/\(∀ x∈l,P x)/\∀ i (h:i < l.length) j u,(enc l[i])[j]?=some u->w.cell? ⟨g,k0 * sz C T+i * sz C T+j,none⟩=some u
 | 0,_=>⟨[],rfl,by simp,fun i h=>by simp at h⟩
 | m+1,hm=>by
  have e1:(k0+(m+1)) * sz C T=(k0+m) * sz C T+sz C T:=by rw [<-Nat.add_assoc,Nat.add_mul,Nat.one_mul]
  have e2:(k0+m) * sz C T=k0 * sz C T+m * sz C T:=Nat.add_mul _ _ _;obtain ⟨l,l1,l2,l3⟩:=cells_of (k0:=k0) h0 he ht hdec m (by omega)
  have hget:∀ j,j < sz C T->((cs.toList.drop ((k0+m) * sz C T)).take (sz C T))[j]?=cs[(k0+m) * sz C T+j]?:=by
   intro j hj;rw [List.getElem?_take_of_lt hj,List.getElem?_drop,Array.getElem?_toList]
  have hlen:((cs.toList.drop ((k0+m) * sz C T)).take (sz C T)).length=sz C T:=by
   rw [List.length_take,List.length_drop,Array.length_toList];omega
  obtain ⟨x,hx,hP⟩:=hdec ((cs.toList.drop ((k0+m) * sz C T)).take (sz C T)) hlen (fun j v hj=>by
   have hjs:j < sz C T:=by
    have:=(List.getElem?_eq_some_iff.1 hj).1
    omega
   rw [hget j hjs] at hj;obtain ⟨c,c1,c2⟩:=ht _ v hj;rw [Nat.mul_comm,Nat.mul_add_mod,Nat.mod_eq_of_lt hjs] at c1
   exact ⟨c,c1,c2⟩)
  refine ⟨l++[x],by simp [l1],fun y hy=>?_,fun i hi j u hu=>?_⟩
  ·rcases List.mem_append.1 hy with hy | hy
   ·exact l2 y hy
   ·simp only [Mi] at hy;rw [hy];exact hP
  ·by_cases him:i < l.length
   ·rw [List.getElem_append_left him] at hu;exact l3 i him j u hu
   ·have him2:i=m:=by simp at hi;omega
    subst him2;rw [List.getElem_append_right (by omega)] at hu
    simp only [l1,Nat.sub_self,List.getElem_cons_zero] at hu;rw [hx] at hu
    have hjs:j < sz C T:=by
     have:=(List.getElem?_eq_some_iff.1 hu).1
     omega
    rw [hget j hjs,e2] at hu;simp only [World.cell?,he];exact hu
theorem rd_of {C:Cx} {R:Nat->Prop} {w:World} (hr:∀ g,R g->RowOk C R w g) {T:Nat} {a:Option Addr} {m c:Nat} {n:Int} (h:SlOk C R w T (.slice a m c) n) {α:Type} {enc:α->List Value} {P:α->Prop}
  (hdec:∀ vs:List Value,vs.length=sz C T->(∀ j v,vs[j]?=some v->∃ c,nth (rks C T) j=some c/\CkOk C R w c v)->∃ x,enc x=vs/\P x):∃ l:List α,l.length=m/\l.length<=1048576/\(∀ x∈l,P x)/\Go.Proofs.YtckfjploafhenaaGreat.Rd enc (sz C T) w a c l:=by
 obtain ⟨a',m',c',e,hn,hL,hmc,hrow⟩:=h;cases e;have hLIM:LIM=1048576:=rfl;rcases hrow with ⟨rfl,rfl⟩ | ⟨g,k0,rfl,hRg,cs,fz,he,hsz⟩
 ·obtain rfl:m=0:=by omega
  exact ⟨[],rfl,by simp,by simp,Nat.le_refl _,Nat.zero_le _,fun h=>by simp at h⟩
 ·obtain ⟨_,_,cs',T',fz',h3,h4,h5,⟨k',hk',hks⟩,h7⟩:=hr g hRg;rw [he] at h3;simp only [Option.some.injEq,Obj.cells.injEq] at h3;obtain ⟨rfl,rfl,rfl⟩:=h3;have hle:(k0+m) * sz C T<=cs.size:=Nat.le_trans (Nat.mul_le_mul_right _ (by omega)) hsz
  obtain ⟨l,l1,l2,l3⟩:=cells_of (k0:=k0) h4 he h7 hdec m hle
  have hcap:k0+c<=k':=by
   rw [hks] at hsz;exact Nat.le_of_mul_le_mul_right hsz h4
  refine ⟨l,l1,by omega,l2,by omega, ?_,fun _=>⟨g,k0 * sz C T,rfl,zcj he,l3⟩⟩
  show c<=2 ^ 63 - 1;omega
def Rows (C:Cx) (R:Nat->Prop) (w:World):Prop:=∀ g,R g->RowOk C R w g
theorem CksOk.gr {C:Cx} {R R':Nat->Prop} {w w':World} (k:Gr R R' w w'):∀ {l:List Ck} {vs:List Value},CksOk C R w l vs->CksOk C R' w' l vs
 | [],[],_=>trivial
 | [],_::_,h=>h.elim
 | _::_,[],h=>h.elim
 | c::l,v::r,h=>⟨h.1.gr k,CksOk.gr k h.2⟩
end Go.Proofs.YtckfjploafhenaaGreat.Ai
namespace Go.Proofs.YtckfjploafhenaaGreat
open Go.ChangeShapes Go.WideShapes Go.ChangeAt Go.RowKit Go.Sort
structure Cel where
 key:Int
 value:Int
deriving DecidableEq
structure Sea where
 client:Int
 req:Int
 answer:Int
deriving DecidableEq
structure Ent where
 client:Int
 req:Int
 kind:Int
 key:Int
 value:Int
deriving DecidableEq
structure Lg where
 base:Int
 cells:List Cel
 seats:List Sea
 ents:List Ent
deriving DecidableEq
structure Vt where
 kind:Int
 frm:Int
 view:Int
 normal:Int
 op:Int
 commit:Int
 log:Lg
deriving DecidableEq
structure Mg where
 kind:Int
 frm:Int
 view:Int
 op:Int
 commit:Int
 normal:Int
 nonce:Int
 client:Int
 req:Int
 answer:Int
 ck:Int
 cx:Int
 cv:Int
 log:Lg
deriving DecidableEq
structure Rp where
 me:Int
 of:Int
 mode:Int
 view:Int
 normal:Int
 commit:Int
 log:Lg
 votes:List Vt
 cell:Int
 nonce:Int
deriving DecidableEq
structure Ot where
 to:Int
 msg:Mg
deriving DecidableEq
def Cel.enc (r:Cel):List Value:=[.int .i64 r.key, .int .i64 r.value]
def Sea.enc (r:Sea):List Value:=[.int .i64 r.client, .int .i64 r.req, .int .i64 r.answer]
def Ent.enc (r:Ent):List Value:=[.int .i64 r.client, .int .i64 r.req, .int .i64 r.kind, .int .i64 r.key, .int .i64 r.value]
theorem Cel.len (r:Cel):r.enc.length=2:=rfl
theorem Sea.len (r:Sea):r.enc.length=3:=rfl
theorem Ent.len (r:Ent):r.enc.length=5:=rfl
structure LAd where
 cA:Option Addr
 cc:Nat
 sA:Option Addr
 sc:Nat
 eA:Option Addr
 ec:Nat
def Lg.none:Lg:=⟨0,[],[],[]⟩
def LAd.none:LAd:=⟨Option.none,0,Option.none,0,Option.none,0⟩
def LgR (w:World) (a:LAd) (l:Lg):Prop:=Rd Cel.enc 2 w a.cA a.cc l.cells/\Rd Sea.enc 3 w a.sA a.sc l.seats/\Rd Ent.enc 5 w a.eA a.ec l.ents
theorem LgR.keep {w w':World} {a:LAd} {l:Lg} (h:LgR w a l) (hx:Ext w w'):LgR w' a l:=⟨h.1.keep hx,h.2.1.keep hx,h.2.2.keep hx⟩
abbrev VtE:=LAd×Vt
def VtE.enc (p:VtE):List Value:=[.int .i64 p.2.kind, .int .i64 p.2.frm, .int .i64 p.2.view, .int .i64 p.2.normal, .int .i64 p.2.op, .int .i64 p.2.commit, .int .i64 p.2.log.base, .slice p.1.cA p.2.log.cells.length p.1.cc, .slice p.1.sA p.2.log.seats.length p.1.sc, .slice p.1.eA p.2.log.ents.length p.1.ec]
def VsR (w:World) (A:Option Addr) (c:Nat) (ps:List VtE):Prop:=Rd VtE.enc 10 w A c ps/\∀ p∈ps,LgR w p.1 p.2.log
theorem VsR.keep {w w':World} {A:Option Addr} {c:Nat} {ps:List VtE} (h:VsR w A c ps) (hx:Ext w w'):VsR w' A c ps:=⟨h.1.keep hx,fun p hp=>(h.2 p hp).keep hx⟩
abbrev OtE:=LAd×Ot
def OtE.enc (p:OtE):List Value:=[.int .i64 p.2.to, .int .i64 p.2.msg.kind, .int .i64 p.2.msg.frm, .int .i64 p.2.msg.view, .int .i64 p.2.msg.op, .int .i64 p.2.msg.commit, .int .i64 p.2.msg.normal, .int .i64 p.2.msg.nonce, .int .i64 p.2.msg.client, .int .i64 p.2.msg.req, .int .i64 p.2.msg.answer, .int .i64 p.2.msg.ck, .int .i64 p.2.msg.cx, .int .i64 p.2.msg.cv,
 .int .i64 p.2.msg.log.base, .slice p.1.cA p.2.msg.log.cells.length p.1.cc, .slice p.1.sA p.2.msg.log.seats.length p.1.sc, .slice p.1.eA p.2.msg.log.ents.length p.1.ec]
def OsR (w:World) (A:Option Addr) (c:Nat) (ps:List OtE):Prop:=Rd OtE.enc 18 w A c ps/\∀ p∈ps,LgR w p.1 p.2.msg.log
theorem OsR.keep {w w':World} {A:Option Addr} {c:Nat} {ps:List OtE} (h:OsR w A c ps) (hx:Ext w w'):OsR w' A c ps:=⟨h.1.keep hx,fun p hp=>(h.2 p hp).keep hx⟩
def blk:Option Addr->List Nat
 | Option.none=>[]
 | some a=>[a.block]
theorem zdx (A:Option Addr) (n c:Nat) (k:Nat):(Value.slice A n c).ownBlock=some k↔k∈blk A:=by
 cases A <;> simp [Value.ownBlock,blk,eq_comm]
def LAd.fp (a:LAd):List Nat:=blk a.cA++blk a.sA++blk a.eA
structure Chg (w w':World) (S:List Nat):Prop where
 os:w'.os=w.os
 tape:w'.tape=w.tape
 output:w'.output=w.output
 size:w.heap.size<=w'.heap.size
 block:∀ k,k < w.heap.size->k∉S->w'.heap[k]?=w.heap[k]?
theorem Chg.refl (w:World) (S:List Nat):Chg w w S:=⟨rfl,rfl,rfl,Nat.le_refl _,fun _ _ _=>rfl⟩
theorem Chg.trans {a b c:World} {S:List Nat} (h:Chg a b S) (k:Chg b c S):Chg a c S :=
 ⟨k.os.trans h.os,k.tape.trans h.tape,k.output.trans h.output,Nat.le_trans h.size k.size,fun i hi hn=>(k.block i (Nat.lt_of_lt_of_le hi h.size) hn).trans (h.block i hi hn)⟩
theorem Chg.more {a b:World} {S S':List Nat} (h:Chg a b S) (hs:∀ k,k∈S->k∈S'):Chg a b S':=⟨h.os,h.tape,h.output,h.size,fun k hk hn=>h.block k hk (fun hm=>hn (hs k hm))⟩
theorem zaz {w w':World} {A:Option Addr} {n c:Nat} (h:w.grownBy w' (Value.slice A n c).ownBlock):Chg w w' (blk A) :=
 ⟨h.os,h.tape,h.output,h.size,fun k hk hn=>h.block k hk (fun he=>hn ((zdx A n c k).1 he.symm))⟩
theorem zez {w w':World} (S:List Nat) (h:Ext w w'):Chg w w' S:=⟨h.os,h.tape,h.output,h.size,fun k hk _=>h.block k hk⟩
theorem zaf {a b c:World} {S:List Nat} (h:Ext a b) (k:Chg b c S) (hS:∀ g∈S,a.heap.size<=g):Ext a c :=
 ⟨k.os.trans h.os,k.tape.trans h.tape,k.output.trans h.output,Nat.le_trans h.size k.size,fun i hi=>(k.block i (Nat.lt_of_lt_of_le hi h.size) (fun hm=>by have:=hS i hm;omega)).trans (h.block i hi)⟩
theorem Ow.chg {α:Type} {enc:α->List Value} {e:TypeId} {sz:Nat} {w w':World} {B:Nat} {A:Option Addr} {n c:Nat} {l:List α} {S:List Nat} (h:Ow enc e sz w B (.slice A n c) l) (hg:Chg w w' S) (hne:∀ k,k∈blk A->k∉S):Ow enc e sz w' B (.slice A n c) l:=by
 refine ⟨h.1, ?_⟩;rcases h.2 with h2 | ⟨g,cap,cur,hv,hb,hh,r⟩
 ·exact .inl h2
 ·refine .inr ⟨g,cap,cur,hv,hb, ?_,r⟩;rw [hg.block g (Array.getElem?_eq_some_iff.1 hh).1 (hne g ((zdx A n c g).1 (by rw [hv];rfl)))]
  exact hh
theorem Ow.inB {α:Type} {enc:α->List Value} {e:TypeId} {sz:Nat} {w:World} {B:Nat} {A:Option Addr} {n c:Nat} {l:List α} (h:Ow enc e sz w B (.slice A n c) l):∀ k∈blk A,B<=k/\k < w.heap.size:=fun k hk=>h.lt k ((zdx A n c k).2 hk)
structure LgO (w:World) (B T:Nat) (a:LAd) (l:Lg):Prop where
 c:Ow Cel.enc 162 2 w B (.slice a.cA l.cells.length a.cc) l.cells
 s:Ow Sea.enc 111 3 w B (.slice a.sA l.seats.length a.sc) l.seats
 e:Ow Ent.enc 104 5 w B (.slice a.eA l.ents.length a.ec) l.ents
 nd:a.fp.Nodup
 top:∀ k∈a.fp,k < T
theorem LgO.low {w:World} {B T:Nat} {a:LAd} {l:Lg} (h:LgO w B T a l):∀ k∈a.fp,B<=k:=fun k hk=>by
 unfold LAd.fp at hk;rw [List.mem_append,List.mem_append] at hk;rcases hk with (hk | hk) | hk
 ·exact (h.c.inB k hk).1
 ·exact (h.s.inB k hk).1
 ·exact (h.e.inB k hk).1
theorem LgO.lt {w:World} {B T:Nat} {a:LAd} {l:Lg} (h:LgO w B T a l):∀ k∈a.fp,k < w.heap.size:=fun k hk=>by
 unfold LAd.fp at hk;rw [List.mem_append,List.mem_append] at hk;rcases hk with (hk | hk) | hk
 ·exact (h.c.inB k hk).2
 ·exact (h.s.inB k hk).2
 ·exact (h.e.inB k hk).2
theorem LgO.rd {w:World} {B T:Nat} {a:LAd} {l:Lg} (h:LgO w B T a l):LgR w a l:=⟨(h.c.rd Cel.len).2,(h.s.rd Sea.len).2,(h.e.rd Ent.len).2⟩
theorem LgO.kept {w w':World} {B T:Nat} {a:LAd} {l:Lg} (h:LgO w B T a l) (hx:Ext w w'):LgO w' B T a l:=⟨h.c.kept hx,h.s.kept hx,h.e.kept hx,h.nd,h.top⟩
theorem LgO.chg {w w':World} {B T:Nat} {a:LAd} {l:Lg} {S:List Nat} (h:LgO w B T a l) (hg:Chg w w' S) (hne:∀ k,k∈a.fp->k∉S):LgO w' B T a l:=by
 unfold LAd.fp at hne;exact ⟨h.c.chg hg (fun k hk=>hne k (by simp [hk])),h.s.chg hg (fun k hk=>hne k (by simp [hk])),h.e.chg hg (fun k hk=>hne k (by simp [hk])),h.nd,h.top⟩
theorem LgO.wide {w:World} {B B' T T':Nat} {a:LAd} {l:Lg} (h:LgO w B T a l) (hB:B'<=B) (hT:T<=T'):LgO w B' T' a l:=⟨h.c.less hB,h.s.less hB,h.e.less hB,h.nd,fun k hk=>by have:=h.top k hk;omega⟩
structure VsO (w:World) (B T:Nat) (A:Option Addr) (c:Nat) (ps:List VtE):Prop where
 r:Ow VtE.enc 45 10 w B (.slice A ps.length c) ps
 l:∀ p∈ps,LgO w B T p.1 p.2.log
 nd:(blk A++ps.flatMap (fun p=>p.1.fp)).Nodup
 top:∀ k∈blk A++ps.flatMap (fun p=>p.1.fp),k < T
theorem VtE.len (p:VtE):(VtE.enc p).length=10:=rfl
theorem VsO.rd {w:World} {B T:Nat} {A:Option Addr} {c:Nat} {ps:List VtE} (h:VsO w B T A c ps):VsR w A c ps:=⟨(h.r.rd VtE.len).2,fun p hp=>(h.l p hp).rd⟩
theorem VsO.kept {w w':World} {B T:Nat} {A:Option Addr} {c:Nat} {ps:List VtE} (h:VsO w B T A c ps) (hx:Ext w w'):VsO w' B T A c ps:=⟨h.r.kept hx,fun p hp=>(h.l p hp).kept hx,h.nd,h.top⟩
def Stop (p:Prop):Prop:=p
theorem za5 {P:Program} {ops:Array Oper} {Q:Exit->Act->World->Prop} {l:List Oper} {a:Act} {w:World} (d:Nat) {op:Op} {ty:TypeId} {pos:String} {af:Array Edge} {gu:Option (Nat×Bool)} (h:Stop (wpList P ops Q ({ dst:=some d,op:=op,type:=ty,pos:=pos,after:=af,guard:=gu } :: l) a w)) :
  wpList P ops Q ({ dst:=some d,op:=op,type:=ty,pos:=pos,after:=af,guard:=gu } :: l) a w:=h
theorem zb2 {P:Program} {ops:Array Oper} {Q:Exit->Act->World->Prop} {l:List Oper} {a:Act} {w:World} (F:World->Prop) (hF:F w) (h:∀ W,F W->wpList P ops Q l a W):Stop (wpList P ops Q l a w):=h w hF
theorem zev {P:Program} {t:TypeId} {fs:Array Field} (h:P.underlying t=some (.struct fs)) (w:World):(isAgg t).run P w = .ok true w:=by
 simp_all [isAgg,run_underlying h]
theorem za8 {P:Program} {ops:Array Oper} {Q:Exit->Act->World->Prop} {l:List Oper} {a:Act} {w:World} (T:TypeId) {x y:Operand} {ty:TypeId} {pos:String} {af:Array Edge} {gu:Option (Nat×Bool)} (h:Stop (wpList P ops Q ({ dst:=none,op := .store T x y,type:=ty,pos:=pos,after:=af,guard:=gu } :: l) a w)) :
  wpList P ops Q ({ dst:=none,op := .store T x y,type:=ty,pos:=pos,after:=af,guard:=gu } :: l) a w:=h
theorem zcy (w:World) (g:Nat) (cs:Array Value):Chg w (w.setRow g cs) [g]:=by
 refine ⟨rfl,rfl,rfl, ?_,fun k hk hn=>?_⟩
 ·simp [World.setRow]
 ·have hn':¬ g=k:=fun e=>hn (by simp [e])
  simp [World.setRow,Array.getElem?_modify,hn']
theorem za3 {P:Program} {ops:Array Oper} {Q:Exit->Act->World->Prop} {l:List Oper} {a:Act} {w:World} {T t:TypeId} {x y:Operand} {ty:TypeId} {pos:String} {af:Array Edge} {old:Array Value} (g:Nat) (cells:Array Value)
  (hx:a.eval x = .pointer (some ⟨g,0,none⟩)) (hy:a.eval y = .agg cells) (hg:w.heap[g]?=some (.cells old t (0,0))) (hi:(P.info? T).map (·.size)=some cells.size) (hold:old.size=cells.size) (h1:cells.all (·.oneCell')=true)
  (h:∀ W,W.heap[g]?=some (.cells cells t (0,0))->Chg w W [g]->wpList P ops Q l (a.put none undef) W):Stop (wpList P ops Q ({ dst:=none,op := .store T x y,type:=ty,pos:=pos,after:=af,guard:=none } :: l) a w) :=
 wpList_store_row rfl T x y rfl g cells hx hy t old hg hi hold h1 (h _ (setRow_heap w g old cells t (0,0) hg) (zcy w g cells))
theorem zac {a b c:World} {g:Nat} (h:Ext a b) (k:Chg b c [g]) (hg:a.heap.size<=g):Ext a c:=zaf h k (fun x hx=>by rw [Mi] at hx;omega)
theorem LgO.chg1 {w w':World} {B T g:Nat} {a:LAd} {l:Lg} (h:LgO w B T a l) (hg:Chg w w' [g]) (hlt:g < B):LgO w' B T a l:=h.chg hg (fun k hk hm=>by rw [Mi] at hm;have:=h.low k hk;omega)
theorem zap {w w':World} {g k:Nat} {o:Obj} (h:w.heap[k]?=some o) (hg:Chg w w' [g]) (hne:k≠g):w'.heap[k]?=some o:=(hg.block k (bx_lt h) (fun hm=>hne (by simpa using hm))).trans h
theorem zbm {P:Program} {fn:Func} {tmps:Array Value} {w:World} {p k:Nat} {cs:Array Value} {t T:TypeId} {fs:Array Field} (hr:fn.results=#[.cell k t]) (ht:tmps[k]?=some (.pointer (some ⟨p,0,none⟩)))
  (hu:P.underlying t=some (.struct fs)) (hie:(P.info? t).map (·.size)=some cs.size) (hb:w.heap[p]?=some (.cells cs T (0,0))):(results fn tmps).run P w = .ok (.agg cs) w:=by
 have h1:=run_loadCells_list (P:=P) w ⟨p,0,none⟩ cs.toList (fun j v h=>by rw [Addr.add_lit,Nat.zero_add,za2 hb j];simpa using h)
 obtain ⟨ie,hie,hs⟩:=Option.map_eq_some_iff.1 hie;rw [Array.length_toList] at h1;have hagg:=zev hu w;have hti:(typeInfo t).run P w = .ok ie w:=by simp [typeInfo,hie,go_sem]
 have hload:(loadVar t ⟨p,0,none⟩).run P w = .ok (.agg cs) w:=by
  simp [loadVar,hagg,sizeOf,hti,hs,h1,Result.andThen]
 simp [results,hr,ht,asAddr,hload]
theorem za6 {P:Program} {ops:Array Oper} {Q:Exit->Act->World->Prop} {l:List Oper} {a:Act} {w:World} {ty:TypeId} {x:Operand} {d:Nat} {rt:TypeId} {pos:String} {af:Array Edge} {g:Nat} {cs:Array Value} {t:TypeId} {fs:Array Field}
  (hg:w.heap[g]?=some (.cells cs t (0,0))) (hx:a.eval x = .pointer (some ⟨g,0,none⟩)) (hu:P.underlying ty=some (.struct fs)) (hi:(P.info? ty).map (·.size)=some cs.size)
  (h:wpList P ops Q l (a.put (some d) (.agg cs)) w):Stop (wpList P ops Q ({ dst:=some d,op := .load ty x,type:=rt,pos:=pos,after:=af,guard:=none } :: l) a w) :=
 wpList_load_row rfl ty x rfl g hx t cs (0,0) _ hg hu rfl hi h
theorem zb3 {P:Program} {ops:Array Oper} {Q:Exit->Act->World->Prop} {l:List Oper} {a:Act} {w:World} {ty:TypeId} {x:Operand} {d:Nat} {rt:TypeId} {pos:String} {af:Array Edge} {g k:Nat} {cs:Array Value} {fs:Array Field}
  (hc:∀ j v,cs.toList[j]?=some v->w.cell? ⟨g,k+j,none⟩=some v) (hx:a.eval x = .pointer (some ⟨g,k,none⟩)) (hu:P.underlying ty=some (.struct fs)) (hi:(P.info? ty).map (·.size)=some cs.size)
  (h:wpList P ops Q l (a.put (some d) (.agg cs)) w):Stop (wpList P ops Q ({ dst:=some d,op := .load ty x,type:=rt,pos:=pos,after:=af,guard:=none } :: l) a w) :=
 wpList_plain rfl fun _ hK=>by
  unfold Oper.wp execOp;simp only [hx,Instr.loadAt,Instr.sureAddr,Sem.run_bind,Sem.run_pure,Result.andThen_ok,Rm.run_loadAgg hu hi hc];exact hK _ _ h
theorem zaw {w:World} {g k:Nat} {CS cs:Array Value} {t:TypeId} (hg:w.heap[g]?=some (.cells CS t (0,0))) (pre post:List Value) (he:CS.toList=pre++cs.toList++post) (hk:pre.length=k):∀ j v,cs.toList[j]?=some v->w.cell? ⟨g,k+j,none⟩=some v:=fun j v h=>by
 rw [za2 hg,<-Array.getElem?_toList,he];subst hk;have hj:j < cs.toList.length:=(List.getElem?_eq_some_iff.1 h).1;rw [List.append_assoc,List.getElem?_append_right (by omega),Nat.add_sub_cancel_left,List.getElem?_append_left hj]
 exact h
namespace Rm
variable {P:Program} {ops:Array Oper} {w:World} {B:Bnd} {L:(World->Prop)->Act->Prop} {o:Oper} {rest:List Oper} {C:World->Prop} {ps:List Nat} {a:Act}
end Rm
end Go.Proofs.YtckfjploafhenaaGreat
namespace Go.Proofs.YtckfjploafhenaaGreat.Ai
open Go.ChangeShapes Go.WideShapes Go.ChangeAt Go.RowKit Go.Sort
end Go.Proofs.YtckfjploafhenaaGreat.Ai
namespace Go.Proofs.YtckfjploafhenaaGreat
open Go.ChangeShapes Go.WideShapes Go.ChangeAt Go.RowKit Go.Sort
theorem Cel.enc_len (r:Cel):r.enc.length=2:=rfl
theorem Rd.atCel {w:World} {A:Option Addr} {c:Nat} {l:List Cel} (h:Rd Cel.enc 2 w A c l) {k:Nat} (hk:k < l.length):∃ b o,A=some ⟨b,o,none⟩/\b < w.heap.size /\
  w.cell? ⟨b,o+k * 2,none⟩=some (.int .i64 l[k].key)/\w.cell? ⟨b,o+k * 2+1,none⟩=some (.int .i64 l[k].value):=by
 obtain ⟨b,o,e,hlt,hc⟩:=h.2.2 (by omega)
 exact ⟨b,o,e,hlt,hc k hk 0 _ rfl,hc k hk 1 _ rfl⟩
theorem Tryz.infoCel:(Tryz.prog.info? 162).map (fun i=>(i.zero,i.size,i.bytes))=some (some (.agg #[.int .i64 0, .int .i64 0]),2,16):=by kernel_rfl
theorem Sea.enc_len (r:Sea):r.enc.length=3:=rfl
theorem Rd.atSea {w:World} {A:Option Addr} {c:Nat} {l:List Sea} (h:Rd Sea.enc 3 w A c l) {k:Nat} (hk:k < l.length):∃ b o,A=some ⟨b,o,none⟩/\b < w.heap.size /\
  w.cell? ⟨b,o+k * 3,none⟩=some (.int .i64 l[k].client)/\w.cell? ⟨b,o+k * 3+1,none⟩=some (.int .i64 l[k].req)/\w.cell? ⟨b,o+k * 3+2,none⟩=some (.int .i64 l[k].answer):=by
 obtain ⟨b,o,e,hlt,hc⟩:=h.2.2 (by omega)
 exact ⟨b,o,e,hlt,hc k hk 0 _ rfl,hc k hk 1 _ rfl,hc k hk 2 _ rfl⟩
theorem Tryz.infoSea:(Tryz.prog.info? 111).map (fun i=>(i.zero,i.size,i.bytes))=some (some (.agg #[.int .i64 0, .int .i64 0, .int .i64 0]),3,24):=by kernel_rfl
theorem Ent.enc_len (r:Ent):r.enc.length=5:=rfl
theorem Rd.atEnt {w:World} {A:Option Addr} {c:Nat} {l:List Ent} (h:Rd Ent.enc 5 w A c l) {k:Nat} (hk:k < l.length):∃ b o,A=some ⟨b,o,none⟩/\b < w.heap.size /\
  w.cell? ⟨b,o+k * 5,none⟩=some (.int .i64 l[k].client)/\w.cell? ⟨b,o+k * 5+1,none⟩=some (.int .i64 l[k].req)/\w.cell? ⟨b,o+k * 5+2,none⟩=some (.int .i64 l[k].kind)/\w.cell? ⟨b,o+k * 5+3,none⟩=some (.int .i64 l[k].key)/\w.cell? ⟨b,o+k * 5+4,none⟩=some (.int .i64 l[k].value):=by
 obtain ⟨b,o,e,hlt,hc⟩:=h.2.2 (by omega)
 exact ⟨b,o,e,hlt,hc k hk 0 _ rfl,hc k hk 1 _ rfl,hc k hk 2 _ rfl,hc k hk 3 _ rfl,hc k hk 4 _ rfl⟩
theorem Tryz.infoEnt:(Tryz.prog.info? 104).map (fun i=>(i.zero,i.size,i.bytes))=some (some (.agg #[.int .i64 0, .int .i64 0, .int .i64 0, .int .i64 0, .int .i64 0]),5,40):=by kernel_rfl
theorem Rd.atVtE {w:World} {A:Option Addr} {c:Nat} {l:List VtE} (h:Rd VtE.enc 10 w A c l) {k:Nat} (hk:k < l.length):∃ b o,A=some ⟨b,o,none⟩/\b < w.heap.size /\
  w.cell? ⟨b,o+k * 10,none⟩=some (.int .i64 l[k].2.kind)/\w.cell? ⟨b,o+k * 10+1,none⟩=some (.int .i64 l[k].2.frm)/\w.cell? ⟨b,o+k * 10+2,none⟩=some (.int .i64 l[k].2.view)/\w.cell? ⟨b,o+k * 10+3,none⟩=some (.int .i64 l[k].2.normal)/\w.cell? ⟨b,o+k * 10+4,none⟩=some (.int .i64 l[k].2.op)/\w.cell? ⟨b,o+k * 10+5,none⟩=some (.int .i64 l[k].2.commit)/\w.cell? ⟨b,o+k * 10+6,none⟩=some (.int .i64 l[k].2.log.base) /\
  w.cell? ⟨b,o+k * 10+7,none⟩=some (.slice l[k].1.cA l[k].2.log.cells.length l[k].1.cc)/\w.cell? ⟨b,o+k * 10+8,none⟩=some (.slice l[k].1.sA l[k].2.log.seats.length l[k].1.sc)/\w.cell? ⟨b,o+k * 10+9,none⟩=some (.slice l[k].1.eA l[k].2.log.ents.length l[k].1.ec):=by
 obtain ⟨b,o,e,hlt,hc⟩:=h.2.2 (by omega)
 exact ⟨b,o,e,hlt,hc k hk 0 _ rfl,hc k hk 1 _ rfl,hc k hk 2 _ rfl,hc k hk 3 _ rfl,hc k hk 4 _ rfl,hc k hk 5 _ rfl,hc k hk 6 _ rfl,hc k hk 7 _ rfl,hc k hk 8 _ rfl,hc k hk 9 _ rfl⟩
def Lg.small (l:Lg):Prop:=l.cells.length<=1048576/\l.seats.length<=1048576/\l.ents.length<=1048576
abbrev VtE.val (a:LAd) (v:Vt):Value := .agg #[.int .i64 v.kind, .int .i64 v.frm, .int .i64 v.view, .int .i64 v.normal, .int .i64 v.op, .int .i64 v.commit, .int .i64 v.log.base, .slice a.cA v.log.cells.length a.cc, .slice a.sA v.log.seats.length a.sc, .slice a.eA v.log.ents.length a.ec]
abbrev Vt.zero:Value := .agg #[.int .i64 0, .int .i64 0, .int .i64 0, .int .i64 0, .int .i64 0, .int .i64 0, .int .i64 0, .slice none 0 0, .slice none 0 0, .slice none 0 0]
theorem Tryz.infoVt:(Tryz.prog.info? 45).map (fun i=>(i.zero,i.size,i.bytes))=some (some Vt.zero,10,128):=by kernel_rfl
def VsS (ps qs:List VtE) (k:Nat):Prop:=qs.map Prod.snd=(ps.take k).map Prod.snd
theorem VsS.length {ps qs:List VtE} {k:Nat} (h:VsS ps qs k) (hk:k<=ps.length):qs.length=k:=by
 have:=congrArg List.length h
 simp at this;omega
theorem VsS.next {ps qs:List VtE} {k:Nat} (h:VsS ps qs k) (hk:k < ps.length) (a:LAd):VsS ps (qs++[(a,ps[k].2)]) (k+1):=by
 unfold VsS at h ⊢;rw [List.map_append,h,List.take_succ_eq_append_getElem hk,List.map_append];rfl
def LgS (ps:List VtE):Prop:=∀ p∈ps,p.2.log.small
abbrev Lg.val (a:LAd) (l:Lg):Value := .agg #[.int .i64 l.base, .slice a.cA l.cells.length a.cc, .slice a.sA l.seats.length a.sc, .slice a.eA l.ents.length a.ec]
abbrev Lg.obj (a:LAd) (l:Lg):Obj := .cells #[.int .i64 l.base, .slice a.cA l.cells.length a.cc, .slice a.sA l.seats.length a.sc, .slice a.eA l.ents.length a.ec] 30
end Go.Proofs.YtckfjploafhenaaGreat
