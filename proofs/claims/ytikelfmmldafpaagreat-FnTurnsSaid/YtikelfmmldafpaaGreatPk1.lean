/- Slices of flat structs as lists: a weak reading (Rd) and facts on worlds. No program in sight. -/
import Derived.Test.YtikelfmmldafpaaGreatPk0
import Derived.WalkKit
import Derived.ProofKit
import Derived.WalkSpells
import Derived.WalkLawsBesides
import Derived.Lib.Hide
import Derived.BigQuiet
import Derived.OwnWalk
import Derived.Laws.CopyRow
import Derived.Laws.Tables
import Derived.Lib.AppendZerosOnto
import Derived.Lib.Overlaps
import Derived.Laws.Externs
import Derived.Test.YtikelfmmldafpaaGreatProg
namespace Go.Proofs.YtikelfmmldafpaaGreat
open Go.ChangeShapes Go.WideShapes Go.ChangeAt Go.RowKit Go.Sort
set_option linter.unusedVariables false
def Rd {α:Type} (enc:α→List Value) (sz:Nat) (w:World) (A:Option Addr) (c:Nat) (l:List α):Prop :=
 l.length≤c∧c≤maxLen∧(0 < l.length→∃ b o,A=some ⟨b,o,none⟩∧b < w.heap.size∧∀ k (h:k < l.length) j u,(enc l[k])[j]?=some u→w.cell? ⟨b,o+k * sz+j,none⟩=some u)
theorem Rd.keep {α:Type} {enc:α→List Value} {sz:Nat} {w w':World} {A:Option Addr} {c:Nat} {l:List α} (h:Rd enc sz w A c l) (hb:Ext w w'):Rd enc sz w' A c l:=by
 refine ⟨h.1,h.2.1,fun hl=>?_⟩
 obtain ⟨b,o,e,hlt,hc⟩:=h.2.2 hl
 exact ⟨b,o,e,Nat.lt_of_lt_of_le hlt hb.size,fun k hk j u hu=>(hb.cell (p:=⟨b,o+k * sz+j,none⟩) hlt).trans (hc k hk j u hu)⟩
theorem ext_refl (w:World):Ext w w:=Below.refl _ _
theorem ext_alloc (w:World) (o:Obj):Ext w (w.alloc o):=(Below.refl _ _).alloc (Nat.le_refl _) o
theorem ext_to {a b:World} (h:Ext a b) (o:Obj):Ext a (b.alloc o):=h.alloc h.size o
theorem ext_drew {a b:World} (h:Ext a b):Ext a b.drew:=h.drew
theorem ext_set {a b:World} (h:Ext a b) {p:Addr} (hp:a.heap.size≤p.block) (u:Value):Ext a (b.setCell p u):=Below.setCell h hp u
def Ow {α:Type} (enc:α→List Value) (e:TypeId) (sz:Nat) (w:World) (B:Nat) (v:Value) (l:List α):Prop:=w.ownsRow B e sz v l.length (l.flatMap enc)
theorem flat_get {α:Type} {enc:α→List Value} {sz:Nat} (hsz:∀ x,(enc x).length=sz):∀ (l:List α) (k:Nat) (hk:k < l.length) (j:Nat),j < sz→(l.flatMap enc)[k * sz+j]?=(enc l[k])[j]?
 | [],k,hk,_,_=>absurd hk (by simp)
 | x::l,0,_,j,hj=>by
  simp only [List.flatMap_cons,Nat.zero_mul,Nat.zero_add,List.getElem_cons_zero]
  rw [List.getElem?_append_left (by rw [hsz];exact hj)]
 | x::l,k+1,hk,j,hj=>by
  simp only [List.flatMap_cons,List.getElem_cons_succ]
  rw [List.getElem?_append_right (by rw [hsz,Nat.succ_mul];omega),hsz,show (k+1) * sz+j - sz=k * sz+j by rw [Nat.succ_mul];omega]
  exact flat_get hsz l k (by simpa using hk) j hj
theorem flat_length {α:Type} {enc:α→List Value} {sz:Nat} (hsz:∀ x,(enc x).length=sz):∀ (l:List α),(l.flatMap enc).length=l.length * sz
 | []=>by simp
 | x::l=>by simp only [List.flatMap_cons,List.length_append,hsz,List.length_cons,flat_length hsz l,Nat.succ_mul];omega
theorem Ow.rd {α:Type} {enc:α→List Value} {e:TypeId} {sz:Nat} {w:World} {B:Nat} {A:Option Addr} {n c:Nat} {l:List α} (hsz:∀ x,(enc x).length=sz) (h:Ow enc e sz w B (.slice A n c) l):n=l.length∧Rd enc sz w A c l:=by
 rcases h.2 with ⟨h',hn⟩ | ⟨g,cap,cur,h',hb,hg,hnc,hcm,hcs,htake⟩
 ·simp only [Value.slice.injEq] at h'
  obtain ⟨rfl,rfl,rfl⟩:=h'
  exact ⟨hn.symm,by omega,by unfold maxLen;omega,fun hp=>absurd hp (by omega)⟩
 ·simp only [Value.slice.injEq] at h'
  obtain ⟨rfl,rfl,rfl⟩:=h'
  refine ⟨rfl,hnc,hcm,fun hp=>⟨g,0,rfl,(Array.getElem?_eq_some_iff.1 hg).1,fun k hk j u hu=>?_⟩⟩
  have hj:j < sz:=by
   have:=(List.getElem?_eq_some_iff.1 hu).1
   rw [hsz] at this
   exact this
  have hlt:k * sz+j < l.length * sz:=by
   have:=Nat.mul_le_mul_right sz (show k+1≤l.length by omega)
   rw [Nat.succ_mul] at this
   omega
  rw [Nat.zero_add,cell_of_row w g _ cur e (0,0) hg,←hu,←flat_get hsz l k hk j hj,←htake,List.getElem?_take,if_pos hlt]
  simp
theorem Ow.kept {α:Type} {enc:α→List Value} {e:TypeId} {sz:Nat} {w w':World} {B:Nat} {v:Value} {l:List α} (h:Ow enc e sz w B v l) (hx:Ext w w'):Ow enc e sz w' B v l:=by
 refine ⟨h.1, ?_⟩
 rcases h.2 with h2 | ⟨g,cap,cur,hv,hb,hg,r⟩
 ·exact .inl h2
 ·exact .inr ⟨g,cap,cur,hv,hb,by rw [hx.block g (Array.getElem?_eq_some_iff.1 hg).1];exact hg,r⟩
theorem Ow.less {α:Type} {enc:α→List Value} {e:TypeId} {sz:Nat} {w:World} {B B':Nat} {v:Value} {l:List α} (h:Ow enc e sz w B v l) (hB:B'≤B):Ow enc e sz w B' v l:=by
 refine ⟨h.1, ?_⟩
 rcases h.2 with h2 | ⟨g,cap,cur,hv,hb,r⟩
 ·exact .inl h2
 ·exact .inr ⟨g,cap,cur,hv,by omega,r⟩
theorem grown_trans {a b c:World} {row:Option Nat} (h:a.grownBy b row) (k:b.grownBy c row):a.grownBy c row :=
 ⟨k.os.trans h.os,k.tape.trans h.tape,k.output.trans h.output,Nat.le_trans h.size k.size,fun i hi hne=>(k.block i (Nat.lt_of_lt_of_le hi h.size) hne).trans (h.block i hi hne)⟩
theorem enters {P:Program} {f:FuncId} {fn:Func} (hf:P.funcs[f]?=some fn) (hn:(fn.name == "runtime.NumGoroutine")=false) (hb:fn.body.isNone=false):Enters P f:=by
 intro args w
 unfold callFunc
 simp only [Sem.run_bind,run_program,Result.andThen_ok,hf,hn,hb,Bf,if_false,Sem.run_pure]
theorem bx_cell {W:World} {p:Nat} {cs:Array Value} {T:TypeId} (h:W.heap[p]?=some (.cells cs T (0,0))):∀ y,W.cell? ⟨p,y,none⟩=cs[y]?:=fun y=>cell_of_row W p y cs T (0,0) h
theorem bx_frozen {W:World} {p:Nat} {cs:Array Value} {T:TypeId} (h:W.heap[p]?=some (.cells cs T (0,0))):∀ y,W.frozen? ⟨p,y,none⟩=false:=fun y=>frozen_of_row W p y cs T h
theorem bx_lt {W:World} {p:Nat} {o:Obj} (h:W.heap[p]?=some o):p < W.heap.size:=(Array.getElem?_eq_some_iff.1 h).1
def eqB {α:Type} [DecidableEq α] (a b:α):Bool:=decide (a=b)
theorem rd_len {α:Type} {enc:α→List Value} {sz:Nat} {w:World} {A:Option Addr} {c:Nat} {l:List α} (h:Rd enc sz w A c l):(l.length:Int)≤9223372036854775807:=by
 have h1:=h.1
 have h2:=h.2.1
 unfold maxLen at h2
 omega
theorem ret_bool {a b:Bool} (h:a=b):Ending.returned (.bool a) = .returned (.bool b):=by rw [h]
theorem ret_int {k:IntKind} {a b:Int} (h:a=b):Ending.returned (.int k a) = .returned (.int k b):=by rw [h]
theorem heap_alloc_if (w:World) (o:Obj) (k:Nat):(w.alloc o).heap[k]?=if k=w.heap.size then some o else w.heap[k]?:=by
 show (w.heap.push o)[k]?=_
 rw [Array.getElem?_push]
theorem hNew {w:World} {o:Obj} {k:Nat} (hk:k=w.heap.size):(w.alloc o).heap[k]?=some o:=by rw [heap_alloc_if,if_pos hk]
theorem hOld {w:World} {o o':Obj} {k:Nat} (h:w.heap[k]?=some o'):(w.alloc o).heap[k]?=some o':=by
 rw [heap_alloc_if,if_neg (by have:=bx_lt h;omega)];exact h
theorem Ext.box {w w':World} {k:Nat} {o:Obj} (hx:Ext w w') (h:w.heap[k]?=some o):w'.heap[k]?=some o:=(hx.block k (bx_lt h)).trans h
theorem Rd.none_len {α:Type} {enc:α→List Value} {sz:Nat} {w:World} {c:Nat} {l:List α} (h:Rd enc sz w none c l):l.length=0:=by
 by_cases h0:0 < l.length
 ·obtain ⟨b,o,e,_⟩:=h.2.2 h0
  cases e
 ·omega
theorem Rd.base {α:Type} {enc:α→List Value} {sz:Nat} {w:World} {A:Option Addr} {c:Nat} {l:List α} (h:Rd enc sz w A c l) (h0:0 < l.length):∃ a,A=some a:=by
 obtain ⟨b,o,e,_⟩:=h.2.2 h0
 exact ⟨_,e⟩
theorem Rd.flat {α:Type} {enc:α→List Value} {sz:Nat} {w:World} {a:Addr} {c:Nat} {l:List α} (h:Rd enc sz w (some a) c l) (h0:0 < sz) (hsz:∀ x,(enc x).length=sz) :
  ∀ (j:Nat) (u:Value),(l.flatMap enc)[j]?=some u→w.cell? (a.add j)=some u:=by
 intro j u hu
 have hj:j < l.length * sz:=by
  have:=(List.getElem?_eq_some_iff.1 hu).1
  rwa [flat_length hsz] at this
 have hl:0 < l.length:=by
  rcases Nat.eq_zero_or_pos l.length with e | e
  ·rw [e] at hj;omega
  ·exact e
 obtain ⟨b,o,e,_,hc⟩:=h.2.2 hl
 simp only [Option.some.injEq] at e
 subst e
 have hk:j / sz < l.length:=(Nat.div_lt_iff_lt_mul h0).2 hj
 have hm:j % sz < sz:=Nat.mod_lt _ h0
 have hd:j / sz * sz+j % sz=j:=Nat.div_add_mod' j sz
 have h1:=flat_get hsz l (j / sz) hk (j % sz) hm
 rw [hd,hu] at h1
 have h2:=hc (j / sz) hk (j % sz) u h1.symm
 rw [Addr.add_lit]
 rw [Nat.add_assoc,hd] at h2
 exact h2
theorem flat_one {α:Type} {enc:α→List Value} (h:∀ x,∀ u∈enc x,u.oneCell'=true) (l:List α):∀ u∈l.flatMap enc,u.oneCell'=true:=by
 intro u hu
 obtain ⟨x,_,hx⟩:=List.mem_flatMap.1 hu
 exact h x u hx
theorem Ow.lt {α:Type} {enc:α→List Value} {e:TypeId} {sz:Nat} {w:World} {B:Nat} {v:Value} {l:List α} (h:Ow enc e sz w B v l):∀ k,v.ownBlock=some k→B≤k∧k < w.heap.size:=World.ownsRow.lt h
theorem Ow.form {α:Type} {enc:α→List Value} {e:TypeId} {sz:Nat} {w:World} {B:Nat} {v:Value} {l:List α} (h:Ow enc e sz w B v l):∃ A c,v = .slice A l.length c:=by
 rcases h.2 with ⟨h2,h3⟩ | ⟨g,cap,cur,hv,_⟩
 ·exact ⟨none,0,by rw [h2,h3]⟩
 ·exact ⟨_,_,hv⟩
theorem box_beside {w w':World} {k:Nat} {o:Obj} {row:Option Nat} (h:w.heap[k]?=some o) (hg:w.grownBy w' row) (hne:row≠some k):w'.heap[k]?=some o:=by
 rw [hg.block k (bx_lt h) (fun he=>hne he.symm)];exact h
theorem box_set {w:World} {k:Nat} {o:Obj} {p:Addr} {u:Value} (h:w.heap[k]?=some o) (hne:p.block≠k):(w.setCell p u).heap[k]?=some o:=by
 rw [←h];exact Below.heap_setCell _ _ _ _ (fun e=>hne e.symm)
theorem sz_alloc (w:World) (o:Obj):(w.alloc o).heap.size=w.heap.size+1:=by simp
section
variable {P:Program}
end
theorem grown_of_ext {w w':World} {row:Option Nat} (h:Ext w w'):w.grownBy w' row:=⟨h.os,h.tape,h.output,h.size,fun k hk _=>h.block k hk⟩
theorem box_put {w:World} {P:Nat} {cs:Array Value} {T:TypeId} (h:w.heap[P]?=some (.cells cs T (0,0))) (k:Nat) (u:Value):(w.setCell ⟨P,k,none⟩ u).heap[P]?=some (.cells (cs.setIfInBounds k u) T (0,0)):=by
 rw [setCell_eq_setRow w P k cs T (0,0) u h]
 exact setRow_heap w P cs _ T (0,0) h
theorem sz_set (w:World) (p:Addr) (u:Value):(w.setCell p u).heap.size=w.heap.size:=by simp
structure Cel where
 key:Int
 value:Int
deriving DecidableEq
structure Sea where
 client:Int
 req:Int
 answer:Int
deriving DecidableEq
structure Ent where
 client:Int
 req:Int
 kind:Int
 key:Int
 value:Int
deriving DecidableEq
structure Lg where
 base:Int
 cells:List Cel
 seats:List Sea
 ents:List Ent
deriving DecidableEq
structure Vt where
 kind:Int
 frm:Int
 view:Int
 normal:Int
 op:Int
 commit:Int
 log:Lg
deriving DecidableEq
structure Mg where
 kind:Int
 frm:Int
 view:Int
 op:Int
 commit:Int
 normal:Int
 nonce:Int
 client:Int
 req:Int
 answer:Int
 ck:Int
 cx:Int
 cv:Int
 log:Lg
deriving DecidableEq
structure Rp where
 me:Int
 of:Int
 mode:Int
 view:Int
 normal:Int
 commit:Int
 log:Lg
 votes:List Vt
 cell:Int
 nonce:Int
deriving DecidableEq
structure Ot where
 to:Int
 msg:Mg
deriving DecidableEq
def Cel.enc (r:Cel):List Value:=[.int .i64 r.key, .int .i64 r.value]
def Sea.enc (r:Sea):List Value:=[.int .i64 r.client, .int .i64 r.req, .int .i64 r.answer]
def Ent.enc (r:Ent):List Value:=[.int .i64 r.client, .int .i64 r.req, .int .i64 r.kind, .int .i64 r.key, .int .i64 r.value]
theorem Cel.len (r:Cel):r.enc.length=2:=rfl
theorem Sea.len (r:Sea):r.enc.length=3:=rfl
theorem Ent.len (r:Ent):r.enc.length=5:=rfl
structure LAd where
 cA:Option Addr
 cc:Nat
 sA:Option Addr
 sc:Nat
 eA:Option Addr
 ec:Nat
def Lg.none:Lg:=⟨0,[],[],[]⟩
def LAd.none:LAd:=⟨Option.none,0,Option.none,0,Option.none,0⟩
def LgR (w:World) (a:LAd) (l:Lg):Prop:=Rd Cel.enc 2 w a.cA a.cc l.cells∧Rd Sea.enc 3 w a.sA a.sc l.seats∧Rd Ent.enc 5 w a.eA a.ec l.ents
theorem LgR.keep {w w':World} {a:LAd} {l:Lg} (h:LgR w a l) (hx:Ext w w'):LgR w' a l:=⟨h.1.keep hx,h.2.1.keep hx,h.2.2.keep hx⟩
abbrev VtE:=LAd×Vt
def VtE.enc (p:VtE):List Value:=[.int .i64 p.2.kind, .int .i64 p.2.frm, .int .i64 p.2.view, .int .i64 p.2.normal, .int .i64 p.2.op, .int .i64 p.2.commit, .int .i64 p.2.log.base, .slice p.1.cA p.2.log.cells.length p.1.cc, .slice p.1.sA p.2.log.seats.length p.1.sc, .slice p.1.eA p.2.log.ents.length p.1.ec]
def VsR (w:World) (A:Option Addr) (c:Nat) (ps:List VtE):Prop:=Rd VtE.enc 10 w A c ps∧∀ p∈ps,LgR w p.1 p.2.log
theorem VsR.keep {w w':World} {A:Option Addr} {c:Nat} {ps:List VtE} (h:VsR w A c ps) (hx:Ext w w'):VsR w' A c ps:=⟨h.1.keep hx,fun p hp=>(h.2 p hp).keep hx⟩
abbrev OtE:=LAd×Ot
def OtE.enc (p:OtE):List Value:=[.int .i64 p.2.to, .int .i64 p.2.msg.kind, .int .i64 p.2.msg.frm, .int .i64 p.2.msg.view, .int .i64 p.2.msg.op, .int .i64 p.2.msg.commit, .int .i64 p.2.msg.normal, .int .i64 p.2.msg.nonce, .int .i64 p.2.msg.client, .int .i64 p.2.msg.req, .int .i64 p.2.msg.answer, .int .i64 p.2.msg.ck, .int .i64 p.2.msg.cx, .int .i64 p.2.msg.cv,
 .int .i64 p.2.msg.log.base, .slice p.1.cA p.2.msg.log.cells.length p.1.cc, .slice p.1.sA p.2.msg.log.seats.length p.1.sc, .slice p.1.eA p.2.msg.log.ents.length p.1.ec]
def OsR (w:World) (A:Option Addr) (c:Nat) (ps:List OtE):Prop:=Rd OtE.enc 18 w A c ps∧∀ p∈ps,LgR w p.1 p.2.msg.log
def blk:Option Addr→List Nat
 | Option.none=>[]
 | some a=>[a.block]
theorem ownBlock_blk (A:Option Addr) (n c:Nat) (k:Nat):(Value.slice A n c).ownBlock=some k↔k∈blk A:=by
 cases A <;> simp [Value.ownBlock,blk,eq_comm]
def LAd.fp (a:LAd):List Nat:=blk a.cA++blk a.sA++blk a.eA
structure Chg (w w':World) (S:List Nat):Prop where
 os:w'.os=w.os
 tape:w'.tape=w.tape
 output:w'.output=w.output
 size:w.heap.size≤w'.heap.size
 block:∀ k,k < w.heap.size→k∉S→w'.heap[k]?=w.heap[k]?
theorem Chg.refl (w:World) (S:List Nat):Chg w w S:=⟨rfl,rfl,rfl,Nat.le_refl _,fun _ _ _=>rfl⟩
theorem Chg.trans {a b c:World} {S:List Nat} (h:Chg a b S) (k:Chg b c S):Chg a c S :=
 ⟨k.os.trans h.os,k.tape.trans h.tape,k.output.trans h.output,Nat.le_trans h.size k.size,fun i hi hn=>(k.block i (Nat.lt_of_lt_of_le hi h.size) hn).trans (h.block i hi hn)⟩
theorem Chg.more {a b:World} {S S':List Nat} (h:Chg a b S) (hs:∀ k,k∈S→k∈S'):Chg a b S':=⟨h.os,h.tape,h.output,h.size,fun k hk hn=>h.block k hk (fun hm=>hn (hs k hm))⟩
theorem chg_grown {w w':World} {A:Option Addr} {n c:Nat} (h:w.grownBy w' (Value.slice A n c).ownBlock):Chg w w' (blk A) :=
 ⟨h.os,h.tape,h.output,h.size,fun k hk hn=>h.block k hk (fun he=>hn ((ownBlock_blk A n c k).1 he.symm))⟩
theorem chg_ext {w w':World} (S:List Nat) (h:Ext w w'):Chg w w' S:=⟨h.os,h.tape,h.output,h.size,fun k hk _=>h.block k hk⟩
theorem ext_chg {a b c:World} {S:List Nat} (h:Ext a b) (k:Chg b c S) (hS:∀ g∈S,a.heap.size≤g):Ext a c :=
 ⟨k.os.trans h.os,k.tape.trans h.tape,k.output.trans h.output,Nat.le_trans h.size k.size,fun i hi=>(k.block i (Nat.lt_of_lt_of_le hi h.size) (fun hm=>by have:=hS i hm;omega)).trans (h.block i hi)⟩
theorem Ow.chg {α:Type} {enc:α→List Value} {e:TypeId} {sz:Nat} {w w':World} {B:Nat} {A:Option Addr} {n c:Nat} {l:List α} {S:List Nat} (h:Ow enc e sz w B (.slice A n c) l) (hg:Chg w w' S) (hne:∀ k,k∈blk A→k∉S):Ow enc e sz w' B (.slice A n c) l:=by
 refine ⟨h.1, ?_⟩
 rcases h.2 with h2 | ⟨g,cap,cur,hv,hb,hh,r⟩
 ·exact .inl h2
 ·refine .inr ⟨g,cap,cur,hv,hb, ?_,r⟩
  rw [hg.block g (Array.getElem?_eq_some_iff.1 hh).1 (hne g ((ownBlock_blk A n c g).1 (by rw [hv];rfl)))]
  exact hh
theorem Ow.inB {α:Type} {enc:α→List Value} {e:TypeId} {sz:Nat} {w:World} {B:Nat} {A:Option Addr} {n c:Nat} {l:List α} (h:Ow enc e sz w B (.slice A n c) l):∀ k∈blk A,B≤k∧k < w.heap.size:=fun k hk=>h.lt k ((ownBlock_blk A n c k).2 hk)
structure LgO (w:World) (B T:Nat) (a:LAd) (l:Lg):Prop where
 c:Ow Cel.enc 124 2 w B (.slice a.cA l.cells.length a.cc) l.cells
 s:Ow Sea.enc 126 3 w B (.slice a.sA l.seats.length a.sc) l.seats
 e:Ow Ent.enc 65 5 w B (.slice a.eA l.ents.length a.ec) l.ents
 nd:a.fp.Nodup
 top:∀ k∈a.fp,k < T
theorem LgO.low {w:World} {B T:Nat} {a:LAd} {l:Lg} (h:LgO w B T a l):∀ k∈a.fp,B≤k:=fun k hk=>by
 unfold LAd.fp at hk
 rw [List.mem_append,List.mem_append] at hk
 rcases hk with (hk | hk) | hk
 ·exact (h.c.inB k hk).1
 ·exact (h.s.inB k hk).1
 ·exact (h.e.inB k hk).1
theorem LgO.lt {w:World} {B T:Nat} {a:LAd} {l:Lg} (h:LgO w B T a l):∀ k∈a.fp,k < w.heap.size:=fun k hk=>by
 unfold LAd.fp at hk
 rw [List.mem_append,List.mem_append] at hk
 rcases hk with (hk | hk) | hk
 ·exact (h.c.inB k hk).2
 ·exact (h.s.inB k hk).2
 ·exact (h.e.inB k hk).2
theorem LgO.rd {w:World} {B T:Nat} {a:LAd} {l:Lg} (h:LgO w B T a l):LgR w a l:=⟨(h.c.rd Cel.len).2,(h.s.rd Sea.len).2,(h.e.rd Ent.len).2⟩
theorem LgO.kept {w w':World} {B T:Nat} {a:LAd} {l:Lg} (h:LgO w B T a l) (hx:Ext w w'):LgO w' B T a l:=⟨h.c.kept hx,h.s.kept hx,h.e.kept hx,h.nd,h.top⟩
theorem LgO.chg {w w':World} {B T:Nat} {a:LAd} {l:Lg} {S:List Nat} (h:LgO w B T a l) (hg:Chg w w' S) (hne:∀ k,k∈a.fp→k∉S):LgO w' B T a l:=by
 unfold LAd.fp at hne
 exact ⟨h.c.chg hg (fun k hk=>hne k (by simp [hk])),h.s.chg hg (fun k hk=>hne k (by simp [hk])),h.e.chg hg (fun k hk=>hne k (by simp [hk])),h.nd,h.top⟩
theorem LgO.wide {w:World} {B B' T T':Nat} {a:LAd} {l:Lg} (h:LgO w B T a l) (hB:B'≤B) (hT:T≤T'):LgO w B' T' a l:=⟨h.c.less hB,h.s.less hB,h.e.less hB,h.nd,fun k hk=>by have:=h.top k hk;omega⟩
structure VsO (w:World) (B T:Nat) (A:Option Addr) (c:Nat) (ps:List VtE):Prop where
 r:Ow VtE.enc 57 10 w B (.slice A ps.length c) ps
 l:∀ p∈ps,LgO w B T p.1 p.2.log
 nd:(blk A++ps.flatMap (fun p=>p.1.fp)).Nodup
 top:∀ k∈blk A++ps.flatMap (fun p=>p.1.fp),k < T
theorem VtE.len (p:VtE):(VtE.enc p).length=10:=rfl
theorem VsO.rd {w:World} {B T:Nat} {A:Option Addr} {c:Nat} {ps:List VtE} (h:VsO w B T A c ps):VsR w A c ps:=⟨(h.r.rd VtE.len).2,fun p hp=>(h.l p hp).rd⟩
theorem VsO.kept {w w':World} {B T:Nat} {A:Option Addr} {c:Nat} {ps:List VtE} (h:VsO w B T A c ps) (hx:Ext w w'):VsO w' B T A c ps:=⟨h.r.kept hx,fun p hp=>(h.l p hp).kept hx,h.nd,h.top⟩
def inB (x lo hi:Int):Bool:=decide (lo≤x) && decide (x≤hi)
theorem c_l1In (x lo hi:Int) (w:World):Calls Tryz.prog 21 #[.int .i64 x, .int .i64 lo, .int .i64 hi] w fun e w'=>e = .returned (.bool (inB x lo hi))∧Ext w w':=by
 go_enter Tryz.func21,Tryz.ntmps21
 go_wp2
 all_goals
  go_ret
  exact ⟨ret_bool (by simp [inB, *] <;> omega),ext_refl _⟩
theorem c_from (x lo hi:Int) (w:World):Calls Tryz.prog 39 #[.int .i64 x, .int .i64 lo, .int .i64 hi] w fun e w'=>e = .returned (.bool (inB x lo hi))∧Ext w w':=by
 go_enter Tryz.func39,Tryz.ntmps39
 go_wp2
 all_goals
  go_ret
  exact ⟨ret_bool (by simp [inB, *] <;> omega),ext_refl _⟩
theorem c_l1Whole (x:Int) (w:World):Calls Tryz.prog 22 #[.int .i64 x] w fun e w'=>e = .returned (.bool (inB x 0 1000000000))∧Ext w w':=by
 go_enter Tryz.func22,Tryz.ntmps22
 go_wp2_with (go_at_call 21;refine (c_l1In _ _ _ _).mono ?_;rintro e w1 ⟨rfl,hx⟩)
 go_ret
 exact ⟨rfl,hx⟩
theorem c_isWhole (x:Int) (w:World):Calls Tryz.prog 40 #[.int .i64 x] w fun e w'=>e = .returned (.bool (inB x 0 1000000000))∧Ext w w':=by
 go_enter Tryz.func40,Tryz.ntmps40
 go_wp2_with (go_at_call 39;refine (c_from _ _ _ _).mono ?_;rintro e w1 ⟨rfl,hx⟩)
 go_ret
 exact ⟨rfl,hx⟩
theorem c_isReq (x:Int) (w:World):Calls Tryz.prog 100 #[.int .i64 x] w fun e w'=>e = .returned (.bool (inB x 1 1000000000))∧Ext w w':=by
 go_enter Tryz.func100,Tryz.ntmps100
 go_wp2_with (go_at_call 39;refine (c_from _ _ _ _).mono ?_;rintro e w1 ⟨rfl,hx⟩)
 go_ret
 exact ⟨rfl,hx⟩
theorem c_isAnswer (x:Int) (w:World):Calls Tryz.prog 101 #[.int .i64 x] w fun e w'=>e = .returned (.bool (inB x (-1) 1000000000))∧Ext w w':=by
 go_enter Tryz.func101,Tryz.ntmps101
 go_wp2_with (go_at_call 39;refine (c_from _ _ _ _).mono ?_;rintro e w1 ⟨rfl,hx⟩)
 go_ret
 exact ⟨rfl,hx⟩
theorem inB_yes (x a b:Int):inB x a b=true↔a≤x∧x≤b:=by simp [inB]
abbrev wh (x:Int):Bool:=inB x 0 1000000000
end Go.Proofs.YtikelfmmldafpaaGreat
namespace Go.Proofs.YtikelfmmldafpaaGreat
def idxOf {α:Type} (p:α→Bool) (l:List α):Int:=match l.findIdx? p with
 | some i=>i
 | none=>-1
theorem idx_hit {α:Type} {p:α→Bool} {l:List α} {k:Nat} (hk:k < l.length) (h:p l[k]=true) (hb:∀ j (hj:j < l.length),j < k→p l[j]=false):idxOf p l=k:=by
 have:l.findIdx? p=some k:=List.findIdx?_eq_some_iff_getElem.2 ⟨hk,h,fun j hj=>by simp [hb j (by omega) hj]⟩
 unfold idxOf
 rw [this]
theorem idx_miss {α:Type} {p:α→Bool} {l:List α} (hb:∀ j (hj:j < l.length),p l[j]=false):idxOf p l=-1:=by
 have:l.findIdx? p=none:=List.findIdx?_eq_none_iff.2 fun x hx=>by
  obtain ⟨i,hi,rfl⟩:=List.getElem_of_mem hx
  exact hb i hi
 unfold idxOf
 rw [this]
theorem no_next {α:Type} {p:α→Bool} {l:List α} {k:Nat} (hb:∀ j (hj:j < l.length),j < k→p l[j]=false) (h:∀ hk:k < l.length,p l[k]=false):∀ j (hj:j < l.length),j < k+1→p l[j]=false:=fun j hj hk=>by
 by_cases he:j=k
 ·subst he;exact h hj
 ·exact hb j hj (by omega)
theorem idxOf_any {α:Type} (p:α→Bool) (l:List α):decide (0≤idxOf p l)=l.any p:=by
 unfold idxOf
 cases h:l.findIdx? p with
 | none =>
  have:=List.findIdx?_eq_none_iff.1 h
  simp
  simpa using this
 | some i =>
  obtain ⟨h3,h4,h5⟩:=List.findIdx?_eq_some_iff_getElem.1 h
  simp
  exact ⟨_,List.getElem_mem h3,h4⟩
end Go.Proofs.YtikelfmmldafpaaGreat
namespace Go.Proofs.YtikelfmmldafpaaGreat
open Go.ChangeShapes Go.WideShapes Go.ChangeAt Go.RowKit Go.Sort
set_option linter.unusedVariables false
set_option linter.unusedSimpArgs false
def cmdOk (k x v:Int):Bool:=decide (0≤x∧x≤1000000000∧((k=1∨k=4)∧v=0∨(k=2∨k=3)∧0≤v∧v≤1000000000))
theorem c_sCmdOk (k x v:Int) (w:World):Calls Tryz.prog 95 #[.agg #[.int .i64 k, .int .i64 x, .int .i64 v]] w fun e w'=>e = .returned (.bool (cmdOk k x v))∧Ext w w':=by
 go_enter Tryz.func95,Tryz.ntmps95
 go_wp2_with (go_at_call 22;refine (c_l1Whole _ _).mono ?_;rintro e w1 ⟨rfl,hx⟩;obtain ⟨hc1,hf1,hs1⟩:=hx.rules;(try simp at hs1);have z0:w.heap.size < w1.heap.size:=(by omega))
 all_goals
  go_ret
  refine ⟨?_, ?_⟩
  ·(refine ret_bool ?_;rw [Bool.eq_iff_iff];simp only [inB,cmdOk,Bool.and_eq_true,Bool.or_eq_true,Bool.not_eq_true,Bool.not_eq_true',Bool.not_eq_false',Bool.not_eq_false,Bool.not_not,beq_iff_eq,bne_iff_ne,ne_eq,beq_eq_false_iff_ne,bne_eq_false_iff_eq,decide_eq_true_eq,decide_eq_false_iff_not,Bool.and_eq_false_imp,Bf,reduceCtorEq,iff_true,iff_false,true_iff,false_iff,not_and,not_or] at *;omega)
  ·(repeat (first | with_reducible exact ext_refl _ | with_reducible refine ext_to ?_ _ | with_reducible refine ext_set ?_ (by first | (simp;done) | (simp;omega) | omega) _ | with_reducible refine ext_drew ?_ | with_reducible refine Ext.trans ?_ (by assumption)))
theorem c_iCmdOk (k x v:Int) (w:World):Calls Tryz.prog 98 #[.agg #[.int .i64 k, .int .i64 x, .int .i64 v]] w fun e w'=>e = .returned (.bool (cmdOk k x v))∧Ext w w':=by
 go_enter Tryz.func98,Tryz.ntmps98
 go_wp2_with (go_at_call 40;refine (c_isWhole _ _).mono ?_;rintro e w1 ⟨rfl,hx⟩;obtain ⟨hc1,hf1,hs1⟩:=hx.rules;(try simp at hs1);have z0:w.heap.size < w1.heap.size:=(by omega))
 all_goals
  go_ret
  refine ⟨?_, ?_⟩
  ·(refine ret_bool ?_;rw [Bool.eq_iff_iff];simp only [inB,cmdOk,Bool.and_eq_true,Bool.or_eq_true,Bool.not_eq_true,Bool.not_eq_true',Bool.not_eq_false',Bool.not_eq_false,Bool.not_not,beq_iff_eq,bne_iff_ne,ne_eq,beq_eq_false_iff_ne,bne_eq_false_iff_eq,decide_eq_true_eq,decide_eq_false_iff_not,Bool.and_eq_false_imp,Bf,reduceCtorEq,iff_true,iff_false,true_iff,false_iff,not_and,not_or] at *;omega)
  ·(repeat (first | with_reducible exact ext_refl _ | with_reducible refine ext_to ?_ _ | with_reducible refine ext_set ?_ (by first | (simp;done) | (simp;omega) | omega) _ | with_reducible refine ext_drew ?_ | with_reducible refine Ext.trans ?_ (by assumption)))
def Ent.ok (e:Ent):Bool:=wh e.client && inB e.req 1 1000000000 && cmdOk e.kind e.key e.value
theorem entOk_mk (a b k x v:Int):(⟨a,b,k,x,v⟩:Ent).ok=(inB a 0 1000000000 && inB b 1 1000000000 && cmdOk k x v):=rfl
theorem c_sEntryOk (r:Ent) (w:World):Calls Tryz.prog 55 #[.agg #[.int .i64 r.client, .int .i64 r.req, .int .i64 r.kind, .int .i64 r.key, .int .i64 r.value]] w fun e w'=>e = .returned (.bool r.ok)∧Ext w w':=by
 obtain ⟨a,b,k,x,v⟩:=r
 rw [entOk_mk]
 dsimp only
 go_enter Tryz.func55,Tryz.ntmps55
 go_wp2_with (first | (go_at_call 22;refine (c_l1Whole _ _).mono ?_;rintro e w1 ⟨rfl,hx⟩;obtain ⟨hc1,hf1,hs1⟩:=hx.rules;(try simp at hs1);have z0:w.heap.size < w1.heap.size:=(by omega)) | (go_at_call 21;refine (c_l1In _ _ _ _).mono ?_;rintro e w1 ⟨rfl,hx⟩;obtain ⟨hc1,hf1,hs1⟩:=hx.rules;(try simp at hs1);have z0:w.heap.size < w1.heap.size:=(by omega)) | (go_at_call 95;refine (c_sCmdOk _ _ _ _).mono ?_;rintro e w1 ⟨rfl,hx⟩;obtain ⟨hc1,hf1,hs1⟩:=hx.rules;(try simp at hs1);have z0:w.heap.size < w1.heap.size:=(by omega)))
 all_goals
  go_ret
  refine ⟨ret_bool ?_, ?_⟩
  ·(first | (simp [*];done) | (simp_all;done))
  ·(repeat (first | with_reducible exact ext_refl _ | with_reducible refine ext_to ?_ _ | with_reducible refine ext_set ?_ (by first | (simp;done) | (simp;omega) | omega) _ | with_reducible refine ext_drew ?_ | with_reducible refine Ext.trans ?_ (by assumption)))
theorem c_iEntryOk (r:Ent) (w:World):Calls Tryz.prog 66 #[.agg #[.int .i64 r.client, .int .i64 r.req, .int .i64 r.kind, .int .i64 r.key, .int .i64 r.value]] w fun e w'=>e = .returned (.bool r.ok)∧Ext w w':=by
 obtain ⟨a,b,k,x,v⟩:=r
 rw [entOk_mk]
 dsimp only
 go_enter Tryz.func66,Tryz.ntmps66
 go_wp2_with (first | (go_at_call 40;refine (c_isWhole _ _).mono ?_;rintro e w1 ⟨rfl,hx⟩;obtain ⟨hc1,hf1,hs1⟩:=hx.rules;(try simp at hs1);have z0:w.heap.size < w1.heap.size:=(by omega)) | (go_at_call 100;refine (c_isReq _ _).mono ?_;rintro e w1 ⟨rfl,hx⟩;obtain ⟨hc1,hf1,hs1⟩:=hx.rules;(try simp at hs1);have z0:w.heap.size < w1.heap.size:=(by omega)) | (go_at_call 98;refine (c_iCmdOk _ _ _ _).mono ?_;rintro e w1 ⟨rfl,hx⟩;obtain ⟨hc1,hf1,hs1⟩:=hx.rules;(try simp at hs1);have z0:w.heap.size < w1.heap.size:=(by omega)))
 all_goals
  go_ret
  refine ⟨ret_bool ?_, ?_⟩
  ·(first | (simp [*];done) | (simp_all;done))
  ·(repeat (first | with_reducible exact ext_refl _ | with_reducible refine ext_to ?_ _ | with_reducible refine ext_set ?_ (by first | (simp;done) | (simp;omega) | omega) _ | with_reducible refine ext_drew ?_ | with_reducible refine Ext.trans ?_ (by assumption)))
theorem c_badEntry (r:Ent) (w:World):Calls Tryz.prog 65 #[.agg #[.int .i64 r.client, .int .i64 r.req, .int .i64 r.kind, .int .i64 r.key, .int .i64 r.value]] w fun e w'=>e = .returned (.bool (!r.ok))∧Ext w w':=by
 obtain ⟨a,b,k,x,v⟩:=r
 have hcon:=c_iEntryOk ⟨a,b,k,x,v⟩
 dsimp only at hcon
 dsimp only
 go_enter Tryz.func65,Tryz.ntmps65
 go_wp2_with fail
 refine (hcon _).mono ?_
 rintro e w1 ⟨rfl,hx⟩
 clear hcon
 go_wp2
 go_ret
 exact ⟨rfl,Ext.trans (ext_alloc _ _) hx⟩
theorem Cel.enc_len (r:Cel):r.enc.length=2:=rfl
theorem Rd.atCel {w:World} {A:Option Addr} {c:Nat} {l:List Cel} (h:Rd Cel.enc 2 w A c l) {k:Nat} (hk:k < l.length):∃ b o,A=some ⟨b,o,none⟩∧b < w.heap.size ∧
  w.cell? ⟨b,o+k * 2,none⟩=some (.int .i64 l[k].key)∧w.cell? ⟨b,o+k * 2+1,none⟩=some (.int .i64 l[k].value):=by
 obtain ⟨b,o,e,hlt,hc⟩:=h.2.2 (by omega)
 exact ⟨b,o,e,hlt,hc k hk 0 _ rfl,hc k hk 1 _ rfl⟩
theorem Tryz.infoCel:(Tryz.prog.info? 124).map (fun i=>(i.zero,i.size,i.bytes))=some (some (.agg #[.int .i64 0, .int .i64 0]),2,16):=by kernel_rfl
theorem Sea.enc_len (r:Sea):r.enc.length=3:=rfl
theorem Rd.atSea {w:World} {A:Option Addr} {c:Nat} {l:List Sea} (h:Rd Sea.enc 3 w A c l) {k:Nat} (hk:k < l.length):∃ b o,A=some ⟨b,o,none⟩∧b < w.heap.size ∧
  w.cell? ⟨b,o+k * 3,none⟩=some (.int .i64 l[k].client)∧w.cell? ⟨b,o+k * 3+1,none⟩=some (.int .i64 l[k].req)∧w.cell? ⟨b,o+k * 3+2,none⟩=some (.int .i64 l[k].answer):=by
 obtain ⟨b,o,e,hlt,hc⟩:=h.2.2 (by omega)
 exact ⟨b,o,e,hlt,hc k hk 0 _ rfl,hc k hk 1 _ rfl,hc k hk 2 _ rfl⟩
theorem Tryz.infoSea:(Tryz.prog.info? 126).map (fun i=>(i.zero,i.size,i.bytes))=some (some (.agg #[.int .i64 0, .int .i64 0, .int .i64 0]),3,24):=by kernel_rfl
theorem Ent.enc_len (r:Ent):r.enc.length=5:=rfl
theorem Rd.atEnt {w:World} {A:Option Addr} {c:Nat} {l:List Ent} (h:Rd Ent.enc 5 w A c l) {k:Nat} (hk:k < l.length):∃ b o,A=some ⟨b,o,none⟩∧b < w.heap.size ∧
  w.cell? ⟨b,o+k * 5,none⟩=some (.int .i64 l[k].client)∧w.cell? ⟨b,o+k * 5+1,none⟩=some (.int .i64 l[k].req)∧w.cell? ⟨b,o+k * 5+2,none⟩=some (.int .i64 l[k].kind)∧w.cell? ⟨b,o+k * 5+3,none⟩=some (.int .i64 l[k].key)∧w.cell? ⟨b,o+k * 5+4,none⟩=some (.int .i64 l[k].value):=by
 obtain ⟨b,o,e,hlt,hc⟩:=h.2.2 (by omega)
 exact ⟨b,o,e,hlt,hc k hk 0 _ rfl,hc k hk 1 _ rfl,hc k hk 2 _ rfl,hc k hk 3 _ rfl,hc k hk 4 _ rfl⟩
theorem Tryz.infoEnt:(Tryz.prog.info? 65).map (fun i=>(i.zero,i.size,i.bytes))=some (some (.agg #[.int .i64 0, .int .i64 0, .int .i64 0, .int .i64 0, .int .i64 0]),5,40):=by kernel_rfl
end Go.Proofs.YtikelfmmldafpaaGreat
