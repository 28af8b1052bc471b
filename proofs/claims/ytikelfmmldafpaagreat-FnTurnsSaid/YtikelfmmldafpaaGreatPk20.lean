/- What the interpreter's states say of a frame and a world: rows are typed by their elements' types, boxes hold what the state says; how worlds may turn. -/
import Derived.Test.YtikelfmmldafpaaGreatPk19
import Derived.Laws.CopyRow
import Derived.Lib.FrozenHead
import Derived.Deep.MidRow
import Derived.Deep.AppendSrc
namespace Go.Proofs.YtikelfmmldafpaaGreat.Ai
open Go.RowKit
set_option linter.unusedVariables false
set_option linter.unusedSimpArgs false
structure Cx where
 P:Program
 tb:List (Nat×Ty)
 B:Nat
 pc:Nat
 Cur:World→Prop
def zeroV:Ck→Value
 | .int k _ _ => .int k 0
 | .bool => .bool false
 | .str => .string .empty
 | .sl _ => .slice none 0 0
 | .cur => .pointer none
def Ckwf:Ck→Prop
 | .int k lo hi=>(nat8 k).1≤lo∧hi≤(nat8 k).2
 | _=>True
structure TyOk (P:Program) (t:Nat) (T:Ty):Prop where
 size:(P.info? t).map (·.size)=some T.cells.length
 zero:∃ z,(P.info? t).bind (·.zero)=some z∧z.cells=(T.cells.map zeroV).toArray
 st:T.agg=true→∃ fs,P.underlying t=some (.struct fs)∧∀ f o,nth T.flds f=some o→∃ fd,fs[f]?=some fd∧fd.offset=o.1∧(P.info? fd.type).map (·.size)=some o.2∧o.2≠0∧o.1+o.2≤T.cells.length
 pl:T.agg=false→∃ c d,T.cells=[c]∧P.underlying t=some d∧d.isRow=false∧match c with
  | .int k _ _=>d = .int k
  | .bool=>d = .bool
  | .str=>d = .string
  | .sl e=>d = .slice e∧T.el=e
  | .cur=>True
 pls:T.agg=true→∃ fs,P.underlying t=some (.struct fs)∧∀ w,(fs.mapM fun (f:Field)=>(do pure (f.offset,←sizeOf f.type):Sem (Nat×Nat))).run P w = .ok T.flds.toArray w
 bytes:∀ i,P.info? t=some i→i.bytes≤65536
 fl:T.agg=false→T.flds=[]
 rk:T.rk.length=T.cells.length∧0 < T.cells.length
 wf:∀ c∈T.rk,Ckwf c
 zr:∀ c∈T.cells,∀ k lo hi,c = .int k lo hi→(nat8 k).1≤0∧0≤(nat8 k).2
variable (C:Cx)
def sz (T:Nat):Nat:=match look T C.tb with
 | some t=>t.rk.length
 | none=>0
def rks (T:Nat):List Ck:=match look T C.tb with
 | some t=>t.rk
 | none=>[]
def RowAt (R:Nat→Prop) (w:World) (T g n:Nat):Prop:=R g∧∃ cs fz,w.heap[g]?=some (.cells cs T fz)∧n≤cs.size
def SlOk (R:Nat→Prop) (w:World) (T:Nat) (v:Value) (n:Int):Prop :=
 ∃ a m c,v = .slice a m c∧n=(m:Int)∧(m:Int)≤LIM∧m≤c∧((a=none∧c=0)∨∃ g k,a=some ⟨g,k * sz C T,none⟩∧RowAt R w T g ((k+c) * sz C T))
def CkOk (R:Nat→Prop) (w:World):Ck→Value→Prop
 | .int k lo hi,v=>∃ n,v = .int k n∧lo≤n∧n≤hi
 | .bool,v=>∃ b,v = .bool b
 | .str,v=>∃ s,v = .string s∧(s.size:Int)≤LIM
 | .sl T,v=>∃ n,SlOk C R w T v n
 | .cur,v=>v = .pointer (some ⟨C.pc,0,none⟩)
def RowOk (R:Nat→Prop) (w:World) (g:Nat):Prop :=
 C.B≤g∧g≠C.pc∧∃ cs T fz,w.heap[g]?=some (.cells cs T fz)∧0 < sz C T∧(fz=(0,0)∨cs.size≤fz.1)∧(∃ k,k≤9223372036854775807∧cs.size=k * sz C T) ∧
  ∀ j v,cs[j]?=some v→∃ c,nth (rks C T) (j % sz C T)=some c∧CkOk C R w c v
structure Hp (R:Nat→Prop) (w:World):Prop where
 rows:∀ g,R g→RowOk C R w g
 cur:C.Cur w
 pc:C.pc < w.heap.size
 B:C.B≤w.heap.size
structure Gw (R R':Nat→Prop) (w w':World):Prop where
 os:w'.os=w.os
 tape:w'.tape=w.tape
 output:w'.output=w.output
 size:w.heap.size≤w'.heap.size
 rows:∀ g,g < w.heap.size→(R' g↔R g)
 keep:∀ g,g < w.heap.size→¬ R g→g≠C.pc→w'.heap[g]?=w.heap[g]?
 row:∀ g,R g→∀ cs T fz,w.heap[g]?=some (.cells cs T fz)→∃ cs' fz',w'.heap[g]?=some (.cells cs' T fz')∧cs'.size=cs.size
variable {C}
theorem Gw.refl (R:Nat→Prop) (w:World):Gw C R R w w:=⟨rfl,rfl,rfl,Nat.le_refl _,fun _ _=>Iff.rfl,fun _ _ _ _=>rfl,fun _ _ cs _ fz h=>⟨cs,fz,h,rfl⟩⟩
theorem lt_of_some {w:World} {g:Nat} {o:Obj} (h:w.heap[g]?=some o):g < w.heap.size:=(Array.getElem?_eq_some_iff.1 h).1
theorem Hp.lt {R:Nat→Prop} {w:World} (h:Hp C R w) {g:Nat} (hg:R g):g < w.heap.size:=by
 obtain ⟨_,_,cs,T,fz,e,_⟩:=h.rows g hg
 exact lt_of_some e
theorem Gw.trans {R R' R'':Nat→Prop} {a b c:World} (hR:∀ g,R g→g < a.heap.size) (h:Gw C R R' a b) (k:Gw C R' R'' b c):Gw C R R'' a c:=by
 refine ⟨k.os.trans h.os,k.tape.trans h.tape,k.output.trans h.output,Nat.le_trans h.size k.size,fun g hg=>(k.rows g (Nat.lt_of_lt_of_le hg h.size)).trans (h.rows g hg),fun g hg hn hp=>?_,fun g hg cs T fz he=>?_⟩
 ·rw [k.keep g (Nat.lt_of_lt_of_le hg h.size) (fun hr=>hn ((h.rows g hg).1 hr)) hp,h.keep g hg hn hp]
 ·obtain ⟨cs',fz',e1,s1⟩:=h.row g hg cs T fz he
  obtain ⟨cs2,fz2,e2,s2⟩:=k.row g ((h.rows g (hR g hg)).2 hg) cs' T fz' e1
  exact ⟨cs2,fz2,e2,s2.trans s1⟩
structure Gr (R R':Nat→Prop) (w w':World):Prop where
 sub:∀ g,R g→R' g
 row:∀ g,R g→∀ cs T fz,w.heap[g]?=some (.cells cs T fz)→∃ cs' fz',w'.heap[g]?=some (.cells cs' T fz')∧cs'.size=cs.size
theorem Gw.gr {R R':Nat→Prop} {w w':World} (hR:∀ g,R g→g < w.heap.size) (h:Gw C R R' w w'):Gr R R' w w':=⟨fun g hg=>(h.rows g (hR g hg)).2 hg,h.row⟩
theorem RowAt.gr {R R':Nat→Prop} {w w':World} {T g n:Nat} (h:RowAt R w T g n) (k:Gr R R' w w'):RowAt R' w' T g n:=by
 obtain ⟨h1,cs,fz,h2,h3⟩:=h
 obtain ⟨cs',fz',e,s⟩:=k.row g h1 cs T fz h2
 exact ⟨k.sub g h1,cs',fz',e,by omega⟩
theorem SlOk.gr {R R':Nat→Prop} {w w':World} {T:Nat} {v:Value} {n:Int} (h:SlOk C R w T v n) (k:Gr R R' w w'):SlOk C R' w' T v n:=by
 obtain ⟨a,m,c,h1,h2,h3,h4,h5⟩:=h
 refine ⟨a,m,c,h1,h2,h3,h4, ?_⟩
 rcases h5 with h5 | ⟨g,j,e,hr⟩
 ·exact .inl h5
 ·exact .inr ⟨g,j,e,hr.gr k⟩
theorem CkOk.gr {R R':Nat→Prop} {w w':World} {c:Ck} {v:Value} (h:CkOk C R w c v) (k:Gr R R' w w'):CkOk C R' w' c v:=by
 cases c with
 | sl T=>obtain ⟨n,hn⟩:=h;exact ⟨n,hn.gr k⟩
 | _=>exact h
-- abstract values
section
variable (C) (σ:Nat→Int) (bp:Nat→Nat) (R:Nat→Prop) (w:World)
def AtOk:At→Value→Prop
 | .un,v=>v=undef
 | .unk,_=>True
 | .num k e,v=>v = .int k (e.ev σ)∧(nat8 k).1≤e.ev σ∧e.ev σ≤(nat8 k).2
 | .be b,v=>v = .bool (b.ev σ)
 | .str e,v=>∃ s,v = .string s∧(s.size:Int)=e.ev σ∧(s.size:Int)≤LIM
 | .sl T e,v=>SlOk C R w T v (e.ev σ)
 | .nil,v=>v = .slice none 0 0
 | .ptr b o,v=>v = .pointer (some ⟨bp b,o,none⟩)
 | .row T o,v=>∃ g k,v = .pointer (some ⟨g,k * sz C T+o,none⟩)∧RowAt R w T g ((k+1) * sz C T)
 | .cur,v=>v = .pointer (some ⟨C.pc,0,none⟩)
def LsOk:List At→List Value→Prop
 | [],[]=>True
 | x::l,v::r=>AtOk C σ bp R w x v∧LsOk l r
 | _,_=>False
def TpOk:List (Bool×List At)→List Value→Prop
 | [],[]=>True
 | (true,l)::r,v::vs=>(∃ a,v = .agg a∧LsOk C σ bp R w l a.toList)∧TpOk r vs
 | (false,l)::r,v::vs=>LsOk C σ bp R w l [v]∧TpOk r vs
 | _,_=>False
def BvOk:Bv→Value→Prop
 | .one x,v=>AtOk C σ bp R w x v
 | .agg l,v=>∃ a,v = .agg a∧LsOk C σ bp R w l a.toList
 | .tup l,v=>∃ a,v = .tuple a∧TpOk C σ bp R w l a.toList
def AVOk:AV→Value→Prop
 | .v b,v=>BvOk C σ bp R w b v
 | .gu g b,v=>(g.ev σ=true→BvOk C σ bp R w b v)∧(g.ev σ=false→v=undef)
def TmOk:List AV→List Value→Prop
 | [],[]=>True
 | x::l,v::r=>AVOk C σ bp R w x v∧TmOk l r
 | _,_=>False
def BxOk:Nat→List (Nat×List At)→Prop
 | _,[]=>True
 | i,c::r=>(∃ arr,w.heap[bp i]?=some (.cells arr c.1 (0,0))∧LsOk C σ bp R w c.2 arr.toList)∧BxOk (i+1) r
end
structure St (C:Cx) (w0:World) (σ:Nat→Int) (bp:Nat→Nat) (R:Nat→Prop) (s:AS) (a:Act) (w:World):Prop where
 tm:TmOk C σ bp R w s.tm a.tmps.toList
 bx:BxOk C σ bp R w 0 s.bx
 fs:Fs σ s
structure Sw (C:Cx) (w0:World) (R0:Nat→Prop) (bp:Nat→Nat) (R:Nat→Prop) (s:AS) (a:Act) (w:World):Prop where
 hp:Hp C R w
 gw:Gw C R0 R w0 w
 own:∀ i,i < s.bx.length→w0.heap.size≤bp i∧¬ R (bp i)∧bp i≠C.pc
 inj:∀ i j,i < s.bx.length→j < s.bx.length→bp i=bp j→i=j
 df:a.defers=[]
 r0:∀ q,R0 q→q < w0.heap.size
structure Stt (C:Cx) (w0:World) (R0:Nat→Prop) (σ:Nat→Int) (bp:Nat→Nat) (R:Nat→Prop) (s:AS) (a:Act) (w:World):Prop where
 st:∀ σ' bp',(∀ i,i < s.n→σ' i=σ i)→(∀ i,i < s.bx.length→bp' i=bp i)→St C w0 σ' bp' R s a w
 sw:Sw C w0 R0 bp R s a w
section
variable {σ:Nat→Int} {bp bp':Nat→Nat} {R R':Nat→Prop} {w w':World}
theorem AtOk.gr {x:At} {v:Value} (h:AtOk C σ bp R w x v) (k:Gr R R' w w') (hb:∀ b o,x = .ptr b o→bp' b=bp b):AtOk C σ bp' R' w' x v:=by
 cases x with
 | sl T e=>exact SlOk.gr h k
 | row T o=>obtain ⟨g,j,h1,h2⟩:=h;exact ⟨g,j,h1,h2.gr k⟩
 | ptr b o =>
  show v = .pointer (some ⟨bp' b,o,none⟩)
  rw [hb b o rfl]
  exact h
 | _=>exact h
theorem LsOk.gr:∀ {l:List At} {vs:List Value},LsOk C σ bp R w l vs→Gr R R' w w'→(∀ b,bp' b=bp b)→LsOk C σ bp' R' w' l vs
 | [],[],_,_,_=>trivial
 | [],_::_,h,_,_=>h.elim
 | _::_,[],h,_,_=>h.elim
 | x::l,v::r,h,k,hb=>⟨h.1.gr k fun b o _=>hb b,LsOk.gr h.2 k hb⟩
theorem TpOk.gr:∀ {l:List (Bool×List At)} {vs:List Value},TpOk C σ bp R w l vs→Gr R R' w w'→(∀ b,bp' b=bp b)→TpOk C σ bp' R' w' l vs
 | [],[],_,_,_=>trivial
 | [],_::_,h,_,_=>h.elim
 | (true,_)::_,[],h,_,_=>h.elim
 | (false,_)::_,[],h,_,_=>h.elim
 | (true,l)::r,v::vs,⟨⟨a,e,h⟩,h2⟩,k,hb=>⟨⟨a,e,h.gr k hb⟩,TpOk.gr h2 k hb⟩
 | (false,l)::r,v::vs,⟨h,h2⟩,k,hb=>⟨h.gr k hb,TpOk.gr h2 k hb⟩
theorem BvOk.gr {b:Bv} {v:Value} (h:BvOk C σ bp R w b v) (k:Gr R R' w w') (hb:∀ b,bp' b=bp b):BvOk C σ bp' R' w' b v:=by
 cases b with
 | one x=>exact AtOk.gr h k fun b o _=>hb b
 | agg l=>obtain ⟨a,e,h⟩:=h;exact ⟨a,e,h.gr k hb⟩
 | tup l=>obtain ⟨a,e,h⟩:=h;exact ⟨a,e,h.gr k hb⟩
theorem AVOk.gr {x:AV} {v:Value} (h:AVOk C σ bp R w x v) (k:Gr R R' w w') (hb:∀ b,bp' b=bp b):AVOk C σ bp' R' w' x v:=by
 cases x with
 | v b=>exact BvOk.gr h k hb
 | gu g b=>exact ⟨fun hg=>(h.1 hg).gr k hb,h.2⟩
theorem TmOk.gr:∀ {l:List AV} {vs:List Value},TmOk C σ bp R w l vs→Gr R R' w w'→(∀ b,bp' b=bp b)→TmOk C σ bp' R' w' l vs
 | [],[],_,_,_=>trivial
 | [],_::_,h,_,_=>h.elim
 | _::_,[],h,_,_=>h.elim
 | x::l,v::r,h,k,hb=>⟨h.1.gr k hb,TmOk.gr h.2 k hb⟩
theorem TmOk.nth:∀ {l:List AV} {vs:List Value},TmOk C σ bp R w l vs→∀ {i:Nat} {x:AV},Ai.nth l i=some x→∃ v,vs[i]?=some v∧AVOk C σ bp R w x v
 | [],[],_,i,x,hx=>by cases hx
 | [],_::_,h,_,_,_=>h.elim
 | _::_,[],h,_,_,_=>h.elim
 | y::l,v::r,h,0,x,hx=>by cases hx;exact ⟨v,rfl,h.1⟩
 | y::l,v::r,h,i+1,x,hx=>by
  obtain ⟨u,e,k⟩:=TmOk.nth h.2 (i:=i) hx
  exact ⟨u,by simpa using e,k⟩
theorem TmOk.set:∀ {l:List AV} {vs:List Value},TmOk C σ bp R w l vs→∀ (i:Nat) {x:AV} {v:Value},AVOk C σ bp R w x v→TmOk C σ bp R w (setN l i x) (vs.set i v)
 | [],[],_,i,x,v,_=>trivial
 | [],_::_,h,_,_,_,_=>h.elim
 | _::_,[],h,_,_,_,_=>h.elim
 | y::l,u::r,h,0,x,v,k=>⟨k,h.2⟩
 | y::l,u::r,h,i+1,x,v,k=>⟨h.1,TmOk.set h.2 i k⟩
theorem BxOk.nth:∀ {l:List (Nat×List At)} {j:Nat},BxOk C σ bp R w j l→∀ {i:Nat} {c:Nat×List At},Ai.nth l i=some c→∃ arr,w.heap[bp (j+i)]?=some (.cells arr c.1 (0,0))∧LsOk C σ bp R w c.2 arr.toList
 | [],j,_,i,c,hx=>by cases hx
 | d::l,j,h,0,c,hx=>by cases hx;exact h.1
 | d::l,j,h,i+1,c,hx=>by
  have:=BxOk.nth h.2 (i:=i) hx
  rwa [show j+1+i=j+(i+1) by omega] at this
theorem nth_lt {α:Type}:∀ {l:List α} {i:Nat} {x:α},Ai.nth l i=some x→i < l.length
 | [],i,x,h=>by cases h
 | y::l,0,x,h=>by simp
 | y::l,i+1,x,h=>by have:=nth_lt (l:=l) (i:=i) h;simp;omega
theorem nth_eq {α:Type}:∀ (l:List α) (i:Nat),Ai.nth l i=l[i]?
 | [],i=>by simp [Ai.nth]
 | y::l,0=>by simp [Ai.nth]
 | y::l,i+1=>by simp [Ai.nth,nth_eq l i]
theorem BxOk.gr:∀ {l:List (Nat×List At)} {j:Nat},BxOk C σ bp R w j l→Gr R R' w w'→(∀ b,bp' b=bp b)→(∀ i,j≤i→i < j+l.length→w'.heap[bp i]?=w.heap[bp i]?)→BxOk C σ bp' R' w' j l
 | [],j,_,_,_,_=>trivial
 | c::l,j,⟨⟨arr,e,h⟩,h2⟩,k,hb,hs=>⟨⟨arr,by rw [hb,hs j (Nat.le_refl _) (by simp)];exact e,h.gr k hb⟩,BxOk.gr h2 k hb fun i h1 h3=>hs i (by omega) (by simp at h3 ⊢;omega)⟩
end
end Go.Proofs.YtikelfmmldafpaaGreat.Ai
namespace Go.Proofs.YtikelfmmldafpaaGreat.Ai
open Go.RowKit
set_option linter.unusedVariables false
set_option linter.unusedSimpArgs false
def Does (P:Program) (r:Result Next) (K:Value→World→Prop):Prop:=match r with
 | .ok (.value v) w'=>K v w'
 | .ok .skip w'=>K undef w'
 | .ok (.enter f args) w'=>Calls P f args w' fun e w''=>∃ v,e = .returned v∧K v w''
 | _=>False
theorem Does.wp {P:Program} {o:Oper} {a:Act} {w:World} {K:Value→World→Prop} (h:Does P ((execOp a.eval o).run P w) K) (next:Act→World→Prop) (Q:Exit→Act→World→Prop) (hk:∀ v w',K v w'→next (a.put o.dst v) w'):o.wp P a w next Q:=by
 unfold Oper.wp
 generalize (execOp a.eval o).run P w=r at h
 cases r with
 | halt x w'=>exact h.elim
 | ok n w' =>
  cases n <;> simp only [Does] at h <;> first
   | exact hk _ _ h
   | (simp only [Oper.upon]
      refine Calls.mono h fun e w'' he=>?_
      obtain ⟨v,rfl,hv⟩:=he
      exact hk _ _ hv)
   | exact h.elim
def Agr (n:Nat) (σ' σ:Nat→Int):Prop:=∀ i,i < n→σ' i=σ i
def Agb (n:Nat) (b' b:Nat→Nat):Prop:=∀ i,i < n→b' i=b i
structure Fr (C:Cx) (R R':Nat→Prop) (bp:Nat→Nat) (tg:Option Nat) (w w':World):Prop where
 size:w.heap.size≤w'.heap.size
 gr:Gr R R' w w'
 rows:∀ g,g < w.heap.size→(R' g↔R g)
 keep:∀ g,g < w.heap.size→¬ R g→g≠C.pc→(∀ b,tg=some b→g≠bp b)→w'.heap[g]?=w.heap[g]?
theorem Fr.refl {C:Cx} {R:Nat→Prop} {bp:Nat→Nat} {tg:Option Nat} {w:World}:Fr C R R bp tg w w:=⟨Nat.le_refl _,⟨fun _ h=>h,fun _ _ cs _ fz e=>⟨cs,fz,e,rfl⟩⟩,fun _ _=>Iff.rfl,fun _ _ _ _ _=>rfl⟩
theorem Fr.of_gw {C:Cx} {R R':Nat→Prop} {bp:Nat→Nat} {tg:Option Nat} {w w':World} (g:Gw C R R' w w') (h:∀ g,R g→g < w.heap.size):Fr C R R' bp tg w w':=⟨g.size,g.gr h,g.rows,fun q h1 h2 h3 _=>g.keep q h1 h2 h3⟩
structure Out (C:Cx) (w0:World) (R0 R:Nat→Prop) (w:World) (tg:Option Nat) (σ:Nat→Int) (bp:Nat→Nat) (s s':AS) (a:Act) (ov:Option AV) (v:Value) (w':World) (σ1:Nat→Int) (bp1:Nat→Nat) (R1:Nat→Prop):Prop where
 ag:Agr s.n σ1 σ
 le:s.n≤s'.n
 ab:Agb s.bx.length bp1 bp
 lb:s.bx.length≤s'.bx.length
 st:Stt C w0 R0 σ1 bp1 R1 s' a w'
 av:∀ x,ov=some x→∀ σ' bp',Agr s'.n σ' σ1→Agb s'.bx.length bp' bp1→AVOk C σ' bp' R1 w' x v
 fr:Fr C R R1 bp tg w w'
def Outs (C:Cx) (w0:World) (R0 R:Nat→Prop) (w:World) (tg:Option Nat) (σ:Nat→Int) (bp:Nat→Nat) (s s':AS) (a:Act) (ov:Option AV) (v:Value) (w':World):Prop:=∃ σ1 bp1 R1,Out C w0 R0 R w tg σ bp s s' a ov v w' σ1 bp1 R1
section
variable {C:Cx} {w0:World} {R0:Nat→Prop} {σ:Nat→Int} {bp:Nat→Nat} {R:Nat→Prop} {s s':AS} {a:Act} {w w':World} {tg:Option Nat}
theorem agr_refl (n:Nat) (σ:Nat→Int):Agr n σ σ:=fun _ _=>rfl
theorem agb_refl (n:Nat) (b:Nat→Nat):Agb n b b:=fun _ _=>rfl
theorem Stt.here (h:Stt C w0 R0 σ bp R s a w):St C w0 σ bp R s a w:=h.st σ bp (fun _ _=>rfl) (fun _ _=>rfl)
theorem out_pure (h:Stt C w0 R0 σ bp R s a w) {x:AV} {v:Value} (hv:∀ σ' bp',Agr s.n σ' σ→Agb s.bx.length bp' bp→AVOk C σ' bp' R w x v):Outs C w0 R0 R w tg σ bp s s a (some x) v w :=
 ⟨σ,bp,R,agr_refl _ _,Nat.le_refl _,agb_refl _ _,Nat.le_refl _,h,fun y hy σ' bp' h1 h2=>by cases hy;exact hv σ' bp' h1 h2,Fr.refl⟩
theorem Stt.sm (h:Stt C w0 R0 σ bp R s a w) (hs:Sm s s') (hf:∀ σ' bp',Agr s.n σ' σ→Agb s.bx.length bp' bp→St C w0 σ' bp' R s a w→Fs σ' s'):Stt C w0 R0 σ bp R s' a w:=by
 refine ⟨fun σ' bp' h1 h2=>?_, ?_⟩
 ·rw [hs.n] at h1
  rw [hs.bx] at h2
  have k:=h.st σ' bp' h1 h2
  exact ⟨by rw [hs.tm];exact k.tm,by rw [hs.bx];exact k.bx,hf σ' bp' h1 h2 k⟩
 ·have k:=h.sw
  exact ⟨k.hp,k.gw,fun i hi=>k.own i (by rw [←hs.bx];exact hi),fun i j hi hj=>k.inj i j (by rw [←hs.bx];exact hi) (by rw [←hs.bx];exact hj),k.df,k.r0⟩
def upd (σ:Nat→Int) (n:Nat) (z:Int):Nat→Int:=fun i=>if i=n then z else σ i
theorem upd_agr (σ:Nat→Int) (n:Nat) (z:Int):Agr n (upd σ n z) σ:=fun i hi=>by unfold upd;rw [if_neg (by omega)]
theorem upd_at (σ:Nat→Int) (n:Nat) (z:Int):upd σ n z n=z:=by unfold upd;rw [if_pos rfl]
theorem Agr.less {m n:Nat} {σ' σ:Nat→Int} (h:Agr n σ' σ) (hm:m≤n):Agr m σ' σ:=fun i hi=>h i (by omega)
theorem Agr.trans {n:Nat} {a b c:Nat→Int} (h:Agr n a b) (k:Agr n b c):Agr n a c:=fun i hi=>(h i hi).trans (k i hi)
theorem Agb.less {m n:Nat} {σ' σ:Nat→Nat} (h:Agb n σ' σ) (hm:m≤n):Agb m σ' σ:=fun i hi=>h i (by omega)
theorem Agb.trans {n:Nat} {a b c:Nat→Nat} (h:Agb n a b) (k:Agb n b c):Agb n a c:=fun i hi=>(h i hi).trans (k i hi)
theorem fresh_sm (s:AS) (r:List (Lin→Lin)):(s.fresh r).2.tm=s.tm∧(s.fresh r).2.bx=s.bx∧(s.fresh r).2.n=s.n+1∧(s.fresh r).1=var s.n:=by
 unfold AS.fresh
 have:=facts_sm (r.map fun f=>f (var s.n)) ({ s with n:=s.n+1 }:AS)
 exact ⟨this.tm,this.bx,this.n,rfl⟩
theorem fresh_stt (h:Stt C w0 R0 σ bp R s a w) (z:Int) (r:List (Lin→Lin)) (hr:∀ σ' bp',Agr (s.n+1) σ' (upd σ s.n z)→Agb s.bx.length bp' bp→∀ f∈r,0≤(f (var s.n)).ev σ'):Stt C w0 R0 (upd σ s.n z) bp R (s.fresh r).2 a w:=by
 obtain ⟨h1,h2,h3,_⟩:=fresh_sm s r
 refine ⟨fun σ' bp' ha hb=>?_, ?_⟩
 ·rw [h3] at ha
  rw [h2] at hb
  have k:=h.st σ' bp' (((show Agr (s.n+1) σ' _ from ha).less (Nat.le_succ _)).trans (upd_agr σ s.n z)) hb
  refine ⟨by rw [h1];exact k.tm,by rw [h2];exact k.bx, ?_⟩
  unfold AS.fresh
  refine Fs.facts ⟨k.fs.fa,k.fs.lt,k.fs.cf⟩ fun f hf=>?_
  obtain ⟨g,hg,rfl⟩:=List.mem_map.1 hf
  exact hr σ' bp' ha hb g hg
 ·have k:=h.sw
  exact ⟨k.hp,k.gw,fun i hi=>k.own i (by rw [←h2];exact hi),fun i j hi hj=>k.inj i j (by rw [←h2];exact hi) (by rw [←h2];exact hj),k.df,k.r0⟩
theorem ev_new {σ':Nat→Int} {z:Int} {n:Nat} (h:Agr (n+1) σ' (upd σ n z)):(var n).ev σ'=z:=by rw [ev_var,h n (Nat.lt_succ_self _),upd_at]
theorem freshC_stt (h:Stt C w0 R0 σ bp R s a w) {c:Ck} {v:Value} (hv:CkOk C R w c v) (hk:Ckwf c) :
  ∃ σ1,Agr s.n σ1 σ∧s.n≤(s.freshC c).2.n∧(s.freshC c).2.tm=s.tm∧(s.freshC c).2.bx=s.bx∧Stt C w0 R0 σ1 bp R (s.freshC c).2 a w∧∀ σ' bp',Agr (s.freshC c).2.n σ' σ1→AtOk C σ' bp' R w (s.freshC c).1 v:=by
 cases c with
 | int k lo hi =>
  obtain ⟨z,rfl,h1,h2⟩:=hv
  obtain ⟨e1,e2,e3,e4⟩:=fresh_sm s (bif isZ (lo - i64lo) then [] else [ge lo,le hi])
  refine ⟨upd σ s.n z,upd_agr _ _ _,by simp only [AS.freshC];rw [e3];omega,e1,e2, ?_, ?_⟩
  ·refine fresh_stt h z _ fun σ' bp' ha hb f hf=>?_
   cases hz:isZ (lo - i64lo) <;> rw [hz] at hf
   ·simp only [cond_false,List.mem_cons,List.not_mem_nil,or_false] at hf
    rcases hf with rfl | rfl
    ·rw [ev_ge,ev_new ha];omega
    ·rw [ev_le,ev_new ha];omega
   ·simp at hf
  ·intro σ' bp' ha
   simp only [AS.freshC] at ha ⊢
   rw [e3] at ha
   rw [e4]
   refine ⟨by rw [ev_new ha], ?_, ?_⟩ <;> rw [ev_new ha] <;> simp only [Ckwf] at hk <;> omega
 | bool =>
  obtain ⟨b,rfl⟩:=hv
  obtain ⟨e1,e2,e3,e4⟩:=fresh_sm s [ge 0,le 1]
  refine ⟨upd σ s.n (if b then 1 else 0),upd_agr _ _ _,by simp only [AS.freshC];rw [e3];omega,e1,e2, ?_, ?_⟩
  ·refine fresh_stt h _ _ fun σ' bp' ha hb f hf=>?_
   simp only [List.mem_cons,List.not_mem_nil,or_false] at hf
   rcases hf with rfl | rfl
   ·rw [ev_ge,ev_new ha];cases b <;> simp
   ·rw [ev_le,ev_new ha];cases b <;> simp
  ·intro σ' bp' ha
   simp only [AS.freshC] at ha ⊢
   rw [e3] at ha
   rw [e4]
   show Value.bool b = .bool _
   simp only [BE.ev,ev_plus,ev_new ha]
   cases b <;> simp
 | str =>
  obtain ⟨t,rfl,h1⟩:=hv
  obtain ⟨e1,e2,e3,e4⟩:=fresh_sm s [ge 0,le LIM]
  refine ⟨upd σ s.n t.size,upd_agr _ _ _,by simp only [AS.freshC];rw [e3];omega,e1,e2, ?_, ?_⟩
  ·refine fresh_stt h _ _ fun σ' bp' ha hb f hf=>?_
   simp only [List.mem_cons,List.not_mem_nil,or_false] at hf
   rcases hf with rfl | rfl
   ·rw [ev_ge,ev_new ha];omega
   ·rw [ev_le,ev_new ha];omega
  ·intro σ' bp' ha
   simp only [AS.freshC] at ha ⊢
   rw [e3] at ha
   rw [e4]
   exact ⟨t,rfl,by rw [ev_new ha],h1⟩
 | sl T =>
  obtain ⟨z,hz⟩:=hv
  obtain ⟨e1,e2,e3,e4⟩:=fresh_sm s [ge 0,le LIM]
  have hr:0≤z∧z≤LIM:=by
   obtain ⟨_,m,_,_,h2,h3,_⟩:=hz
   omega
  refine ⟨upd σ s.n z,upd_agr _ _ _,by simp only [AS.freshC];rw [e3];omega,e1,e2, ?_, ?_⟩
  ·refine fresh_stt h _ _ fun σ' bp' ha hb f hf=>?_
   simp only [List.mem_cons,List.not_mem_nil,or_false] at hf
   rcases hf with rfl | rfl
   ·rw [ev_ge,ev_new ha];omega
   ·rw [ev_le,ev_new ha];omega
  ·intro σ' bp' ha
   simp only [AS.freshC] at ha ⊢
   rw [e3] at ha
   rw [e4]
   show SlOk C R w T v _
   rw [ev_new ha]
   exact hz
 | cur=>exact ⟨σ,agr_refl _ _,Nat.le_refl _,rfl,rfl,h,fun _ _ _=>hv⟩
-- operands
variable {W:List (BE×Bool)}
theorem eval_tmp {t:Nat} {v:Value} (h:a.tmps.toList[t]?=some v):a.eval (.tmp t)=v:=by
 simp only [Act.eval]
 rw [Array.getD_eq_getD_getElem?]
 rw [Array.getElem?_toList] at h
 rw [h]
 rfl
theorem evO_sound (h:St C w0 σ bp R s a w) (hW:∀ x∈W,x.1.ev σ=x.2) {x:Operand} {v:AV} (he:evO W s x=some v):AVOk C σ bp R w v (a.eval x):=by
 unfold evO at he
 split at he
 ·rename_i t
  cases hn:nth s.tm t with
  | none=>rw [hn] at he;cases he
  | some y =>
   obtain ⟨u,e1,e2⟩:=h.tm.nth hn
   rw [eval_tmp e1]
   rw [hn] at he
   cases y with
   | v b=>simp only at he;cases he;exact e2
   | gu g b =>
    simp only at he
    cases hi:impl W g true <;> rw [hi] at he
    ·cases he;exact e2
    ·cases he
     exact e2.1 (impl_sound σ hW g true hi)
 ·rename_i k n
  cases hc:nn (n - (nat8 k).1) && nn ((nat8 k).2 - n) <;> rw [hc] at he
  ·cases he
  ·cases he
   rw [Bool.and_eq_true] at hc
   have h1:=(nn_iff _).1 hc.1
   have h2:=(nn_iff _).1 hc.2
   exact ⟨by rw [ev_cst];rfl,by rw [ev_cst];omega,by rw [ev_cst];omega⟩
 ·rename_i b
  cases he
  show a.eval _ = .bool _
  cases b <;> rfl
 ·cases he;rfl
 ·rename_i t
  cases hc:nn (LIM - (t.size:Int)) <;> rw [hc] at he
  ·cases he
  ·cases he
   have h1:=(nn_iff _).1 hc
   exact ⟨t,rfl,by rw [ev_cst],by omega⟩
 ·cases he
theorem ev1_sound (h:St C w0 σ bp R s a w) (hW:∀ x∈W,x.1.ev σ=x.2) {x:Operand} {v:At} (he:ev1 W s x=some v):AtOk C σ bp R w v (a.eval x):=by
 unfold ev1 at he
 split at he
 ·rename_i y hy
  cases he
  exact evO_sound h hW hy
 ·cases he
theorem evN_sound (h:St C w0 σ bp R s a w) (hW:∀ x∈W,x.1.ev σ=x.2) {x:Operand} {k:IntKind} {e:Lin} (he:evN W s x=some (k,e)):a.eval x = .int k (e.ev σ)∧(nat8 k).1≤e.ev σ∧e.ev σ≤(nat8 k).2:=by
 unfold evN at he
 split at he
 ·rename_i j f hy
  cases he
  exact ev1_sound h hW hy
 ·cases he
theorem evB_sound (h:St C w0 σ bp R s a w) (hW:∀ x∈W,x.1.ev σ=x.2) {x:Operand} {b:BE} (he:evB W s x=some b):a.eval x = .bool (b.ev σ):=by
 unfold evB at he
 split at he
 ·rename_i f hy
  cases he
  exact ev1_sound h hW hy
 ·cases he
theorem evC_sound (h:St C w0 σ bp R s a w) (hW:∀ x∈W,x.1.ev σ=x.2) {x:Operand} {l:List At} (he:evC W s x=some l):LsOk C σ bp R w l (a.eval x).cells.toList∨∃ y,l=[y]∧AtOk C σ bp R w y (a.eval x):=by
 unfold evC at he
 split at he
 ·rename_i y hy
  cases he
  exact .inr ⟨y,rfl,evO_sound h hW hy⟩
 ·rename_i l hy
  cases he
  obtain ⟨arr,e1,e2⟩:=evO_sound h hW hy
  exact .inl (by rw [e1];exact e2)
 ·cases he
end
end Go.Proofs.YtikelfmmldafpaaGreat.Ai
