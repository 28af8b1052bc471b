/- What the interpreter's states say of a frame and a world: rows are typed by their elements' types, boxes hold what the state says; how worlds may turn. -/
import Derived.Test.YtckfjploafhenaaGreatPk1
import Derived.Laws.CopyRow
import Derived.Lib.FrozenHead
import Derived.Deep.MidRow
import Derived.Deep.AppendSrc
set_option maxRecDepth 100000
set_option maxHeartbeats 16000000
set_option linter.unusedVariables false
set_option linter.unusedSimpArgs false
namespace Go.Proofs.YtckfjploafhenaaGreat.Ai
open Go.RowKit
structure Cx where
 P:Program
 tb:List (Nat×Ty)
 B:Nat
 pc:Nat
 Cur:World->Prop
def zeroV:Ck->Value
 | .int k _ _ => .int k 0
 | .bool => .bool false
 | .str => .string .empty
 | .sl _ => .slice none 0 0
 | .cur => .pointer none
def Ckwf:Ck->Prop
 | .int k lo hi=>(nat8 k).1<=lo/\hi<=(nat8 k).2
 | _=>True
structure TyOk (P:Program) (t:Nat) (T:Ty):Prop where
 size:(P.info? t).map (·.size)=some T.cells.length
 zero:∃ z,(P.info? t).bind (·.zero)=some z/\z.cells=(T.cells.map zeroV).toArray
 st:T.agg=true->∃ fs,P.underlying t=some (.struct fs)/\∀ f o,nth T.flds f=some o->∃ fd,fs[f]?=some fd/\fd.offset=o.1/\(P.info? fd.type).map (·.size)=some o.2/\o.2≠0/\o.1+o.2<=T.cells.length
 pl:T.agg=false->∃ c d,T.cells=[c]/\P.underlying t=some d/\d.isRow=false/\match c with
  | .int k _ _=>d = .int k
  | .bool=>d = .bool
  | .str=>d = .string
  | .sl e=>d = .slice e/\T.el=e
  | .cur=>True
 pls:T.agg=true->∃ fs,P.underlying t=some (.struct fs)/\∀ w,(fs.mapM fun (f:Field)=>(do pure (f.offset,<-sizeOf f.type):Sem (Nat×Nat))).run P w = .ok T.flds.toArray w
 bytes:∀ i,P.info? t=some i->i.bytes<=65536
 fl:T.agg=false->T.flds=[]
 rk:T.rk.length=T.cells.length/\0 < T.cells.length
 wf:∀ c∈T.rk,Ckwf c
 zr:∀ c∈T.cells,∀ k lo hi,c = .int k lo hi->(nat8 k).1<=0/\0<=(nat8 k).2
variable (C:Cx)
def sz (T:Nat):Nat:=match look T C.tb with
 | some t=>t.rk.length
 | none=>0
def rks (T:Nat):List Ck:=match look T C.tb with
 | some t=>t.rk
 | none=>[]
def RowAt (R:Nat->Prop) (w:World) (T g n:Nat):Prop:=R g/\∃ cs fz,w.heap[g]?=some (.cells cs T fz)/\n<=cs.size
def SlOk (R:Nat->Prop) (w:World) (T:Nat) (v:Value) (n:Int):Prop :=
 ∃ a m c,v = .slice a m c/\n=(m:Int)/\(m:Int)<=LIM/\m<=c/\((a=none/\c=0)\/∃ g k,a=some ⟨g,k * sz C T,none⟩/\RowAt R w T g ((k+c) * sz C T))
def CkOk (R:Nat->Prop) (w:World):Ck->Value->Prop
 | .int k lo hi,v=>∃ n,v = .int k n/\lo<=n/\n<=hi
 | .bool,v=>∃ b,v = .bool b
 | .str,v=>∃ s,v = .string s/\(s.size:Int)<=LIM
 | .sl T,v=>∃ n,SlOk C R w T v n
 | .cur,v=>v = .pointer (some ⟨C.pc,0,none⟩)
def RowOk (R:Nat->Prop) (w:World) (g:Nat):Prop :=
 C.B<=g/\g≠C.pc/\∃ cs T fz,w.heap[g]?=some (.cells cs T fz)/\0 < sz C T/\(fz=(0,0)\/cs.size<=fz.1)/\(∃ k,k<=9223372036854775807/\cs.size=k * sz C T) /\
  ∀ j v,cs[j]?=some v->∃ c,nth (rks C T) (j % sz C T)=some c/\CkOk C R w c v
structure Hp (R:Nat->Prop) (w:World):Prop where
 rows:∀ g,R g->RowOk C R w g
 cur:C.Cur w
 pc:C.pc < w.heap.size
 B:C.B<=w.heap.size
structure Gw (R R':Nat->Prop) (w w':World):Prop where
 os:w'.os=w.os
 tape:w'.tape=w.tape
 output:w'.output=w.output
 size:w.heap.size<=w'.heap.size
 rows:∀ g,g < w.heap.size->(R' g↔R g)
 keep:∀ g,g < w.heap.size->¬ R g->g≠C.pc->w'.heap[g]?=w.heap[g]?
 row:∀ g,R g->∀ cs T fz,w.heap[g]?=some (.cells cs T fz)->∃ cs' fz',w'.heap[g]?=some (.cells cs' T fz')/\cs'.size=cs.size
variable {C}
theorem Gw.refl (R:Nat->Prop) (w:World):Gw C R R w w:=⟨rfl,rfl,rfl,Nat.le_refl _,fun _ _=>Iff.rfl,fun _ _ _ _=>rfl,fun _ _ cs _ fz h=>⟨cs,fz,h,rfl⟩⟩
theorem zcj {w:World} {g:Nat} {o:Obj} (h:w.heap[g]?=some o):g < w.heap.size:=(Array.getElem?_eq_some_iff.1 h).1
theorem Hp.lt {R:Nat->Prop} {w:World} (h:Hp C R w) {g:Nat} (hg:R g):g < w.heap.size:=by
 obtain ⟨_,_,cs,T,fz,e,_⟩:=h.rows g hg;exact zcj e
theorem Gw.trans {R R' R'':Nat->Prop} {a b c:World} (hR:∀ g,R g->g < a.heap.size) (h:Gw C R R' a b) (k:Gw C R' R'' b c):Gw C R R'' a c:=by
 refine ⟨k.os.trans h.os,k.tape.trans h.tape,k.output.trans h.output,Nat.le_trans h.size k.size,fun g hg=>(k.rows g (Nat.lt_of_lt_of_le hg h.size)).trans (h.rows g hg),fun g hg hn hp=>?_,fun g hg cs T fz he=>?_⟩
 ·rw [k.keep g (Nat.lt_of_lt_of_le hg h.size) (fun hr=>hn ((h.rows g hg).1 hr)) hp,h.keep g hg hn hp]
 ·obtain ⟨cs',fz',e1,s1⟩:=h.row g hg cs T fz he;obtain ⟨cs2,fz2,e2,s2⟩:=k.row g ((h.rows g (hR g hg)).2 hg) cs' T fz' e1;exact ⟨cs2,fz2,e2,s2.trans s1⟩
structure Gr (R R':Nat->Prop) (w w':World):Prop where
 sub:∀ g,R g->R' g
 row:∀ g,R g->∀ cs T fz,w.heap[g]?=some (.cells cs T fz)->∃ cs' fz',w'.heap[g]?=some (.cells cs' T fz')/\cs'.size=cs.size
theorem Gw.gr {R R':Nat->Prop} {w w':World} (hR:∀ g,R g->g < w.heap.size) (h:Gw C R R' w w'):Gr R R' w w':=⟨fun g hg=>(h.rows g (hR g hg)).2 hg,h.row⟩
theorem RowAt.gr {R R':Nat->Prop} {w w':World} {T g n:Nat} (h:RowAt R w T g n) (k:Gr R R' w w'):RowAt R' w' T g n:=by
 obtain ⟨h1,cs,fz,h2,h3⟩:=h;obtain ⟨cs',fz',e,s⟩:=k.row g h1 cs T fz h2;exact ⟨k.sub g h1,cs',fz',e,by omega⟩
theorem SlOk.gr {R R':Nat->Prop} {w w':World} {T:Nat} {v:Value} {n:Int} (h:SlOk C R w T v n) (k:Gr R R' w w'):SlOk C R' w' T v n:=by
 obtain ⟨a,m,c,h1,h2,h3,h4,h5⟩:=h;refine ⟨a,m,c,h1,h2,h3,h4, ?_⟩;rcases h5 with h5 | ⟨g,j,e,hr⟩
 ·exact .inl h5
 ·exact .inr ⟨g,j,e,hr.gr k⟩
theorem CkOk.gr {R R':Nat->Prop} {w w':World} {c:Ck} {v:Value} (h:CkOk C R w c v) (k:Gr R R' w w'):CkOk C R' w' c v:=by
 cases c with
 | sl T=>obtain ⟨n,hn⟩:=h;exact ⟨n,hn.gr k⟩
 | _=>exact h
-- abstract values
section
variable (C) (σ:Nat->Int) (bp:Nat->Nat) (R:Nat->Prop) (w:World)
def AtOk:At->Value->Prop
 | .un,v=>v=undef
 | .unk,_=>True
 | .num k e,v=>v = .int k (e.ev σ)/\(nat8 k).1<=e.ev σ/\e.ev σ<=(nat8 k).2
 | .be b,v=>v = .bool (b.ev σ)
 | .str e,v=>∃ s,v = .string s/\(s.size:Int)=e.ev σ/\(s.size:Int)<=LIM
 | .sl T e,v=>SlOk C R w T v (e.ev σ)
 | .nil,v=>v = .slice none 0 0
 | .ptr b o,v=>v = .pointer (some ⟨bp b,o,none⟩)
 | .row T o,v=>∃ g k,v = .pointer (some ⟨g,k * sz C T+o,none⟩)/\RowAt R w T g ((k+1) * sz C T)
 | .cur,v=>v = .pointer (some ⟨C.pc,0,none⟩)
def LsOk:List At->List Value->Prop
 | [],[]=>True
 | x::l,v::r=>AtOk C σ bp R w x v/\LsOk l r
 | _,_=>False
def TpOk:List (Bool×List At)->List Value->Prop
 | [],[]=>True
 | (true,l)::r,v::vs=>(∃ a,v = .agg a/\LsOk C σ bp R w l a.toList)/\TpOk r vs
 | (false,l)::r,v::vs=>LsOk C σ bp R w l [v]/\TpOk r vs
 | _,_=>False
def BvOk:Bv->Value->Prop
 | .one x,v=>AtOk C σ bp R w x v
 | .agg l,v=>∃ a,v = .agg a/\LsOk C σ bp R w l a.toList
 | .tup l,v=>∃ a,v = .tuple a/\TpOk C σ bp R w l a.toList
def AVOk:AV->Value->Prop
 | .v b,v=>BvOk C σ bp R w b v
 | .gu g b,v=>(g.ev σ=true->BvOk C σ bp R w b v)/\(g.ev σ=false->v=undef)
def TmOk:List AV->List Value->Prop
 | [],[]=>True
 | x::l,v::r=>AVOk C σ bp R w x v/\TmOk l r
 | _,_=>False
def BxOk:Nat->List (Nat×List At)->Prop
 | _,[]=>True
 | i,c::r=>(∃ arr,w.heap[bp i]?=some (.cells arr c.1 (0,0))/\LsOk C σ bp R w c.2 arr.toList)/\BxOk (i+1) r
end
structure St (C:Cx) (w0:World) (σ:Nat->Int) (bp:Nat->Nat) (R:Nat->Prop) (s:AS) (a:Act) (w:World):Prop where
 tm:TmOk C σ bp R w s.tm a.tmps.toList
 bx:BxOk C σ bp R w 0 s.bx
 fs:Fs σ s
structure Sw (C:Cx) (w0:World) (R0:Nat->Prop) (bp:Nat->Nat) (R:Nat->Prop) (s:AS) (a:Act) (w:World):Prop where
 hp:Hp C R w
 gw:Gw C R0 R w0 w
 own:∀ i,i < s.bx.length->w0.heap.size<=bp i/\¬ R (bp i)/\bp i≠C.pc
 inj:∀ i j,i < s.bx.length->j < s.bx.length->bp i=bp j->i=j
 df:a.defers=[]
 r0:∀ q,R0 q->q < w0.heap.size
structure Stt (C:Cx) (w0:World) (R0:Nat->Prop) (σ:Nat->Int) (bp:Nat->Nat) (R:Nat->Prop) (s:AS) (a:Act) (w:World):Prop where
 st:∀ σ' bp',(∀ i,i < s.n->σ' i=σ i)->(∀ i,i < s.bx.length->bp' i=bp i)->St C w0 σ' bp' R s a w
 sw:Sw C w0 R0 bp R s a w
section
variable {σ:Nat->Int} {bp bp':Nat->Nat} {R R':Nat->Prop} {w w':World}
theorem AtOk.gr {x:At} {v:Value} (h:AtOk C σ bp R w x v) (k:Gr R R' w w') (hb:∀ b o,x = .ptr b o->bp' b=bp b):AtOk C σ bp' R' w' x v:=by
 cases x with
 | sl T e=>exact SlOk.gr h k
 | row T o=>obtain ⟨g,j,h1,h2⟩:=h;exact ⟨g,j,h1,h2.gr k⟩
 | ptr b o =>
  show v = .pointer (some ⟨bp' b,o,none⟩);rw [hb b o rfl];exact h
 | _=>exact h
theorem LsOk.gr:∀ {l:List At} {vs:List Value},LsOk C σ bp R w l vs->Gr R R' w w'->(∀ b,bp' b=bp b)->LsOk C σ bp' R' w' l vs
 | [],[],_,_,_=>trivial
 | [],_::_,h,_,_=>h.elim
 | _::_,[],h,_,_=>h.elim
 | x::l,v::r,h,k,hb=>⟨h.1.gr k fun b o _=>hb b,LsOk.gr h.2 k hb⟩
theorem TpOk.gr:∀ {l:List (Bool×List At)} {vs:List Value},TpOk C σ bp R w l vs->Gr R R' w w'->(∀ b,bp' b=bp b)->TpOk C σ bp' R' w' l vs
 | [],[],_,_,_=>trivial
 | [],_::_,h,_,_=>h.elim
 | (true,_)::_,[],h,_,_=>h.elim
 | (false,_)::_,[],h,_,_=>h.elim
 | (true,l)::r,v::vs,⟨⟨a,e,h⟩,h2⟩,k,hb=>⟨⟨a,e,h.gr k hb⟩,TpOk.gr h2 k hb⟩
 | (false,l)::r,v::vs,⟨h,h2⟩,k,hb=>⟨h.gr k hb,TpOk.gr h2 k hb⟩
theorem BvOk.gr {b:Bv} {v:Value} (h:BvOk C σ bp R w b v) (k:Gr R R' w w') (hb:∀ b,bp' b=bp b):BvOk C σ bp' R' w' b v:=by
 cases b with
 | one x=>exact AtOk.gr h k fun b o _=>hb b
 | agg l=>obtain ⟨a,e,h⟩:=h;exact ⟨a,e,h.gr k hb⟩
 | tup l=>obtain ⟨a,e,h⟩:=h;exact ⟨a,e,h.gr k hb⟩
theorem AVOk.gr {x:AV} {v:Value} (h:AVOk C σ bp R w x v) (k:Gr R R' w w') (hb:∀ b,bp' b=bp b):AVOk C σ bp' R' w' x v:=by
 cases x with
 | v b=>exact BvOk.gr h k hb
 | gu g b=>exact ⟨fun hg=>(h.1 hg).gr k hb,h.2⟩
theorem TmOk.gr:∀ {l:List AV} {vs:List Value},TmOk C σ bp R w l vs->Gr R R' w w'->(∀ b,bp' b=bp b)->TmOk C σ bp' R' w' l vs
 | [],[],_,_,_=>trivial
 | [],_::_,h,_,_=>h.elim
 | _::_,[],h,_,_=>h.elim
 | x::l,v::r,h,k,hb=>⟨h.1.gr k hb,TmOk.gr h.2 k hb⟩
theorem TmOk.nth:∀ {l:List AV} {vs:List Value},TmOk C σ bp R w l vs->∀ {i:Nat} {x:AV},Ai.nth l i=some x->∃ v,vs[i]?=some v/\AVOk C σ bp R w x v
 | [],[],_,i,x,hx=>by cases hx
 | [],_::_,h,_,_,_=>h.elim
 | _::_,[],h,_,_,_=>h.elim
 | y::l,v::r,h,0,x,hx=>by cases hx;exact ⟨v,rfl,h.1⟩
 | y::l,v::r,h,i+1,x,hx=>by
  obtain ⟨u,e,k⟩:=TmOk.nth h.2 (i:=i) hx;exact ⟨u,by simpa using e,k⟩
theorem TmOk.set:∀ {l:List AV} {vs:List Value},TmOk C σ bp R w l vs->∀ (i:Nat) {x:AV} {v:Value},AVOk C σ bp R w x v->TmOk C σ bp R w (setN l i x) (vs.set i v)
 | [],[],_,i,x,v,_=>trivial
 | [],_::_,h,_,_,_,_=>h.elim
 | _::_,[],h,_,_,_,_=>h.elim
 | y::l,u::r,h,0,x,v,k=>⟨k,h.2⟩
 | y::l,u::r,h,i+1,x,v,k=>⟨h.1,TmOk.set h.2 i k⟩
theorem BxOk.nth:∀ {l:List (Nat×List At)} {j:Nat},BxOk C σ bp R w j l->∀ {i:Nat} {c:Nat×List At},Ai.nth l i=some c->∃ arr,w.heap[bp (j+i)]?=some (.cells arr c.1 (0,0))/\LsOk C σ bp R w c.2 arr.toList
 | [],j,_,i,c,hx=>by cases hx
 | d::l,j,h,0,c,hx=>by cases hx;exact h.1
 | d::l,j,h,i+1,c,hx=>by
  have:=BxOk.nth h.2 (i:=i) hx
  rwa [show j+1+i=j+(i+1) by omega] at this
theorem nth_lt {α:Type}:∀ {l:List α} {i:Nat} {x:α},Ai.nth l i=some x->i < l.length
 | [],i,x,h=>by cases h
 | y::l,0,x,h=>by simp
 | y::l,i+1,x,h=>by have:=nth_lt (l:=l) (i:=i) h;simp;omega
theorem zbv {α:Type}:∀ (l:List α) (i:Nat),Ai.nth l i=l[i]?
 | [],i=>by simp [Ai.nth]
 | y::l,0=>by simp [Ai.nth]
 | y::l,i+1=>by simp [Ai.nth,zbv l i]
theorem BxOk.gr:∀ {l:List (Nat×List At)} {j:Nat},BxOk C σ bp R w j l->Gr R R' w w'->(∀ b,bp' b=bp b)->(∀ i,j<=i->i < j+l.length->w'.heap[bp i]?=w.heap[bp i]?)->BxOk C σ bp' R' w' j l
 | [],j,_,_,_,_=>trivial
 | c::l,j,⟨⟨arr,e,h⟩,h2⟩,k,hb,hs=>⟨⟨arr,by rw [hb,hs j (Nat.le_refl _) (by simp)];exact e,h.gr k hb⟩,BxOk.gr h2 k hb fun i h1 h3=>hs i (by omega) (by simp at h3 ⊢;omega)⟩
end
end Go.Proofs.YtckfjploafhenaaGreat.Ai
namespace Go.Proofs.YtckfjploafhenaaGreat.Ai
open Go.RowKit
def Does (P:Program) (r:Result Next) (K:Value->World->Prop):Prop:=match r with
 | .ok (.value v) w'=>K v w'
 | .ok .skip w'=>K undef w'
 | .ok (.enter f args) w'=>Calls P f args w' fun e w''=>∃ v,e = .returned v/\K v w''
 | _=>False
theorem Does.wp {P:Program} {o:Oper} {a:Act} {w:World} {K:Value->World->Prop} (h:Does P ((execOp a.eval o).run P w) K) (next:Act->World->Prop) (Q:Exit->Act->World->Prop) (hk:∀ v w',K v w'->next (a.put o.dst v) w'):o.wp P a w next Q:=by
 unfold Oper.wp;generalize (execOp a.eval o).run P w=r at h;cases r with
 | halt x w'=>exact h.elim
 | ok n w' =>
  cases n <;> simp only [Does] at h <;> first
   | exact hk _ _ h
   | (simp only [Oper.upon]
      refine Calls.mono h fun e w'' he=>?_
      obtain ⟨v,rfl,hv⟩:=he
      exact hk _ _ hv)
   | exact h.elim
def Agr (n:Nat) (σ' σ:Nat->Int):Prop:=∀ i,i < n->σ' i=σ i
def Agb (n:Nat) (b' b:Nat->Nat):Prop:=∀ i,i < n->b' i=b i
structure Fr (C:Cx) (R R':Nat->Prop) (bp:Nat->Nat) (tg:Option Nat) (w w':World):Prop where
 size:w.heap.size<=w'.heap.size
 gr:Gr R R' w w'
 rows:∀ g,g < w.heap.size->(R' g↔R g)
 keep:∀ g,g < w.heap.size->¬ R g->g≠C.pc->(∀ b,tg=some b->g≠bp b)->w'.heap[g]?=w.heap[g]?
theorem Fr.refl {C:Cx} {R:Nat->Prop} {bp:Nat->Nat} {tg:Option Nat} {w:World}:Fr C R R bp tg w w:=⟨Nat.le_refl _,⟨fun _ h=>h,fun _ _ cs _ fz e=>⟨cs,fz,e,rfl⟩⟩,fun _ _=>Iff.rfl,fun _ _ _ _ _=>rfl⟩
theorem Fr.of_gw {C:Cx} {R R':Nat->Prop} {bp:Nat->Nat} {tg:Option Nat} {w w':World} (g:Gw C R R' w w') (h:∀ g,R g->g < w.heap.size):Fr C R R' bp tg w w':=⟨g.size,g.gr h,g.rows,fun q h1 h2 h3 _=>g.keep q h1 h2 h3⟩
structure Out (C:Cx) (w0:World) (R0 R:Nat->Prop) (w:World) (tg:Option Nat) (σ:Nat->Int) (bp:Nat->Nat) (s s':AS) (a:Act) (ov:Option AV) (v:Value) (w':World) (σ1:Nat->Int) (bp1:Nat->Nat) (R1:Nat->Prop):Prop where
 ag:Agr s.n σ1 σ
 le:s.n<=s'.n
 ab:Agb s.bx.length bp1 bp
 lb:s.bx.length<=s'.bx.length
 st:Stt C w0 R0 σ1 bp1 R1 s' a w'
 av:∀ x,ov=some x->∀ σ' bp',Agr s'.n σ' σ1->Agb s'.bx.length bp' bp1->AVOk C σ' bp' R1 w' x v
 fr:Fr C R R1 bp tg w w'
def Outs (C:Cx) (w0:World) (R0 R:Nat->Prop) (w:World) (tg:Option Nat) (σ:Nat->Int) (bp:Nat->Nat) (s s':AS) (a:Act) (ov:Option AV) (v:Value) (w':World):Prop:=∃ σ1 bp1 R1,Out C w0 R0 R w tg σ bp s s' a ov v w' σ1 bp1 R1
section
variable {C:Cx} {w0:World} {R0:Nat->Prop} {σ:Nat->Int} {bp:Nat->Nat} {R:Nat->Prop} {s s':AS} {a:Act} {w w':World} {tg:Option Nat}
theorem zaa (n:Nat) (σ:Nat->Int):Agr n σ σ:=fun _ _=>rfl
theorem zai (n:Nat) (b:Nat->Nat):Agb n b b:=fun _ _=>rfl
theorem Stt.here (h:Stt C w0 R0 σ bp R s a w):St C w0 σ bp R s a w:=h.st σ bp (fun _ _=>rfl) (fun _ _=>rfl)
theorem zbd (h:Stt C w0 R0 σ bp R s a w) {x:AV} {v:Value} (hv:∀ σ' bp',Agr s.n σ' σ->Agb s.bx.length bp' bp->AVOk C σ' bp' R w x v):Outs C w0 R0 R w tg σ bp s s a (some x) v w :=
 ⟨σ,bp,R,zaa _ _,Nat.le_refl _,zai _ _,Nat.le_refl _,h,fun y hy σ' bp' h1 h2=>by cases hy;exact hv σ' bp' h1 h2,Fr.refl⟩
theorem Stt.sm (h:Stt C w0 R0 σ bp R s a w) (hs:Sm s s') (hf:∀ σ' bp',Agr s.n σ' σ->Agb s.bx.length bp' bp->St C w0 σ' bp' R s a w->Fs σ' s'):Stt C w0 R0 σ bp R s' a w:=by
 refine ⟨fun σ' bp' h1 h2=>?_, ?_⟩
 ·rw [hs.n] at h1;rw [hs.bx] at h2;have k:=h.st σ' bp' h1 h2;exact ⟨by rw [hs.tm];exact k.tm,by rw [hs.bx];exact k.bx,hf σ' bp' h1 h2 k⟩
 ·have k:=h.sw;exact ⟨k.hp,k.gw,fun i hi=>k.own i (by rw [<-hs.bx];exact hi),fun i j hi hj=>k.inj i j (by rw [<-hs.bx];exact hi) (by rw [<-hs.bx];exact hj),k.df,k.r0⟩
def upd (σ:Nat->Int) (n:Nat) (z:Int):Nat->Int:=fun i=>if i=n then z else σ i
theorem zg6 (σ:Nat->Int) (n:Nat) (z:Int):Agr n (upd σ n z) σ:=fun i hi=>by unfold upd;rw [if_neg (by omega)]
theorem upd_at (σ:Nat->Int) (n:Nat) (z:Int):upd σ n z n=z:=by unfold upd;rw [if_pos rfl]
theorem Agr.less {m n:Nat} {σ' σ:Nat->Int} (h:Agr n σ' σ) (hm:m<=n):Agr m σ' σ:=fun i hi=>h i (by omega)
theorem Agr.trans {n:Nat} {a b c:Nat->Int} (h:Agr n a b) (k:Agr n b c):Agr n a c:=fun i hi=>(h i hi).trans (k i hi)
theorem Agb.less {m n:Nat} {σ' σ:Nat->Nat} (h:Agb n σ' σ) (hm:m<=n):Agb m σ' σ:=fun i hi=>h i (by omega)
theorem Agb.trans {n:Nat} {a b c:Nat->Nat} (h:Agb n a b) (k:Agb n b c):Agb n a c:=fun i hi=>(h i hi).trans (k i hi)
theorem zdn (s:AS) (r:List (Lin->Lin)):(s.fresh r).2.tm=s.tm/\(s.fresh r).2.bx=s.bx/\(s.fresh r).2.n=s.n+1/\(s.fresh r).1=var s.n:=by
 unfold AS.fresh
 have:=zgc (r.map fun f=>f (var s.n)) ({ s with n:=s.n+1 }:AS)
 exact ⟨this.tm,this.bx,this.n,rfl⟩
theorem zf7 (h:Stt C w0 R0 σ bp R s a w) (z:Int) (r:List (Lin->Lin)) (hr:∀ σ' bp',Agr (s.n+1) σ' (upd σ s.n z)->Agb s.bx.length bp' bp->∀ f∈r,0<=(f (var s.n)).ev σ'):Stt C w0 R0 (upd σ s.n z) bp R (s.fresh r).2 a w:=by
 obtain ⟨h1,h2,h3,_⟩:=zdn s r;refine ⟨fun σ' bp' ha hb=>?_, ?_⟩
 ·rw [h3] at ha;rw [h2] at hb;have k:=h.st σ' bp' (((show Agr (s.n+1) σ' _ from ha).less (Nat.le_succ _)).trans (zg6 σ s.n z)) hb
  refine ⟨by rw [h1];exact k.tm,by rw [h2];exact k.bx, ?_⟩
  unfold AS.fresh;refine Fs.facts ⟨k.fs.fa,k.fs.lt,k.fs.cf⟩ fun f hf=>?_
  obtain ⟨g,hg,rfl⟩:=List.mem_map.1 hf;exact hr σ' bp' ha hb g hg
 ·have k:=h.sw;exact ⟨k.hp,k.gw,fun i hi=>k.own i (by rw [<-h2];exact hi),fun i j hi hj=>k.inj i j (by rw [<-h2];exact hi) (by rw [<-h2];exact hj),k.df,k.r0⟩
theorem zc3 {σ':Nat->Int} {z:Int} {n:Nat} (h:Agr (n+1) σ' (upd σ n z)):(var n).ev σ'=z:=by rw [zes,h n (Nat.lt_succ_self _),upd_at]
theorem zcw (h:Stt C w0 R0 σ bp R s a w) {c:Ck} {v:Value} (hv:CkOk C R w c v) (hk:Ckwf c) :
  ∃ σ1,Agr s.n σ1 σ/\s.n<=(s.freshC c).2.n/\(s.freshC c).2.tm=s.tm/\(s.freshC c).2.bx=s.bx/\Stt C w0 R0 σ1 bp R (s.freshC c).2 a w/\∀ σ' bp',Agr (s.freshC c).2.n σ' σ1->AtOk C σ' bp' R w (s.freshC c).1 v:=by
 cases c with
 | int k lo hi =>
  obtain ⟨z,rfl,h1,h2⟩:=hv;obtain ⟨e1,e2,e3,e4⟩:=zdn s (bif isZ (lo - i64lo) then [] else [ge lo,le hi])
  refine ⟨upd σ s.n z,zg6 _ _ _,by simp only [AS.freshC];rw [e3];omega,e1,e2, ?_, ?_⟩
  ·refine zf7 h z _ fun σ' bp' ha hb f hf=>?_
   cases hz:isZ (lo - i64lo) <;> rw [hz] at hf
   ·simp only [cond_false,List.mem_cons,List.not_mem_nil,or_false] at hf;rcases hf with rfl | rfl
    ·rw [ev_ge,zc3 ha];omega
    ·rw [ev_le,zc3 ha];omega
   ·simp at hf
  ·intro σ' bp' ha;simp only [AS.freshC] at ha ⊢;rw [e3] at ha;rw [e4];refine ⟨by rw [zc3 ha], ?_, ?_⟩ <;> rw [zc3 ha] <;> simp only [Ckwf] at hk <;> omega
 | bool =>
  obtain ⟨b,rfl⟩:=hv;obtain ⟨e1,e2,e3,e4⟩:=zdn s [ge 0,le 1];refine ⟨upd σ s.n (if b then 1 else 0),zg6 _ _ _,by simp only [AS.freshC];rw [e3];omega,e1,e2, ?_, ?_⟩
  ·refine zf7 h _ _ fun σ' bp' ha hb f hf=>?_
   simp only [List.mem_cons,List.not_mem_nil,or_false] at hf;rcases hf with rfl | rfl
   ·rw [ev_ge,zc3 ha];cases b <;> simp
   ·rw [ev_le,zc3 ha];cases b <;> simp
  ·intro σ' bp' ha;simp only [AS.freshC] at ha ⊢;rw [e3] at ha;rw [e4];show Value.bool b = .bool _;simp only [BE.ev,zbf,zc3 ha];cases b <;> simp
 | str =>
  obtain ⟨t,rfl,h1⟩:=hv;obtain ⟨e1,e2,e3,e4⟩:=zdn s [ge 0,le LIM];refine ⟨upd σ s.n t.size,zg6 _ _ _,by simp only [AS.freshC];rw [e3];omega,e1,e2, ?_, ?_⟩
  ·refine zf7 h _ _ fun σ' bp' ha hb f hf=>?_
   simp only [List.mem_cons,List.not_mem_nil,or_false] at hf;rcases hf with rfl | rfl
   ·rw [ev_ge,zc3 ha];omega
   ·rw [ev_le,zc3 ha];omega
  ·intro σ' bp' ha;simp only [AS.freshC] at ha ⊢;rw [e3] at ha;rw [e4];exact ⟨t,rfl,by rw [zc3 ha],h1⟩
 | sl T =>
  obtain ⟨z,hz⟩:=hv;obtain ⟨e1,e2,e3,e4⟩:=zdn s [ge 0,le LIM]
  have hr:0<=z/\z<=LIM:=by
   obtain ⟨_,m,_,_,h2,h3,_⟩:=hz;omega
  refine ⟨upd σ s.n z,zg6 _ _ _,by simp only [AS.freshC];rw [e3];omega,e1,e2, ?_, ?_⟩
  ·refine zf7 h _ _ fun σ' bp' ha hb f hf=>?_
   simp only [List.mem_cons,List.not_mem_nil,or_false] at hf;rcases hf with rfl | rfl
   ·rw [ev_ge,zc3 ha];omega
   ·rw [ev_le,zc3 ha];omega
  ·intro σ' bp' ha;simp only [AS.freshC] at ha ⊢;rw [e3] at ha;rw [e4];show SlOk C R w T v _;rw [zc3 ha];exact hz
 | cur=>exact ⟨σ,zaa _ _,Nat.le_refl _,rfl,rfl,h,fun _ _ _=>hv⟩
-- operands
variable {W:List (BE×Bool)}
theorem eval_tmp {t:Nat} {v:Value} (h:a.tmps.toList[t]?=some v):a.eval (.tmp t)=v:=by
 simp only [Act.eval];rw [Array.getD_eq_getD_getElem?];rw [Array.getElem?_toList] at h;rw [h];rfl
theorem zbr (h:St C w0 σ bp R s a w) (hW:∀ x∈W,x.1.ev σ=x.2) {x:Operand} {v:AV} (he:evO W s x=some v):AVOk C σ bp R w v (a.eval x):=by
 unfold evO at he;split at he
 ·rename_i t;cases hn:nth s.tm t with
  | none=>rw [hn] at he;cases he
  | some y =>
   obtain ⟨u,e1,e2⟩:=h.tm.nth hn;rw [eval_tmp e1];rw [hn] at he;cases y with
   | v b=>simp only at he;cases he;exact e2
   | gu g b =>
    simp only at he;cases hi:impl W g true <;> rw [hi] at he
    ·cases he;exact e2
    ·cases he;exact e2.1 (impl_sound σ hW g true hi)
 ·rename_i k n;cases hc:nn (n - (nat8 k).1) && nn ((nat8 k).2 - n) <;> rw [hc] at he
  ·cases he
  ·cases he;rw [Bool.and_eq_true] at hc;have h1:=(zdv _).1 hc.1;have h2:=(zdv _).1 hc.2;exact ⟨by rw [zc4];rfl,by rw [zc4];omega,by rw [zc4];omega⟩
 ·rename_i b;cases he;show a.eval _ = .bool _;cases b <;> rfl
 ·cases he;rfl
 ·rename_i t;cases hc:nn (LIM - (t.size:Int)) <;> rw [hc] at he
  ·cases he
  ·cases he;have h1:=(zdv _).1 hc;exact ⟨t,rfl,by rw [zc4],by omega⟩
 ·cases he
theorem zau (h:St C w0 σ bp R s a w) (hW:∀ x∈W,x.1.ev σ=x.2) {x:Operand} {v:At} (he:ev1 W s x=some v):AtOk C σ bp R w v (a.eval x):=by
 unfold ev1 at he;split at he
 ·rename_i y hy;cases he;exact zbr h hW hy
 ·cases he
theorem evN_sound (h:St C w0 σ bp R s a w) (hW:∀ x∈W,x.1.ev σ=x.2) {x:Operand} {k:IntKind} {e:Lin} (he:evN W s x=some (k,e)):a.eval x = .int k (e.ev σ)/\(nat8 k).1<=e.ev σ/\e.ev σ<=(nat8 k).2:=by
 unfold evN at he;split at he
 ·rename_i j f hy;cases he;exact zau h hW hy
 ·cases he
theorem evB_sound (h:St C w0 σ bp R s a w) (hW:∀ x∈W,x.1.ev σ=x.2) {x:Operand} {b:BE} (he:evB W s x=some b):a.eval x = .bool (b.ev σ):=by
 unfold evB at he;split at he
 ·rename_i f hy;cases he;exact zau h hW hy
 ·cases he
theorem evC_sound (h:St C w0 σ bp R s a w) (hW:∀ x∈W,x.1.ev σ=x.2) {x:Operand} {l:List At} (he:evC W s x=some l):LsOk C σ bp R w l (a.eval x).cells.toList\/∃ y,l=[y]/\AtOk C σ bp R w y (a.eval x):=by
 unfold evC at he;split at he
 ·rename_i y hy;cases he;exact .inr ⟨y,rfl,zbr h hW hy⟩
 ·rename_i l hy;cases he;obtain ⟨arr,e1,e2⟩:=zbr h hW hy;exact .inl (by rw [e1];exact e2)
 ·cases he
end
end Go.Proofs.YtckfjploafhenaaGreat.Ai
namespace Go.Proofs.YtckfjploafhenaaGreat.Ai
open Go.RowKit
structure Good (C:Cx) (E:Env):Prop where
 tb:∀ t T,look t E.tb=some T->look t C.tb=some T
 cur:∀ w w':World,C.Cur w->w'.heap[C.pc]?=w.heap[C.pc]?->(∀ g,g < C.B->w'.heap[g]?=w.heap[g]?)->C.Cur w'
 ty:∀ t T,look t C.tb=some T->TyOk C.P t T
 eq:∀ t,mem t E.eq=true->∀ T,look t C.tb=some T->∀ (w:World) (l r:List Int),l.length=T.cells.length->r.length=T.cells.length->∀ (x y:Operand),∃ b:Bool,
  (eqGuard .eql t x y (.agg (l.map (Value.int .i64)).toArray) (.agg (r.map (Value.int .i64)).toArray)).run C.P w = .ok () w/\(eqGuard .neq t x y (.agg (l.map (Value.int .i64)).toArray) (.agg (r.map (Value.int .i64)).toArray)).run C.P w = .ok () w /\
  (Op.equal t (.agg (l.map (Value.int .i64)).toArray) (.agg (r.map (Value.int .i64)).toArray)).run C.P w = .ok b w
theorem Good.of {C:Cx} {E:Env} (h:Good C E) {t:Nat} {T:Ty} (e:look t E.tb=some T):TyOk C.P t T:=h.ty t T (h.tb t T e)
section
variable {P:Program} {w:World}
theorem run_info {t:TypeId} {i:TypeInfo} (h:P.info? t=some i):(typeInfo t).run P w = .ok i w:=by
 simp only [typeInfo,program,bind,Sem.bind,Sem.run,h,pure]
theorem zdb {t:TypeId} {n:Nat} (h:(P.info? t).map (·.size)=some n):(sizeOf t).run P w = .ok n w:=by
 cases hq:P.info? t with
 | none=>simp [hq] at h
 | some i =>
  have:i.size=n:=by simpa [hq] using h
  simp only [sizeOf,Sem.run_bind,run_info hq,Result.andThen_ok,Sem.run_pure,this]
theorem run_fieldAt {t f:Nat} {fs:Array Field} {fd:Field} {n:Nat} (hu:P.underlying t=some (.struct fs)) (hf:fs[f]?=some fd) (hs:(P.info? fd.type).map (·.size)=some n) (hn:n≠0) (g o:Nat) :
  (Instr.fieldAt t (.pointer (some ⟨g,o,none⟩)) f).run P w = .ok (.pointer (some ⟨g,o+fd.offset,none⟩)) w:=by
 have ha:(⟨g,o,none⟩:Addr).add fd.offset=⟨g,o+fd.offset,none⟩:=by unfold Addr.add;split <;> simp_all
 simp only [Instr.fieldAt,Sem.run_bind,run_underlying hu,Result.andThen_ok,hf,Instr.sureAddr,Sem.run_pure,fieldPlace,zdb hs,if_neg hn,ha]
end
section
variable {C:Cx} {E:Env} {w0:World} {R0:Nat->Prop} {σ:Nat->Int} {bp:Nat->Nat} {R:Nat->Prop} {s s':AS} {a:Act} {w:World} {W:List (BE×Bool)} {o:Oper} {ov:Option AV} {tg:Option Nat}
abbrev Lits (n:Nat) (σ:Nat->Int) (W:List (BE×Bool)):Prop:=∀ σ',Agr n σ' σ->∀ x∈W,x.1.ev σ'=x.2
theorem op_move (h:Stt C w0 R0 σ bp R s a w) (hW:Lits s.n σ W) {x:Operand} (hop:o.op = .move x) (hx:opx E W s o.op=some (ov,s')):Does C.P ((execOp a.eval o).run C.P w) (Outs C w0 R0 R w (tgt W s o.op) σ bp s s' a ov):=by
 rw [hop] at hx;simp only [opx,Option.map_eq_some_iff] at hx;obtain ⟨v,hv,e⟩:=hx;cases e;simp only [execOp,hop,Sem.run_pure,Does];exact zbd h fun σ' bp' h1 h2=>zbr (h.st σ' bp' h1 h2) (hW σ' h1) hv
theorem op_assign (h:Stt C w0 R0 σ bp R s a w) (hW:Lits s.n σ W) {x:Operand} (hop:o.op = .assign x) (hx:opx E W s o.op=some (ov,s')):Does C.P ((execOp a.eval o).run C.P w) (Outs C w0 R0 R w (tgt W s o.op) σ bp s s' a ov):=by
 rw [hop] at hx;simp only [opx,Option.map_eq_some_iff] at hx;obtain ⟨v,hv,e⟩:=hx;cases e;simp only [execOp,hop,Sem.run_pure,Does];exact zbd h fun σ' bp' h1 h2=>zbr (h.st σ' bp' h1 h2) (hW σ' h1) hv
theorem op_nilCheck (h:Stt C w0 R0 σ bp R s a w) (hW:Lits s.n σ W) {x:Operand} (hop:o.op = .nilCheck x) (hx:opx E W s o.op=some (ov,s')):Does C.P ((execOp a.eval o).run C.P w) (Outs C w0 R0 R w (tgt W s o.op) σ bp s s' a ov):=by
 rw [hop] at hx;simp only [opx] at hx
 have key:∀ (v:At),ev1 W s x=some v->(∃ p,a.eval x = .pointer (some p))->ov=some (one v)->s'=s->Does C.P ((execOp a.eval o).run C.P w) (Outs C w0 R0 R w (tgt W s o.op) σ bp s s' a ov):=by
  rintro v hv ⟨p,hp⟩ rfl rfl
  have:(execOp a.eval o).run C.P w = .ok (.value (a.eval x)) w:=by simp only [execOp,hop,hp,Sem.run_pure]
  rw [this];exact zbd h fun σ' bp' h1 h2=>zau (h.st σ' bp' h1 h2) (hW σ' h1) hv
 have h0:=h.here;have w0:=hW σ (zaa _ _);split at hx
 ·rename_i b p hv;cases hx
  have:=zau h0 w0 hv
  exact key _ hv ⟨_,this⟩ rfl rfl
 ·rename_i T p hv;cases hx;obtain ⟨g,k,e,_⟩:=zau h0 w0 hv;exact key _ hv ⟨_,e⟩ rfl rfl
 ·rename_i hv;cases hx
  have:=zau h0 w0 hv
  exact key _ hv ⟨_,this⟩ rfl rfl
 ·cases hx
theorem arm_sound (h:St C w0 σ bp R s a w) (hW:∀ x∈W,x.1.ev σ=x.2) {x:Operand} {v:AV} (hv:evO W s x=some v) {c:BE} {p:Bool} (hc:c.ev σ=p) {b:BE} (hb:arm W s v c p=some b):a.eval x = .bool (b.ev σ):=by
 have hx:=zbr h hW hv;unfold arm at hb;split at hb
 ·cases hb;exact hx
 ·exfalso;obtain ⟨t,ht,_⟩:=h.fs.assume hc;rw [ht] at hb;cases hb
 ·rename_i g b';cases hi:impl (W++litA c p) g true <;> rw [hi] at hb
  ·cases hb
  ·cases hb;refine hx.1 (impl_sound σ (fun y hy=>?_) g true hi)
   rcases List.mem_append.1 hy with hy | hy
   ·exact hW y hy
   ·exact zcz σ c p hc y hy
 ·cases hb
theorem op_pick (h:Stt C w0 R0 σ bp R s a w) (hW:Lits s.n σ W) {c x y:Operand} (hop:o.op = .pick c x y) (hx:opx E W s o.op=some (ov,s')):Does C.P ((execOp a.eval o).run C.P w) (Outs C w0 R0 R w (tgt W s o.op) σ bp s s' a ov):=by
 rw [hop] at hx;simp only [opx] at hx;split at hx
 ·rename_i cb u v hc hu hv;have ec:∀ σ' bp',Agr s.n σ' σ->Agb s.bx.length bp' bp->a.eval c = .bool (cb.ev σ'):=fun σ' bp' h1 h2=>evB_sound (h.st σ' bp' h1 h2) (hW σ' h1) hc
  have ec0:=ec σ bp (zaa _ _) (zai _ _);have run:(execOp a.eval o).run C.P w = .ok (.value (if cb.ev σ=true then a.eval x else a.eval y)) w:=by simp only [execOp,hop,asBool,ec0,Sem.run_bind,Sem.run_pure,Result.andThen_ok]
  rw [run];split at hx
  ·cases hx;exact zbd h fun σ' bp' h1 h2=>zbr (h.st σ' bp' h1 h2) (hW σ' h1) hu
  ·cases hx;exact zbd h fun σ' bp' h1 h2=>zbr (h.st σ' bp' h1 h2) (hW σ' h1) hv
  ·rename_i cb' _ _;split at hx
   ·rename_i p q hp hq;cases hx;refine zbd h fun σ' bp' h1 h2=>?_
    have e1:=ec σ' bp' h1 h2;rw [ec0] at e1;simp only [Value.bool.injEq] at e1;have a1:=fun (hc:cb.ev σ'=true)=>arm_sound (h.st σ' bp' h1 h2) (hW σ' h1) hu hc hp
    have a2:=fun (hc:cb.ev σ'=false)=>arm_sound (h.st σ' bp' h1 h2) (hW σ' h1) hv hc hq
    show _=Value.bool _
    have e2:∀ r:BE,(r.ev σ'=if cb.ev σ'=true then p.ev σ' else q.ev σ')->(if cb.ev σ=true then a.eval x else a.eval y)=Value.bool (r.ev σ'):=by
     intro r hr;rw [hr,e1];cases hcc:cb.ev σ'
     ·simp only [Bool.false_eq_true,if_false];exact a2 hcc
     ·simp only [if_true];exact a1 hcc
    apply e2;split
    ·rw [bor_ev];cases cb.ev σ' <;> simp [BE.ev]
    ·rw [band_ev];cases cb.ev σ' <;> simp [BE.ev]
    ·rw [bor_ev,band_ev,band_ev,bnot_ev];cases cb.ev σ' <;> simp
   ·cases hx
 ·cases hx
theorem ptr_lt (h:Stt C w0 R0 σ bp R s a w) (hW:Lits s.n σ W) {x:Operand} {b p:Nat} (hv:ev1 W s x=some (.ptr b p)):b < s.bx.length:=by
 by_cases hb:b < s.bx.length
 ·exact hb
 ·exfalso;have e1:a.eval x = .pointer (some ⟨bp b,p,none⟩):=zau h.here (hW σ (zaa _ _)) hv
  have e2:a.eval x = .pointer (some ⟨(fun i=>if i < s.bx.length then bp i else bp i+1) b,p,none⟩) :=
   zau (h.st σ (fun i=>if i < s.bx.length then bp i else bp i+1) (zaa _ _) (fun i hi=>if_pos hi)) (hW σ (zaa _ _)) hv
  rw [e1] at e2;simp only [Value.pointer.injEq,Option.some.injEq,Addr.mk.injEq] at e2;rw [if_neg hb] at e2;omega
theorem op_fieldAddr (hG:Good C E) (h:Stt C w0 R0 σ bp R s a w) (hW:Lits s.n σ W) {t:Nat} {x:Operand} {f:Nat} (hop:o.op = .fieldAddr t x f) (hx:opx E W s o.op=some (ov,s')):Does C.P ((execOp a.eval o).run C.P w) (Outs C w0 R0 R w (tgt W s o.op) σ bp s s' a ov):=by
 rw [hop] at hx;simp only [opx,Option.bind_eq_some_iff] at hx;obtain ⟨T,hT,q,hq,hx⟩:=hx;have ok:=hG.of hT
 have hagg:T.agg=true:=by
  cases ha:T.agg
  ·rw [ok.fl ha] at hq;cases hq
  ·rfl
 obtain ⟨fs,hu,hfs⟩:=ok.st hagg;obtain ⟨fd,e1,e2,e3,e4,_⟩:=hfs f q hq
 have run:∀ g p,a.eval x = .pointer (some ⟨g,p,none⟩)->(execOp a.eval o).run C.P w = .ok (.value (.pointer (some ⟨g,p+q.1,none⟩))) w:=by
  intro g p he;simp only [execOp,hop,he,Sem.run_bind,run_fieldAt hu e1 e3 e4,Result.andThen_ok,Sem.run_pure,e2]
 have h0:=h.here;have w0:=hW σ (zaa _ _);split at hx
 ·rename_i b p hv;cases hx;have hb:=ptr_lt h hW hv;rw [run _ _ (zau h0 w0 hv)];refine zbd h fun σ' bp' h1 h2=>?_
  show _=Value.pointer (some ⟨bp' b,p+q.1,none⟩);rw [h2 b hb]
 ·rename_i U p hv;cases hx;obtain ⟨g,k,e,hr⟩:=zau h0 w0 hv;rw [run _ _ e];refine zbd h fun σ' bp' h1 h2=>⟨g,k, ?_,hr⟩
  rw [Nat.add_assoc]
 ·cases hx
end
end Go.Proofs.YtckfjploafhenaaGreat.Ai
namespace Go.Proofs.YtckfjploafhenaaGreat.Ai
open Go.RowKit
section
variable {P:Program} {w:World}
theorem run_loadAt {t:Nat} {T:Ty} (ok:TyOk P t T) {g o:Nat} {vs:List Value} (hl:vs.length=T.cells.length) (hc:∀ (j:Nat) (v:Value),vs[j]?=some v->w.cell? ⟨g,o+j,none⟩=some v) :
  ∃ v,(Instr.loadAt t (.pointer (some ⟨g,o,none⟩))).run P w = .ok v w/\((T.agg=true/\v = .agg vs.toArray)\/(T.agg=false/\vs=[v])):=by
 cases ha:T.agg
 ·obtain ⟨c,d,e1,hu,hr,_⟩:=ok.pl ha;rw [e1] at hl
  match vs,hl with
  | [v],_ =>
   refine ⟨v, ?_, .inr ⟨rfl,rfl⟩⟩;have h0:w.cell? ⟨g,o,none⟩=some v:=hc 0 v rfl
   have hagg:(isAgg t).run P w = .ok false w:=by
    unfold isAgg;rw [Sem.run_bind,run_underlying hu w];cases d <;> simp_all
   simp only [Instr.loadAt,Instr.sureAddr,Sem.run_bind,Sem.run_pure,Result.andThen_ok,loadVar,hagg,Bool.false_eq_true,if_false,load,Sem.run,h0]
 ·obtain ⟨fs,hu,_⟩:=ok.st ha;exact ⟨_,run_loadAt_mid w g o t vs (.struct fs) hc hu rfl (by rw [hl];exact ok.size), .inl ⟨rfl,rfl⟩⟩
end
theorem zc8 {C:Cx} {σ:Nat->Int} {bp:Nat->Nat} {R:Nat->Prop} {w:World}:∀ {l:List At} {vs:List Value},LsOk C σ bp R w l vs->l.length=vs.length
 | [],[],_=>rfl
 | [],_::_,h=>h.elim
 | _::_,[],h=>h.elim
 | _::l,_::r,h=>by simp [zc8 h.2]
theorem LsOk.drop {C:Cx} {σ:Nat->Int} {bp:Nat->Nat} {R:Nat->Prop} {w:World}:∀ (o:Nat) {l:List At} {vs:List Value},LsOk C σ bp R w l vs->LsOk C σ bp R w (l.drop o) (vs.drop o)
 | 0,l,vs,h=>by simpa using h
 | o+1,[],[],h=>by simpa using h
 | o+1,[],_::_,h=>h.elim
 | o+1,_::_,[],h=>h.elim
 | o+1,_::l,_::r,h=>by simpa using LsOk.drop o h.2
theorem LsOk.take {C:Cx} {σ:Nat->Int} {bp:Nat->Nat} {R:Nat->Prop} {w:World}:∀ (n:Nat) {l:List At} {vs:List Value},LsOk C σ bp R w l vs->LsOk C σ bp R w (l.take n) (vs.take n)
 | 0,l,vs,h=>by simp [LsOk]
 | n+1,[],[],h=>by simpa using h
 | n+1,[],_::_,h=>h.elim
 | n+1,_::_,[],h=>h.elim
 | n+1,_::l,_::r,h=>by simpa using ⟨h.1,LsOk.take n h.2⟩
section
variable {C:Cx} {E:Env} {w0:World} {R0:Nat->Prop} {σ:Nat->Int} {bp:Nat->Nat} {R:Nat->Prop} {s s':AS} {a:Act} {w:World} {W:List (BE×Bool)} {o:Oper} {ov:Option AV} {tg:Option Nat}
theorem freshL_stt:∀ (cs:List Ck) (vs:List Value) {s:AS} {σ:Nat->Int},Stt C w0 R0 σ bp R s a w->cs.length=vs.length->(∀ (j:Nat) (c:Ck) (v:Value),cs[j]?=some c->vs[j]?=some v->CkOk C R w c v)->(∀ c∈cs,Ckwf c) ->
  ∃ σ1,Agr s.n σ1 σ/\s.n<=(s.freshL cs).2.n/\(s.freshL cs).2.tm=s.tm/\(s.freshL cs).2.bx=s.bx/\Stt C w0 R0 σ1 bp R (s.freshL cs).2 a w/\∀ σ' bp',Agr (s.freshL cs).2.n σ' σ1->LsOk C σ' bp' R w (s.freshL cs).1 vs
 | [],[],s,σ,h,_,_,_=>⟨σ,zaa _ _,Nat.le_refl _,rfl,rfl,h,fun _ _ _=>trivial⟩
 | [],_::_,s,σ,h,hl,_,_=>by simp at hl
 | _::_,[],s,σ,h,hl,_,_=>by simp at hl
 | c::cs,v::vs,s,σ,h,hl,hv,hw=>by
  obtain ⟨σ1,a1,n1,t1,b1,st1,k1⟩:=zcw h (hv 0 c v rfl rfl) (hw c List.mem_cons_self);obtain ⟨σ2,a2,n2,t2,b2,st2,k2⟩:=freshL_stt cs vs st1 (by simpa using hl) (fun j c' v' e1 e2=>hv (j+1) c' v' (by simpa using e1) (by simpa using e2)) (fun c' hc=>hw c' (List.mem_cons_of_mem _ hc))
  refine ⟨σ2,(a2.less n1).trans a1,Nat.le_trans n1 n2,t2.trans t1,b2.trans b1,st2,fun σ' bp' ha=>⟨?_,k2 σ' bp' ha⟩⟩
  exact k1 σ' bp' (((show Agr _ σ' σ2 from ha).less n2).trans a2)
theorem pack_ok {T:Ty} {l:List At} {v:AV} (hp:pack T.agg l=some v) {vs:List Value} {u:Value} (hu:(T.agg=true/\u = .agg vs.toArray)\/(T.agg=false/\vs=[u])) {σ':Nat->Int} {bp':Nat->Nat} (hl:LsOk C σ' bp' R w l vs):AVOk C σ' bp' R w v u:=by
 rcases hu with ⟨ha,rfl⟩ | ⟨ha,rfl⟩
 ·rw [ha] at hp;simp only [pack] at hp;cases hp;exact ⟨_,rfl,hl⟩
 ·rw [ha] at hp;unfold pack at hp;split at hp
  ·simp at *
  ·cases hp;exact hl.1
  ·cases hp
theorem box_cells (h:Stt C w0 R0 σ bp R s a w) {b:Nat} {c:Nat×List At} (hb:nth s.bx b=some c) :
  ∃ arr,w.heap[bp b]?=some (.cells arr c.1 (0,0))/\∀ σ' bp',Agr s.n σ' σ->Agb s.bx.length bp' bp->LsOk C σ' bp' R w c.2 arr.toList:=by
 obtain ⟨arr,e,_⟩:=h.here.bx.nth hb;rw [Nat.zero_add] at e;refine ⟨arr,e,fun σ' bp' h1 h2=>?_⟩
 obtain ⟨arr',e',k⟩:=(h.st σ' bp' h1 h2).bx.nth hb;rw [Nat.zero_add,h2 b (nth_lt hb),e] at e';simp only [Option.some.injEq,Obj.cells.injEq,and_true,true_and] at e';rw [e'];exact k
theorem row_cells (h:Stt C w0 R0 σ bp R s a w) {T g k o:Nat} (hr:RowAt R w T g ((k+1) * sz C T)) {n:Nat} (hn:o+n<=sz C T) :
  ∃ vs:List Value,vs.length=n/\(∀ (j:Nat) (v:Value),vs[j]?=some v->w.cell? ⟨g,k * sz C T+o+j,none⟩=some v)/\∀ (j:Nat) (c:Ck) (v:Value),(cut (rks C T) o n)[j]?=some c->vs[j]?=some v->CkOk C R w c v:=by
 obtain ⟨hR,cs,fz,e1,e2⟩:=hr;obtain ⟨_,_,cs',T',fz',e3,hs,_,_,hc⟩:=h.sw.hp.rows g hR;rw [e1] at e3;simp only [Option.some.injEq,Obj.cells.injEq] at e3;obtain ⟨rfl,rfl,rfl⟩:=e3;have hmul:(k+1) * sz C T=k * sz C T+sz C T:=by rw [Nat.add_mul,Nat.one_mul]
 have hget:∀ j,j < n->(cs.toList.drop (k * sz C T+o)).take n=(cs.toList.drop (k * sz C T+o)).take n/\((cs.toList.drop (k * sz C T+o)).take n)[j]?=cs[k * sz C T+o+j]?:=by
  intro j hj;refine ⟨rfl, ?_⟩;rw [List.getElem?_take,if_pos hj,List.getElem?_drop,Array.getElem?_toList]
 refine ⟨(cs.toList.drop (k * sz C T+o)).take n, ?_,fun j v hv=>?_,fun j c v hcj hv=>?_⟩
 ·rw [List.length_take,List.length_drop,Array.length_toList];omega
 ·have hj:j < n:=by
   have:=(List.getElem?_eq_some_iff.1 hv).1
   rw [List.length_take] at this;omega
  rw [(hget j hj).2] at hv;simp only [World.cell?,e1,Option.isSome_none,Bool.false_eq_true,if_false];exact hv
 ·have hj:j < n:=by
   have:=(List.getElem?_eq_some_iff.1 hv).1
   rw [List.length_take] at this;omega
  rw [(hget j hj).2] at hv;obtain ⟨c',h1,h2⟩:=hc _ v hv
  have hm:(k * sz C T+o+j) % sz C T=o+j:=by
   rw [Nat.add_assoc,Nat.mul_comm,Nat.mul_add_mod];exact Nat.mod_eq_of_lt (by omega)
  rw [hm,zbv] at h1;unfold cut at hcj;rw [List.getElem?_take,if_pos hj,List.getElem?_drop,h1] at hcj;cases hcj;exact h2
theorem rks_of (hG:Good C E) {U:Nat} {V:Ty} (hV:look U E.tb=some V):rks C U=V.rk/\sz C U=V.rk.length:=by
 have:look U C.tb=some V:=hG.tb U V hV
 unfold rks sz;rw [this];exact ⟨rfl,rfl⟩
theorem op_load (hG:Good C E) (h:Stt C w0 R0 σ bp R s a w) (hW:Lits s.n σ W) {t:Nat} {x:Operand} (hop:o.op = .load t x) (hx:opx E W s o.op=some (ov,s')):Does C.P ((execOp a.eval o).run C.P w) (Outs C w0 R0 R w (tgt W s o.op) σ bp s s' a ov):=by
 rw [hop] at hx;simp only [opx,Option.bind_eq_some_iff] at hx;obtain ⟨T,hT,hx⟩:=hx;have ok:=hG.of hT;have h0:=h.here;have w0:=hW σ (zaa _ _)
 have run:∀ g p v,a.eval x = .pointer (some ⟨g,p,none⟩)->(Instr.loadAt t (.pointer (some ⟨g,p,none⟩))).run C.P w = .ok v w->(execOp a.eval o).run C.P w = .ok (.value v) w:=by
  intro g p v he hr;simp only [execOp,hop,he,Sem.run_bind,hr,Result.andThen_ok,Sem.run_pure]
 split at hx
 ·rename_i b p hv;have hpx:∀ σ' bp',Agr s.n σ' σ->Agb s.bx.length bp' bp->a.eval x = .pointer (some ⟨bp' b,p,none⟩):=fun σ' bp' h1 h2=>zau (h.st σ' bp' h1 h2) (hW σ' h1) hv
  simp only [Option.bind_eq_some_iff] at hx;obtain ⟨c,hc,hx⟩:=hx;obtain ⟨arr,e,hls⟩:=box_cells h hc;cases hl:Nat.beq (cut c.2 p T.cells.length).length T.cells.length <;> rw [hl] at hx
  ·cases hx
  ·simp only [cond_true,Option.map_eq_some_iff] at hx;obtain ⟨v,hp,hx⟩:=hx;cases hx;have hl:=Nat.eq_of_beq_eq_true hl;have hlen:=zc8 (hls σ bp (zaa _ _) (zai _ _));have hcut:∀ σ' bp',Agr s.n σ' σ->Agb s.bx.length bp' bp->LsOk C σ' bp' R w (cut c.2 p T.cells.length) ((arr.toList.drop p).take T.cells.length):=fun σ' bp' h1 h2=>((hls σ' bp' h1 h2).drop p).take _
   have hl2:((arr.toList.drop p).take T.cells.length).length=T.cells.length:=by rw [<-zc8 (hcut σ bp (zaa _ _) (zai _ _))];exact hl
   obtain ⟨u,hu,hu2⟩:=run_loadAt (w:=w) ok (g:=bp b) (o:=p) hl2 (fun j v hj=>by
    have hjn:j < T.cells.length:=by
     have:=(List.getElem?_eq_some_iff.1 hj).1
     omega
    rw [List.getElem?_take,if_pos hjn,List.getElem?_drop,Array.getElem?_toList] at hj;simp only [World.cell?,e,Option.isSome_none,Bool.false_eq_true,if_false]
    exact hj)
   rw [run _ _ _ (hpx σ bp (zaa _ _) (zai _ _)) hu];exact zbd h fun σ' bp' h1 h2=>pack_ok hp hu2 (hcut σ' bp' h1 h2)
 ·rename_i U p hv;simp only [Option.bind_eq_some_iff] at hx;obtain ⟨V,hV,hx⟩:=hx;obtain ⟨er,es⟩:=rks_of hG hV;obtain ⟨g,k,ep,hr⟩:=zau h0 w0 hv;cases hl:Nat.beq (cut V.rk p T.cells.length).length T.cells.length <;> rw [hl] at hx
  ·cases hx
  ·simp only [cond_true,Option.map_eq_some_iff] at hx;obtain ⟨v,hp,hx⟩:=hx;cases hx;have hl:=Nat.eq_of_beq_eq_true hl
   have hn:p+T.cells.length<=sz C U:=by
    have hc0:=ok.rk.2;unfold cut at hl;rw [List.length_take,List.length_drop] at hl;rw [es];omega
   obtain ⟨vs,v1,v2,v3⟩:=row_cells h hr hn;obtain ⟨u,hu,hu2⟩:=run_loadAt (w:=w) ok (g:=g) (o:=k * sz C U+p) v1 v2;rw [run _ _ _ ep hu];rw [er] at v3;obtain ⟨σ1,a1,n1,t1,b1,st1,k1⟩:=freshL_stt (cut V.rk p T.cells.length) vs h (by rw [hl,v1]) v3 (fun c hc=>(hG.of hV).wf c (List.mem_of_mem_drop (List.mem_of_mem_take hc)))
   refine ⟨σ1,bp,R,a1,n1,zai _ _,by rw [b1];exact Nat.le_refl _,st1,fun y hy σ' bp' h1 h2=>?_,Fr.refl⟩
   cases hy;exact pack_ok hp hu2 (k1 σ' bp' h1)
 ·cases hx
end
end Go.Proofs.YtckfjploafhenaaGreat.Ai
