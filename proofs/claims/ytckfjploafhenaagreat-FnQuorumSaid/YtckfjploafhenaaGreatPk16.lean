/- Slices of flat structs as lists: a weak reading (Rd) and facts on worlds. No program in sight. -/
import Derived.Test.YtckfjploafhenaaGreatPk15
import Derived.WalkKit
import Derived.ProofKit
import Derived.WalkSpells
import Derived.WalkLawsBesides
import Derived.Lib.Hide
import Derived.BigQuiet
import Derived.OwnWalk
set_option maxRecDepth 100000
set_option maxHeartbeats 16000000
set_option linter.unusedVariables false
set_option linter.unusedSimpArgs false
namespace Go.Proofs.YtckfjploafhenaaGreat
open Go.ChangeShapes Go.WideShapes Go.ChangeAt Go.RowKit Go.Sort
def Rd {α:Type} (enc:α->List Value) (sz:Nat) (w:World) (A:Option Addr) (c:Nat) (l:List α):Prop :=
 l.length<=c/\c<=maxLen/\(0 < l.length->∃ b o,A=some ⟨b,o,none⟩/\b < w.heap.size/\∀ k (h:k < l.length) j u,(enc l[k])[j]?=some u->w.cell? ⟨b,o+k * sz+j,none⟩=some u)
theorem Rd.keep {α:Type} {enc:α->List Value} {sz:Nat} {w w':World} {A:Option Addr} {c:Nat} {l:List α} (h:Rd enc sz w A c l) (hb:Ext w w'):Rd enc sz w' A c l:=by
 refine ⟨h.1,h.2.1,fun hl=>?_⟩
 obtain ⟨b,o,e,hlt,hc⟩:=h.2.2 hl;exact ⟨b,o,e,Nat.lt_of_lt_of_le hlt hb.size,fun k hk j u hu=>(hb.cell (p:=⟨b,o+k * sz+j,none⟩) hlt).trans (hc k hk j u hu)⟩
theorem za4 (w:World):Ext w w:=Below.refl _ _
theorem za1 (w:World) (o:Obj):Ext w (w.alloc o):=(Below.refl _ _).alloc (Nat.le_refl _) o
theorem za9 {a b:World} (h:Ext a b) (o:Obj):Ext a (b.alloc o):=h.alloc h.size o
theorem zab {a b:World} (h:Ext a b):Ext a b.drew:=h.drew
theorem zak {a b:World} (h:Ext a b) {p:Addr} (hp:a.heap.size<=p.block) (u:Value):Ext a (b.setCell p u):=Below.setCell h hp u
def Ow {α:Type} (enc:α->List Value) (e:TypeId) (sz:Nat) (w:World) (B:Nat) (v:Value) (l:List α):Prop:=w.ownsRow B e sz v l.length (l.flatMap enc)
theorem ze4 {α:Type} {enc:α->List Value} {sz:Nat} (hsz:∀ x,(enc x).length=sz):∀ (l:List α) (k:Nat) (hk:k < l.length) (j:Nat),j < sz->(l.flatMap enc)[k * sz+j]?=(enc l[k])[j]?
 | [],k,hk,_,_=>absurd hk (by simp)
 | x::l,0,_,j,hj=>by
  simp only [List.flatMap_cons,Nat.zero_mul,Nat.zero_add,List.getElem_cons_zero];rw [List.getElem?_append_left (by rw [hsz];exact hj)]
 | x::l,k+1,hk,j,hj=>by
  simp only [List.flatMap_cons,List.getElem_cons_succ];rw [List.getElem?_append_right (by rw [hsz,Nat.succ_mul];omega),hsz,show (k+1) * sz+j - sz=k * sz+j by rw [Nat.succ_mul];omega]
  exact ze4 hsz l k (by simpa using hk) j hj
theorem zae {α:Type} {enc:α->List Value} {sz:Nat} (hsz:∀ x,(enc x).length=sz):∀ (l:List α),(l.flatMap enc).length=l.length * sz
 | []=>by simp
 | x::l=>by simp only [List.flatMap_cons,List.length_append,hsz,List.length_cons,zae hsz l,Nat.succ_mul];omega
theorem Ow.rd {α:Type} {enc:α->List Value} {e:TypeId} {sz:Nat} {w:World} {B:Nat} {A:Option Addr} {n c:Nat} {l:List α} (hsz:∀ x,(enc x).length=sz) (h:Ow enc e sz w B (.slice A n c) l):n=l.length/\Rd enc sz w A c l:=by
 rcases h.2 with ⟨h',hn⟩ | ⟨g,cap,cur,h',hb,hg,hnc,hcm,hcs,htake⟩
 ·simp only [Value.slice.injEq] at h';obtain ⟨rfl,rfl,rfl⟩:=h';exact ⟨hn.symm,by omega,by unfold maxLen;omega,fun hp=>absurd hp (by omega)⟩
 ·simp only [Value.slice.injEq] at h';obtain ⟨rfl,rfl,rfl⟩:=h';refine ⟨rfl,hnc,hcm,fun hp=>⟨g,0,rfl,(Array.getElem?_eq_some_iff.1 hg).1,fun k hk j u hu=>?_⟩⟩
  have hj:j < sz:=by
   have:=(List.getElem?_eq_some_iff.1 hu).1
   rw [hsz] at this;exact this
  have hlt:k * sz+j < l.length * sz:=by
   have:=Nat.mul_le_mul_right sz (show k+1<=l.length by omega)
   rw [Nat.succ_mul] at this;omega
  rw [Nat.zero_add,cell_of_row w g _ cur e (0,0) hg,<-hu,<-ze4 hsz l k hk j hj,<-htake,List.getElem?_take,if_pos hlt]
  simp
theorem Ow.kept {α:Type} {enc:α->List Value} {e:TypeId} {sz:Nat} {w w':World} {B:Nat} {v:Value} {l:List α} (h:Ow enc e sz w B v l) (hx:Ext w w'):Ow enc e sz w' B v l:=by
 refine ⟨h.1, ?_⟩;rcases h.2 with h2 | ⟨g,cap,cur,hv,hb,hg,r⟩
 ·exact .inl h2
 ·exact .inr ⟨g,cap,cur,hv,hb,by rw [hx.block g (Array.getElem?_eq_some_iff.1 hg).1];exact hg,r⟩
theorem Ow.less {α:Type} {enc:α->List Value} {e:TypeId} {sz:Nat} {w:World} {B B':Nat} {v:Value} {l:List α} (h:Ow enc e sz w B v l) (hB:B'<=B):Ow enc e sz w B' v l:=by
 refine ⟨h.1, ?_⟩;rcases h.2 with h2 | ⟨g,cap,cur,hv,hb,r⟩
 ·exact .inl h2
 ·exact .inr ⟨g,cap,cur,hv,by omega,r⟩
theorem ownsRow_congr {w:World} {B:Nat} {e:TypeId} {sz:Nat} {v:Value} {n:Nat} {xs ys:List Value} (h:w.ownsRow B e sz v n xs) (hxy:xs=ys):w.ownsRow B e sz v n ys:=hxy▸h
theorem zdk {w w':World} {B:Nat} {e:TypeId} {sz:Nat} {v:Value} {n:Nat} {xs:List Value} (h:w.ownsRow B e sz v n xs) (hx:Ext w w'):w'.ownsRow B e sz v n xs:=by
 refine ⟨h.1, ?_⟩;rcases h.2 with h2 | ⟨g,cap,cur,hv,hb,hg,r⟩
 ·exact .inl h2
 ·exact .inr ⟨g,cap,cur,hv,hb,by rw [hx.block g (Array.getElem?_eq_some_iff.1 hg).1];exact hg,r⟩
def setAll (xs:List Value) (p:Nat):List Value->List Value
 | []=>xs
 | v::r=>setAll (xs.set p v) (p+1) r
theorem setAll_eq:∀ (vs xs:List Value) (p:Nat),p+vs.length<=xs.length->setAll xs p vs=xs.take p++vs++xs.drop (p+vs.length)
 | [],xs,p,_=>by simp [setAll]
 | v::r,xs,p,h=>by
  simp only [List.length_cons] at h;have hp:p < xs.length:=by omega
  unfold setAll;rw [setAll_eq r (xs.set p v) (p+1) (by simp;omega)]
  have h1:(xs.set p v).take (p+1)=xs.take p++[v]:=by
   rw [List.take_succ_eq_append_getElem (by simpa using hp),List.take_set_of_le (by omega)]
   simp
  have h2:(xs.set p v).drop (p+1+r.length)=xs.drop (p+(v::r).length):=by
   rw [List.drop_set_of_lt (by omega)]
   simp only [List.length_cons];congr 1;omega
  rw [h1,h2]
  simp
def mixed {α:Type} (M:Nat->α) (l:List α) (i:Nat):List α:=(List.range i).map M++l.drop i
theorem mixed_length {α:Type} (M:Nat->α) (l:List α) {i:Nat} (hi:i<=l.length):(mixed M l i).length=l.length:=by unfold mixed;simp;omega
theorem setAll_mixed {α:Type} {enc:α->List Value} {sz:Nat} (hsz:∀ x,(enc x).length=sz) (M:Nat->α) (l:List α) (i:Nat) (hi:i < l.length) :
  setAll ((mixed M l i).flatMap enc) (i * sz) (enc (M i))=(mixed M l (i+1)).flatMap enc:=by
 have hle:(i+1) * sz<=l.length * sz:=Nat.mul_le_mul_right sz (by omega)
 rw [Nat.succ_mul] at hle;have hf:(((List.range i).map M).flatMap enc).length=i * sz:=by rw [zae hsz];simp
 have hm:=zae hsz (mixed M l i);rw [mixed_length M l (by omega)] at hm
 rw [setAll_eq _ _ _ (by rw [hsz,hm];omega),hsz]
 unfold mixed
 rw [List.flatMap_append,List.take_append_of_le_length (by omega),List.take_of_length_le (by omega),List.drop_append,hf,List.drop_of_length_le (by omega:(((List.range i).map M).flatMap enc).length<=i * sz+sz),List.nil_append,
  List.range_succ,List.map_append,List.append_assoc,List.flatMap_append,List.flatMap_append,List.append_assoc]
 congr 1;rw [List.drop_eq_getElem_cons hi,List.flatMap_cons,show i * sz+sz - i * sz=(enc l[i]).length by rw [hsz];omega,List.drop_left]
 simp
theorem zcv {a b c:World} {row:Option Nat} (h:a.grownBy b row) (k:b.grownBy c row):a.grownBy c row :=
 ⟨k.os.trans h.os,k.tape.trans h.tape,k.output.trans h.output,Nat.le_trans h.size k.size,fun i hi hne=>(k.block i (Nat.lt_of_lt_of_le hi h.size) hne).trans (h.block i hi hne)⟩
theorem zfj {a b c:World} {row:Option Nat} (h:Ext a b) (k:b.grownBy c row) (hr:∀ g,row=some g->a.heap.size<=g):Ext a c:=Below.grown h k h.size hr
theorem enters {P:Program} {f:FuncId} {fn:Func} (hf:P.funcs[f]?=some fn) (hn:(fn.name == "runtime.NumGoroutine")=false) (hb:fn.body.isNone=false):Rm.Enters P f:=by
 intro args w;unfold callFunc;simp only [Sem.run_bind,run_program,Result.andThen_ok,hf,hn,hb,Bf,if_false,Sem.run_pure]
-- the region law's rules with what is plain left to be found
section
variable {k:Rm.AppK} {P:Program} {ops:Array Oper} {w:World} {B:Rm.Bnd} {L:(World->Prop)->Act->Prop} {o:Oper} {rest:List Oper} {C:World->Prop} {ps:List Nat} {a:Act} {R:Rm.RelK k} {id:Nat} {Q:Exit->Act->World->Prop} {l:List Oper}
theorem mrg (R:Rm.RelK k) (Φ:Option Tmp->Value->World->Prop) (n:Nat) (h:Rm.Mx R P l.toArray (R.rel w) (w.heap.size,Φ) (fun C a'=>∀ w',C w'->wpList P l.toArray Q (l.drop n) a' w') (l.take n) (R.rel w) [] a)
  (hQ:∀ (c:_) (a:Act) (d:Nat) (v:Value) (w:World),Q (.panic c) (a.put (some d) v) w->Q (.panic c) a w:=by exact fun _ _ _ _ _ h=>h) (hb:R.base<=w.heap.size:=by first | exact Nat.le_refl _ | omega | (simp;omega))
  (hm:P.follows .mixedOrders=true:=by kernel_rfl) (hB:Rm.mixB R l n=true:=by kernel_rfl):(Code.region id l.toArray true).wp P Q a w:=Rm.wp_region_mix' Φ hQ n hb hm hB h
theorem mrx (Φ:Option Tmp->Value->World->Prop) (n:Nat) (h:(∀ (d:Nat) (os:Array Obj) (b o:Nat),b < w.heap.size->(grow (redrawn w d) os).cell? ⟨b,o,none⟩=w.cell? ⟨b,o,none⟩) ->
   Rm.Mx (relE w.heap.size) P l.toArray (Ext w) (w.heap.size,Φ) (fun C a'=>∀ w',C w'->wpList P l.toArray Q (l.drop n) a' w') (l.take n) (Ext w) [] a)
  (hQ:∀ (c:_) (a:Act) (d:Nat) (v:Value) (w:World),Q (.panic c) (a.put (some d) v) w->Q (.panic c) a w:=by exact fun _ _ _ _ _ h=>h)
  (hm:P.follows .mixedOrders=true:=by kernel_rfl) (hB:Rm.mixB (relE w.heap.size) l n=true:=by kernel_rfl):(Code.region id l.toArray true).wp P Q a w:=Rm.region_ext Φ hQ n hm hB h
theorem mpl (h:wpQuiet P ops (fun _=>True) (fun a'=>Rm.Mx R P ops (R.rel w) B L rest C ps a') [o] a) (hal:zat o=false:=by exact rfl) (hp:isPlain o=true:=by exact rfl):Rm.Mx R P ops (R.rel w) B L (o::rest) C ps a:=Rm.wpMix_plain hal hp h
theorem mqu {N:Nat} (h:wpQuiet P ops (fun w'=>∃ p:Regrown,w'=grow (redrawn w p.d) p.os) (fun a'=>Rm.Mx (relE N) P ops (Ext w) B L rest C ps a') [o] a) (hal:zat o=false:=by exact rfl) (hp:isPlain o=true:=by exact rfl):Rm.Mx (relE N) P ops (Ext w) B L (o::rest) C ps a:=Rm.wpMix_quiet hal hp h
theorem mnil {C:Act->Prop} {ops:Array Oper} {Cw:World->Prop} {a:Act} (h:C a):wpQuiet P ops Cw C [] a:=h
theorem msk (h:Rm.Mx R P ops (R.rel w) B L rest C ps (a.put o.dst undef)) (hal:zat o=false:=by exact rfl) (hw:Region.wanted o (yielded ops a.tmps)=false:=by exact rfl):Rm.Mx R P ops (R.rel w) B L (o::rest) C ps a:=Rm.wpMix_skip hal hw h
theorem ml1 {ty:TypeId} {x:Operand} {g i:Nat} {v:Value} {d:TypeDesc} (hc:∀ W,R.rel w W->W.cell? ⟨g,i,none⟩=some v) (hu:P.underlying ty=some d) (h:Rm.Mx R P ops (R.rel w) B L rest C ps (a.put o.dst v)) (hop:o.op = .load ty x:=by exact rfl) (hw:Region.wanted o (yielded ops a.tmps)=true:=by exact rfl)
  (hx:a.eval x = .pointer (some ⟨g,i,none⟩):=by exact rfl) (hd:(match d with | .struct _ | .array _ _=>false | _=>true)=true:=by exact rfl):Rm.Mx R P ops (R.rel w) B L (o::rest) C ps a:=Rm.wpMix_load1 hc hop hw hx hu hd h
theorem mla {ty:TypeId} {x:Operand} {g i:Nat} {cs:Array Value} {fs:Array Field} (hc:∀ W,R.rel w W->∀ j v,cs.toList[j]?=some v->W.cell? ⟨g,i+j,none⟩=some v) (hu:P.underlying ty=some (.struct fs)) (h:Rm.Mx R P ops (R.rel w) B L rest C ps (a.put o.dst (.agg cs))) (hop:o.op = .load ty x:=by exact rfl)
  (hw:Region.wanted o (yielded ops a.tmps)=true:=by exact rfl) (hx:a.eval x = .pointer (some ⟨g,i,none⟩):=by exact rfl) (hi:(P.info? ty).map (·.size)=some cs.size:=by kernel_rfl):Rm.Mx R P ops (R.rel w) B L (o::rest) C ps a:=Rm.wpMix_loadAgg hc hop hw hx hu hi h
theorem mcl {f:FuncId} {fn:Func} {args:Array Operand} {ts:Array TypeId} {vals:Array Value} (hf:P.funcs[f]?=some fn) (φ:Value->World->Prop) (hφ:Rm.Mono R φ) (hc:∀ W,C W->Calls P f vals W fun e w'=>∃ v,e = .returned v/\φ v w'/\R.rel W w')
  (h:∀ v,Inh (fun W=>C W/\φ v W)->Rm.Mx R P ops (R.rel w) B L rest (fun W=>C W/\φ v W) ps (a.put o.dst v)) (hal:zat o=false:=by exact rfl) (hop:o.op = .call { callee := .value (.func f),args:=args,argTypes:=ts }:=by exact rfl)
  (hw:Region.wanted o (yielded ops a.tmps)=true:=by exact rfl) (hn:(fn.name == "runtime.NumGoroutine")=false:=by kernel_rfl) (hb:fn.body.isNone=false:=by exact rfl) (ha:args.toList.map a.eval=vals.toList:=by exact rfl):Rm.Mx R P ops (R.rel w) B L (o::rest) C ps a:=Rm.wpMix_call φ hal hop hw (enters hf hn hb) hφ hc ha h
theorem mdt {f:FuncId} {fn:Func} {args:Array Operand} {ts:Array TypeId} {vals:Array Value} {c:Value} (hf:P.funcs[f]?=some fn) (hc:∀ W,C W->Calls P f vals W fun e w'=>e = .returned c/\R.rel W w') (h:Rm.Mx R P ops (R.rel w) B L rest C ps (a.put o.dst c)) (hal:zat o=false:=by exact rfl)
  (hop:o.op = .call { callee := .value (.func f),args:=args,argTypes:=ts }:=by exact rfl) (hw:Region.wanted o (yielded ops a.tmps)=true:=by exact rfl) (hn:(fn.name == "runtime.NumGoroutine")=false:=by kernel_rfl) (hb:fn.body.isNone=false:=by exact rfl) (ha:args.toList.map a.eval=vals.toList:=by exact rfl) :
  Rm.Mx R P ops (R.rel w) B L (o::rest) C ps a:=Rm.wpMix_det hal hop hw (enters hf hn hb) hc ha h
end
theorem za2 {W:World} {p:Nat} {cs:Array Value} {T:TypeId} (h:W.heap[p]?=some (.cells cs T (0,0))):∀ y,W.cell? ⟨p,y,none⟩=cs[y]?:=fun y=>cell_of_row W p y cs T (0,0) h
theorem zad {W:World} {p:Nat} {cs:Array Value} {T:TypeId} (h:W.heap[p]?=some (.cells cs T (0,0))):∀ y,W.frozen? ⟨p,y,none⟩=false:=fun y=>frozen_of_row W p y cs T h
theorem bx_lt {W:World} {p:Nat} {o:Obj} (h:W.heap[p]?=some o):p < W.heap.size:=(Array.getElem?_eq_some_iff.1 h).1
theorem rd_len {α:Type} {enc:α->List Value} {sz:Nat} {w:World} {A:Option Addr} {c:Nat} {l:List α} (h:Rd enc sz w A c l):(l.length:Int)<=9223372036854775807:=by
 have h1:=h.1;have h2:=h.2.1;unfold maxLen at h2;omega
theorem za7 {a b:Bool} (h:a=b):Ending.returned (.bool a) = .returned (.bool b):=by rw [h]
theorem zc0 {k:IntKind} {a b:Int} (h:a=b):Ending.returned (.int k a) = .returned (.int k b):=by rw [h]
theorem zfu (w:World) (o:Obj) (k:Nat):(w.alloc o).heap[k]?=if k=w.heap.size then some o else w.heap[k]?:=by
 show (w.heap.push o)[k]?=_;rw [Array.getElem?_push]
theorem hNew {w:World} {o:Obj} {k:Nat} (hk:k=w.heap.size):(w.alloc o).heap[k]?=some o:=by rw [zfu,if_pos hk]
theorem hOld {w:World} {o o':Obj} {k:Nat} (h:w.heap[k]?=some o'):(w.alloc o).heap[k]?=some o':=by
 rw [zfu,if_neg (by have:=bx_lt h;omega)];exact h
theorem Ext.box {w w':World} {k:Nat} {o:Obj} (hx:Ext w w') (h:w.heap[k]?=some o):w'.heap[k]?=some o:=(hx.block k (bx_lt h)).trans h
theorem Rd.none_len {α:Type} {enc:α->List Value} {sz:Nat} {w:World} {c:Nat} {l:List α} (h:Rd enc sz w none c l):l.length=0:=by
 by_cases h0:0 < l.length
 ·obtain ⟨b,o,e,_⟩:=h.2.2 h0;cases e
 ·omega
theorem Rd.base {α:Type} {enc:α->List Value} {sz:Nat} {w:World} {A:Option Addr} {c:Nat} {l:List α} (h:Rd enc sz w A c l) (h0:0 < l.length):∃ a,A=some a:=by
 obtain ⟨b,o,e,_⟩:=h.2.2 h0;exact ⟨_,e⟩
theorem Rd.flat {α:Type} {enc:α->List Value} {sz:Nat} {w:World} {a:Addr} {c:Nat} {l:List α} (h:Rd enc sz w (some a) c l) (h0:0 < sz) (hsz:∀ x,(enc x).length=sz) :
  ∀ (j:Nat) (u:Value),(l.flatMap enc)[j]?=some u->w.cell? (a.add j)=some u:=by
 intro j u hu
 have hj:j < l.length * sz:=by
  have:=(List.getElem?_eq_some_iff.1 hu).1
  rwa [zae hsz] at this
 have hl:0 < l.length:=by
  rcases Nat.eq_zero_or_pos l.length with e | e
  ·rw [e] at hj;omega
  ·exact e
 obtain ⟨b,o,e,_,hc⟩:=h.2.2 hl;simp only [Option.some.injEq] at e;subst e;have hk:j / sz < l.length:=(Nat.div_lt_iff_lt_mul h0).2 hj;have hm:j % sz < sz:=Nat.mod_lt _ h0;have hd:j / sz * sz+j % sz=j:=Nat.div_add_mod' j sz;have h1:=ze4 hsz l (j / sz) hk (j % sz) hm;rw [hd,hu] at h1;have h2:=hc (j / sz) hk (j % sz) u h1.symm;rw [Addr.add_lit];rw [Nat.add_assoc,hd] at h2;exact h2
theorem zdr {α:Type} {enc:α->List Value} (h:∀ x,∀ u∈enc x,u.oneCell'=true) (l:List α):∀ u∈l.flatMap enc,u.oneCell'=true:=by
 intro u hu;obtain ⟨x,_,hx⟩:=List.mem_flatMap.1 hu;exact h x u hx
theorem Ow.lt {α:Type} {enc:α->List Value} {e:TypeId} {sz:Nat} {w:World} {B:Nat} {v:Value} {l:List α} (h:Ow enc e sz w B v l):∀ k,v.ownBlock=some k->B<=k/\k < w.heap.size:=World.ownsRow.lt h
theorem Ow.form {α:Type} {enc:α->List Value} {e:TypeId} {sz:Nat} {w:World} {B:Nat} {v:Value} {l:List α} (h:Ow enc e sz w B v l):∃ A c,v = .slice A l.length c:=by
 rcases h.2 with ⟨h2,h3⟩ | ⟨g,cap,cur,hv,_⟩
 ·exact ⟨none,0,by rw [h2,h3]⟩
 ·exact ⟨_,_,hv⟩
theorem Ow.base {α:Type} {enc:α->List Value} {e:TypeId} {sz:Nat} {w:World} {B:Nat} {v:Value} {l:List α} (h:Ow enc e sz w B v l) (h0:0 < l.length):∃ g c,v = .slice (some ⟨g,0,none⟩) l.length c/\B<=g/\g < w.heap.size:=by
 rcases h.2 with ⟨h2,h3⟩ | ⟨g,cap,cur,hv,hb,hg,_⟩
 ·omega
 ·exact ⟨g,cap,hv,hb,(Array.getElem?_eq_some_iff.1 hg).1⟩
theorem list_set_self {α:Type} {l:List α} {i:Nat} {x:α} (h:l[i]?=some x):l.set i x=l:=by
 obtain ⟨h1,rfl⟩:=List.getElem?_eq_some_iff.1 h;exact List.set_getElem_self h1
theorem setAll_one {α:Type} {enc:α->List Value} {sz:Nat} (hsz:∀ x,(enc x).length=sz) (l:List α) (k:Nat) (hk:k < l.length) (y:α):setAll (l.flatMap enc) (k * sz) (enc y)=(l.set k y).flatMap enc:=by
 have hle:(k+1) * sz<=l.length * sz:=Nat.mul_le_mul_right sz (by omega)
 rw [Nat.succ_mul] at hle;have hf:=zae hsz l;have ht:((l.take k).flatMap enc).length=k * sz:=by rw [zae hsz,List.length_take,Nat.min_eq_left (by omega)]
 rw [setAll_eq _ _ _ (by rw [hsz];omega),hsz,List.set_eq_take_append_cons_drop,if_pos hk]
 have hsplit:l.flatMap enc=(l.take k).flatMap enc++(enc l[k]++(l.drop (k+1)).flatMap enc):=by
  rw [<-List.flatMap_cons,<-List.flatMap_append,<-List.drop_eq_getElem_cons hk,List.take_append_drop]
 rw [hsplit,List.take_left' ht,<-List.append_assoc ((l.take k).flatMap enc),List.drop_left' (by rw [List.length_append,ht,hsz]),List.flatMap_append,List.flatMap_cons,List.append_assoc]
theorem flat_snoc {α:Type} (enc:α->List Value) (l:List α) (x:α):l.flatMap enc++enc x=(l++[x]).flatMap enc:=by simp
theorem own_of {α:Type} {enc:α->List Value} {e:TypeId} {sz:Nat} {w:World} {B:Nat} {v:Value} {l:List α} {n:Nat} (h:w.ownsRow B e sz v n (l.flatMap enc)) (hn:n=l.length):Ow enc e sz w B v l:=by
 subst hn;exact h
theorem own_snoc {α:Type} {enc:α->List Value} {e:TypeId} {sz:Nat} {w:World} {B:Nat} {v:Value} {l:List α} {x:α} {n:Nat} {cs:List Value} (h:w.ownsRow B e sz v n cs) (hn:n=l.length+1) (hc:cs=l.flatMap enc++enc x):Ow enc e sz w B v (l++[x]):=by
 unfold Ow;rw [List.length_append,List.length_singleton,<-flat_snoc,<-hn,<-hc];exact h
theorem zef {w w':World} {k:Nat} {o:Obj} {row:Option Nat} (h:w.heap[k]?=some o) (hg:w.grownBy w' row) (hne:row≠some k):w'.heap[k]?=some o:=by
 rw [hg.block k (bx_lt h) (fun he=>hne he.symm)];exact h
theorem box_set {w:World} {k:Nat} {o:Obj} {p:Addr} {u:Value} (h:w.heap[k]?=some o) (hne:p.block≠k):(w.setCell p u).heap[k]?=some o:=by
 rw [<-h];exact Below.heap_setCell _ _ _ _ (fun e=>hne e.symm)
theorem zag (w:World) (o:Obj):(w.alloc o).heap.size=w.heap.size+1:=by simp
end Go.Proofs.YtckfjploafhenaaGreat
