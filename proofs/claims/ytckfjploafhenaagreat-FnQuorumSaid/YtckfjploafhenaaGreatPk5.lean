/- The interpreter's operations are sound: stores into rows. -/
import Derived.Test.YtckfjploafhenaaGreatPk4
set_option maxRecDepth 100000
set_option maxHeartbeats 16000000
set_option linter.unusedVariables false
set_option linter.unusedSimpArgs false
namespace Go.Proofs.YtckfjploafhenaaGreat.Ai
open Go.RowKit
section
variable {C:Cx} {E:Env} {w0:World} {R0:Nat->Prop} {σ:Nat->Int} {bp:Nat->Nat} {R:Nat->Prop} {s s':AS} {a:Act} {w w':World} {W:List (BE×Bool)} {o:Oper} {ov:Option AV} {tg:Option Nat}
theorem zid {bp':Nat->Nat} (hf:∀ f∈s.fa,0<=f.ev σ) {d:Nat} {x:At} {c:Ck} {v:Value} (h:AtOk C σ bp' R w x v) (e:fitC d s x c=true):CkOk C R w c v/\solid x=true:=by
 unfold fitC at e;split at e
 ·rename_i k e' j lo hi;rw [Bool.and_eq_true] at e;obtain ⟨rfl,_⟩:=zex e.1;obtain ⟨h1,h2,h3⟩:=h;refine ⟨⟨_,h1, ?_⟩,rfl⟩;cases hz:(isZ (lo - (nat8 k).1) && isZ (hi - (nat8 k).2)) <;> rw [hz] at e
  ·simp only [cond_false,Bool.and_eq_true] at e;have a1:=zb0 σ hf _ _ e.2.1;have a2:=zb0 σ hf _ _ e.2.2;rw [ev_ge] at a1;rw [ev_le] at a2;omega
  ·rw [Bool.and_eq_true] at hz;have z1:=(ze0 _).1 hz.1;have z2:=(ze0 _).1 hz.2;omega
 ·exact ⟨⟨_,h⟩,rfl⟩
 ·obtain ⟨t,h1,h2,h3⟩:=h;exact ⟨⟨t,h1,h3⟩,rfl⟩
 ·rw [show v=_ from h]
  exact ⟨⟨0,none,0,0,rfl,rfl,by decide,Nat.le_refl _, .inl ⟨rfl,rfl⟩⟩,rfl⟩
 ·have:=Nat.eq_of_beq_eq_true e
  subst this;exact ⟨⟨_,h⟩,rfl⟩
 ·exact ⟨h,rfl⟩
 ·cases e
theorem fitL_ok {bp':Nat->Nat} (hf:∀ f∈s.fa,0<=f.ev σ) {d:Nat}:∀ {l:List At} {cs:List Ck} {vs:List Value},LsOk C σ bp' R w l vs->fitL d s l cs=true->(∀ (j:Nat) (c:Ck) (v:Value),cs[j]?=some c->vs[j]?=some v->CkOk C R w c v)/\l.length=cs.length/\∀ v∈vs,v.oneCell'=true
 | [],[],[],_,_=>⟨fun j c v h=>by simp at h,rfl,by simp⟩
 | [],[],_::_,h,_=>h.elim
 | [],_::_,vs,h,e=>by simp [fitL] at e
 | _::_,[],vs,h,e=>by simp [fitL] at e
 | _::_,_::_,[],h,_=>h.elim
 | x::l,c::cs,v::vs,h,e=>by
  simp only [fitL,Bool.and_eq_true] at e;obtain ⟨a1,a2⟩:=zid hf h.1 e.1;obtain ⟨b1,b2,b3⟩:=fitL_ok hf h.2 e.2;refine ⟨fun j c' v' h1 h2=>?_,by simp [b2],fun u hu=>?_⟩
  ·cases j with
   | zero =>
    simp only [List.getElem?_cons_zero,Option.some.injEq] at h1 h2;subst h1;subst h2;exact a1
   | succ j=>exact b1 j c' v' (by simpa using h1) (by simpa using h2)
  ·rcases List.mem_cons.1 hu with rfl | hu
   ·exact (h.1.cells a2).2
   ·exact b3 u hu
theorem fits_ok {bp':Nat->Nat} (h:St C w0 σ bp' R s a w) (hW:∀ x∈W,x.1.ev σ=x.2) {d:Nat} {x:Operand} {l:List At} {cs:List Ck} (he:evC W s x=some l) (e:fitL d s l cs=true) :
  (∀ (j:Nat) (c:Ck) (v:Value),cs[j]?=some c->(a.eval x).cells.toList[j]?=some v->CkOk C R w c v)/\(a.eval x).cells.toList.length=cs.length/\l.length=cs.length/\∀ v∈(a.eval x).cells.toList,v.oneCell'=true:=by
 rcases evC_sound h hW he with h1 | ⟨y,rfl,h1⟩
 ·obtain ⟨b1,b2,b3⟩:=fitL_ok h.fs.fa h1 e;exact ⟨b1,by rw [<-zc8 h1];exact b2,b2,b3⟩
 ·have hy:solid y=true:=by
   cases cs with
   | nil=>simp [fitL] at e
   | cons c r =>
    simp only [fitL,Bool.and_eq_true] at e;exact (zid h.fs.fa h1 e.1).2
  rw [(h1.cells hy).1];obtain ⟨b1,b2,b3⟩:=fitL_ok h.fs.fa (show LsOk C σ bp' R w [y] [a.eval x] from ⟨h1,trivial⟩) e
  exact ⟨b1,b2,b2,b3⟩
theorem row_turn (hG:Good C E) (hB:C.B<=w0.heap.size) (h:Stt C w0 R0 σ bp R s a w) {g T:Nat} {cs cs':Array Value} {fz:Nat×Nat} (hR:R g) (he:w.heap[g]?=some (.cells cs T fz)) (hs:cs'.size=cs.size) (hc:∀ (j:Nat) (v:Value),cs'[j]?=some v->∃ c,nth (rks C T) (j % sz C T)=some c/\CkOk C R w c v) :
  Stt C w0 R0 σ bp R s a (w.setRow g cs')/\Gr R R w (w.setRow g cs'):=by
 have hg:=h.sw.hp.rows g hR
 have kg:Gr R R w (w.setRow g cs'):=by
  refine ⟨fun _ h=>h,fun q hq cs1 T1 fz1 e=>?_⟩
  by_cases hqg:q=g
  ·subst hqg;rw [he] at e;simp only [Option.some.injEq,Obj.cells.injEq] at e;obtain ⟨rfl,rfl,rfl⟩:=e;exact ⟨cs',fz,setRow_heap w q cs cs' T fz he,hs⟩
  ·exact ⟨cs1,fz1,by rw [setRow_other w _ _ _ hqg];exact e,rfl⟩
 have hp:Hp C R (w.setRow g cs'):=by
  refine ⟨fun q hq=>?_,hG.cur w _ h.sw.hp.cur (setRow_other w _ _ _ fun e=>hg.2.1 e.symm) (fun q hq=>setRow_other w _ _ _ fun e=>?_),by rw [size_setRow];exact h.sw.hp.pc,by rw [size_setRow];exact h.sw.hp.B⟩
  ·obtain ⟨h1,h2,cs1,T1,fz1,h3,h4,h5,h6,h7⟩:=h.sw.hp.rows q hq;by_cases hqg:q=g
   ·subst hqg;rw [he] at h3;simp only [Option.some.injEq,Obj.cells.injEq] at h3;obtain ⟨rfl,rfl,rfl⟩:=h3;refine ⟨h1,h2,cs',T,fz,setRow_heap w q cs cs' T fz he,h4,by rw [hs];exact h5,by rw [hs];exact h6,fun j v hj=>?_⟩
    obtain ⟨c,e1,e2⟩:=hc j v hj;exact ⟨c,e1,e2.gr kg⟩
   ·refine ⟨h1,h2,cs1,T1,fz1,by rw [setRow_other w _ _ _ hqg];exact h3,h4,h5,h6,fun j v hj=>?_⟩
    obtain ⟨c,e1,e2⟩:=h7 j v hj;exact ⟨c,e1,e2.gr kg⟩
  ·have:=hg.1;omega
 have gw:Gw C R0 R w0 (w.setRow g cs'):=by
  have g0:=h.sw.gw;refine ⟨g0.os,g0.tape,g0.output,by rw [size_setRow];exact g0.size,g0.rows,fun q hq hn hpc=>?_,fun q hq cs1 T1 fz1 e=>?_⟩
  ·rw [setRow_other w _ _ _ fun e=>hn ((g0.rows q hq).1 (by rw [e];exact hR))]
   exact g0.keep q hq hn hpc
  ·obtain ⟨cs2,fz2,e1,e2⟩:=g0.row q hq cs1 T1 fz1 e;have hRq:R q:=(g0.rows q (zcj e)).2 hq;obtain ⟨cs3,fz3,e3,e4⟩:=kg.row q hRq cs2 T1 fz2 e1;exact ⟨cs3,fz3,e3,e4.trans e2⟩
 refine ⟨⟨fun σ' bp' q1 q2=>?_,hp,gw,h.sw.own,h.sw.inj,h.sw.df,h.sw.r0⟩,kg⟩
 have st:=h.st σ' bp' q1 q2;refine ⟨st.tm.gr kg fun _=>rfl,st.bx.gr kg (fun _=>rfl) fun i _ hi=>setRow_other w _ _ _ fun e=>?_,st.fs⟩
 rw [Nat.zero_add] at hi;rw [q2 i hi] at e;exact (h.sw.own i hi).2.1 (by rw [e];exact hR)
theorem fr_row {g:Nat} {cs':Array Value} (hR:R g) (kg:Gr R R w (w.setRow g cs')):Fr C R R bp tg w (w.setRow g cs') :=
 ⟨by rw [size_setRow];exact Nat.le_refl _,kg,fun _ _=>Iff.rfl,fun q _ hn _ _=>setRow_other w _ _ _ fun e=>hn (by rw [e];exact hR)⟩
theorem lay_row {T:Nat} {cs:Array Value} {vs:List Value} {q o:Nat} (h0:0 < sz C T) (hold:∀ (j:Nat) (v:Value),cs[j]?=some v->∃ c,nth (rks C T) (j % sz C T)=some c/\CkOk C R w c v) (hv:∀ (j:Nat) (c:Ck) (v:Value),(cut (rks C T) o vs.length)[j]?=some c->vs[j]?=some v->CkOk C R w c v) (ho:o+vs.length<=sz C T) (hr:(rks C T).length=sz C T) (hl:q * sz C T+o+vs.length<=cs.size) :
  ∀ (j:Nat) (v:Value),(cs.toList.take (q * sz C T+o)++vs++cs.toList.drop (q * sz C T+o+vs.length)).toArray[j]?=some v->∃ c,nth (rks C T) (j % sz C T)=some c/\CkOk C R w c v:=by
 intro j v hj;rw [List.getElem?_toArray] at hj;have hlt:(cs.toList.take (q * sz C T+o)).length=q * sz C T+o:=by rw [List.length_take,Array.length_toList];omega
 by_cases h1:j < q * sz C T+o
 ·rw [List.getElem?_append_left (by rw [List.length_append,hlt];omega),List.getElem?_append_left (by rw [hlt];exact h1),List.getElem?_take,if_pos h1,Array.getElem?_toList] at hj
  exact hold j v hj
 ·by_cases h2:j < q * sz C T+o+vs.length
  ·rw [List.getElem?_append_left (by rw [List.length_append,hlt];omega),List.getElem?_append_right (by rw [hlt];omega),hlt] at hj
   have hm:j % sz C T=o+(j - (q * sz C T+o)):=by
    have e:j=q * sz C T+(o+(j - (q * sz C T+o))):=by omega
    rw [e,Nat.mul_comm,Nat.mul_add_mod,Nat.mod_eq_of_lt (by rw [Nat.mul_comm];omega)]
    rw [Nat.mul_comm];omega
   have hj2:j - (q * sz C T+o) < vs.length:=by omega
   have hc:(cut (rks C T) o vs.length)[j - (q * sz C T+o)]?=(rks C T)[o+(j - (q * sz C T+o))]?:=by
    unfold cut;rw [List.getElem?_take,if_pos hj2,List.getElem?_drop]
   rw [hm,zbv];have hin:o+(j - (q * sz C T+o)) < (rks C T).length:=by omega
   refine ⟨(rks C T)[o+(j - (q * sz C T+o))],by simp,hv _ _ v ?_ hj⟩
   rw [hc]
   simp
  ·rw [List.getElem?_append_right (by rw [List.length_append,hlt];omega),List.length_append,hlt,List.getElem?_drop] at hj
   have e:q * sz C T+o+vs.length+(j - (q * sz C T+o+vs.length))=j:=by omega
   rw [e,Array.getElem?_toList] at hj;exact hold j v hj
theorem op_store_row (hG:Good C E) (hB:C.B<=w0.heap.size) (h:Stt C w0 R0 σ bp R s a w) (hW:Lits s.n σ W) {t:Nat} {x y:Operand} (hop:o.op = .store t x y) {U p:Nat} (hv:ev1 W s x=some (.row U p)) (hx:opx E W s o.op=some (ov,s')):Does C.P ((execOp a.eval o).run C.P w) (Outs C w0 R0 R w (tgt W s o.op) σ bp s s' a ov):=by
 rw [hop] at hx;simp only [opx,Option.bind_eq_some_iff] at hx;obtain ⟨T,hT,l,hl,hx⟩:=hx;have ok:=hG.of hT;rw [hv] at hx;cases hlen:Nat.beq l.length T.cells.length <;> rw [hlen] at hx
 ·cases hx
 ·simp only [cond_true,Option.bind_eq_some_iff] at hx;obtain ⟨V,hV,hx⟩:=hx;cases hf:fitL (dz E) s l (cut V.rk p T.cells.length) <;> rw [hf] at hx
  ·cases hx
  cases hx;have hlen:=Nat.eq_of_beq_eq_true hlen;obtain ⟨er,es⟩:=rks_of hG hV;obtain ⟨f1,f2,f3,f4⟩:=fits_ok h.here (hW σ (zaa _ _)) hl hf;obtain ⟨g,k,ep,hr⟩:=zau h.here (hW σ (zaa _ _)) hv;obtain ⟨hR,cs,fz,e1,e2⟩:=hr;obtain ⟨_,_,cs',T',fz',e3,h0,hfz,_,hc⟩:=h.sw.hp.rows g hR;rw [e1] at e3;simp only [Option.some.injEq,Obj.cells.injEq] at e3;obtain ⟨rfl,rfl,rfl⟩:=e3;have hcl:(cut V.rk p T.cells.length).length=T.cells.length:=by rw [<-f3,hlen]
  have hn:p+T.cells.length<=sz C U:=by
   have hc0:=ok.rk.2;unfold cut at hcl;rw [List.length_take,List.length_drop] at hcl;rw [es];omega
  have hmul:(k+1) * sz C U=k * sz C U+sz C U:=by rw [Nat.add_mul,Nat.one_mul]
  have hst:=run_storeAt (w:=w) (g:=g) (p:=k * sz C U+p) (n:=T.cells.length) ok.size (v:=a.eval y) (by rw [<-Array.length_toList];omega) e1 hfz (by omega) f4
  have run:(execOp a.eval o).run C.P w = .ok .skip (w.setRow g (cs.toList.take (k * sz C U+p)++(a.eval y).cells.toList++cs.toList.drop (k * sz C U+p+(a.eval y).cells.toList.length)).toArray):=by
   simp only [execOp,hop,ep,Sem.run_bind,hst,Result.andThen_ok,Sem.run_pure]
  rw [run];have hle:k * sz C U+p+(a.eval y).cells.toList.length<=cs.size:=by omega
  obtain ⟨st,kg⟩:=row_turn hG hB h hR e1 (cs':=(cs.toList.take (k * sz C U+p)++(a.eval y).cells.toList++cs.toList.drop (k * sz C U+p+(a.eval y).cells.toList.length)).toArray) (by rw [List.size_toArray,List.length_append,List.length_append,List.length_take,List.length_drop,Array.length_toList];omega) (lay_row h0 hc (by rw [er,f2,hcl];exact f1) (by omega) (by rw [er,es]) (by omega))
  exact ⟨σ,bp,R,zaa _ _,Nat.le_refl _,zai _ _,Nat.le_refl _,st,fun y hy=>(by cases hy),fr_row hR kg⟩
end
end Go.Proofs.YtckfjploafhenaaGreat.Ai
namespace Go.Proofs.YtckfjploafhenaaGreat.Ai
open Go.RowKit
section
variable {C:Cx} {E:Env} {w0:World} {R0:Nat->Prop} {σ:Nat->Int} {bp:Nat->Nat} {R:Nat->Prop} {s s':AS} {a:Act} {w w':World} {W:List (BE×Bool)} {o:Oper} {ov:Option AV} {tg:Option Nat}
theorem run_bound {P:Program} {k:IntKind} {i:Int} {y:Nat} {code:BoundsCode} (h0:0<=i) (h1:i<=y):(Instr.sliceBound (.int k i) y code).run P w = .ok i.toNat w:=by
 simp only [Instr.sliceBound,Sem.run_bind,asIntOf,Sem.run_pure,Result.andThen_ok,h0,h1,and_self,if_true]
def Bd (v:Option Value) (d:Nat) (n:Int):Prop:=match v with
 | none=>n=(d:Int)
 | some v=>∃ k,v = .int k n
theorem run_bounds {P:Program} {sl:Bool} {m c:Nat} {lo hi:Option Value} {l h:Int} (hl:Bd lo 0 l) (hh:Bd hi m h) (h0:0<=l) (h1:l<=h) (h2:h<=m) (h3:m<=c):(Instr.sliceBounds sl m c lo hi none).run P w = .ok (l.toNat,h.toNat,c) w:=by
 cases lo with
 | none =>
  have hl:l=0:=hl;subst hl;cases hi with
  | none =>
   have hh:h=(m:Int):=hh;subst hh;simp [Instr.sliceBounds,Sem.run]
  | some v =>
   obtain ⟨k,rfl⟩:=hh;simp only [Instr.sliceBounds,Sem.run_bind,Sem.run_pure,Result.andThen_ok,run_bound (w:=w) (P:=P) h1 (show h<=(c:Int) by omega)]
   rfl
 | some u =>
  obtain ⟨k,rfl⟩:=hl;cases hi with
  | none =>
   have hh:h=(m:Int):=hh;subst hh;simp only [Instr.sliceBounds,Sem.run_bind,Sem.run_pure,Result.andThen_ok,run_bound (w:=w) (P:=P) h0 h1]
   simp
  | some v =>
   obtain ⟨k',rfl⟩:=hh;have e:((h.toNat:Nat):Int)=h:=by omega
   simp only [Instr.sliceBounds,Sem.run_bind,Sem.run_pure,Result.andThen_ok,run_bound (w:=w) (P:=P) (show 0<=h by omega) (show h<=(c:Int) by omega),run_bound (w:=w) (P:=P) h0 (show l<=((h.toNat:Nat):Int) by omega)]
theorem bd_lo (h:St C w0 σ bp R s a w) (hW:∀ x∈W,x.1.ev σ=x.2) {lo:Option Operand} {l:Lin} (he:(match lo with | none=>some (cst 0) | some o=>(evN W s o).map (fun (p:IntKind×Lin)=>p.2))=some l):Bd (lo.map a.eval) 0 (l.ev σ):=by
 cases lo with
 | none=>cases he;exact zc4 σ 0
 | some x =>
  simp only [Option.map_eq_some_iff] at he;obtain ⟨⟨k,e⟩,h1,h2⟩:=he;cases h2;exact ⟨k,(evN_sound h hW h1).1⟩
theorem bd_hi (h:St C w0 σ bp R s a w) (hW:∀ x∈W,x.1.ev σ=x.2) {hi:Option Operand} {e l:Lin} {m:Nat} (hm:e.ev σ=m) (he:(match hi with | none=>some e | some o=>(evN W s o).map (fun (p:IntKind×Lin)=>p.2))=some l):Bd (hi.map a.eval) m (l.ev σ):=by
 cases hi with
 | none=>cases he;exact hm
 | some x =>
  simp only [Option.map_eq_some_iff] at he;obtain ⟨⟨k,e⟩,h1,h2⟩:=he;cases h2;exact ⟨k,(evN_sound h hW h1).1⟩
theorem op_slice (hG:Good C E) (h:Stt C w0 R0 σ bp R s a w) (hW:Lits s.n σ W) {t:Nat} {x:Operand} {lo hi:Option Operand} (hop:o.op = .slice t x lo hi none) (hx:opx E W s o.op=some (ov,s')):Does C.P ((execOp a.eval o).run C.P w) (Outs C w0 R0 R w (tgt W s o.op) σ bp s s' a ov):=by
 rw [hop] at hx;simp only [opx] at hx;have h0:=h.here;have hW0:=hW σ (zaa _ _);split at hx
 ·rename_i T e l hv hl;split at hx
  ·rename_i hh hhi;cases hc:(slT E t T && ent s.fa (dz E) l && ent s.fa (dz E) (hh.sub l) && ent s.fa (dz E) (e.sub hh)) <;> rw [hc] at hx
   ·cases hx
   ·cases hx;simp only [Bool.and_eq_true] at hc;obtain ⟨⟨⟨c1,c2⟩,c3⟩,c4⟩:=hc;obtain ⟨u1,u2,u3,_⟩:=slT_ok hG c1;have e2:=ents h c2 σ (zaa _ _);have e3:=ents h c3 σ (zaa _ _);have e4:=ents h c4 σ (zaa _ _);rw [zd0] at e3 e4;obtain ⟨b,m,c,x1,x2,x3,x4,x5⟩:=zau h0 hW0 hv;have hb:=run_bounds (P:=C.P) (w:=w) (sl:=true) (m:=m) (c:=c) (bd_lo h0 hW0 hl) (bd_hi h0 hW0 x2 hhi) e2 (by omega) (by omega) x4
    have run:(execOp a.eval o).run C.P w = .ok (.value (.slice (if c=(l.ev σ).toNat then b else b.map (·.add ((l.ev σ).toNat * sz C T))) ((hh.ev σ).toNat - (l.ev σ).toNat) (c - (l.ev σ).toNat))) w:=by
     simp only [execOp,hop,x1,Option.map_none,Instr.sliceAt,Instr.slice,Sem.run_bind,run_underlying u1,Result.andThen_ok,hb,zdb u2,Sem.run_pure]
    rw [run];refine zbd h fun σ' bp' q1 q2=>?_
    have st:=h.st σ' bp' q1 q2;have l2:=bd_lo st (hW σ' q1) hl;obtain ⟨b',m',c',y1,y2,_⟩:=zau st (hW σ' q1) hv;rw [x1] at y1;simp only [Value.slice.injEq] at y1;have h2:=bd_hi st (hW σ' q1) (m:=m) (by rw [y2,y1.2.1]) hhi
    have eql:l.ev σ'=l.ev σ:=by
     have l1:=bd_lo h0 hW0 hl;cases hlo:lo.map a.eval with
     | none=>rw [hlo] at l1 l2;exact (show _=_ from l2).trans (show _=_ from l1).symm
     | some v =>
      rw [hlo] at l1 l2;obtain ⟨k1,r1⟩:=l1;obtain ⟨k2,r2⟩:=l2;rw [r1] at r2;simp only [Value.int.injEq] at r2;exact r2.2.symm
    have eqh:hh.ev σ'=hh.ev σ:=by
     have h1:=bd_hi h0 hW0 x2 hhi;cases hhi':hi.map a.eval with
     | none=>rw [hhi'] at h1 h2;exact (show _=_ from h2).trans (show _=_ from h1).symm
     | some v =>
      rw [hhi'] at h1 h2;obtain ⟨k1,r1⟩:=h1;obtain ⟨k2,r2⟩:=h2;rw [r1] at r2;simp only [Value.int.injEq] at r2;exact r2.2.symm
    refine ⟨_,_,_,rfl,by rw [zd0,eql,eqh];omega,by omega,by omega, ?_⟩
    rcases x5 with ⟨rfl,rfl⟩ | ⟨g,k,rfl,hr⟩
    ·left;refine ⟨?_,by omega⟩
     split <;> rfl
    ·right;by_cases hcl:c=(l.ev σ).toNat
     ·rw [if_pos hcl];obtain ⟨r1,cs,fz,r2,r3⟩:=hr;refine ⟨g,k,rfl,r1,cs,fz,r2,Nat.le_trans (Nat.mul_le_mul_right _ ?_) r3⟩;omega
     ·rw [if_neg hcl];obtain ⟨r1,cs,fz,r2,r3⟩:=hr;refine ⟨g,k+(l.ev σ).toNat, ?_,r1,cs,fz,r2,Nat.le_trans (Nat.mul_le_mul_right _ ?_) r3⟩
      ·simp only [Option.map_some,Option.some.injEq,Nat.add_mul];unfold Addr.add;split <;> simp_all
      ·omega
  ·cases hx
 ·cases hx
end
end Go.Proofs.YtckfjploafhenaaGreat.Ai
namespace Go.Proofs.YtckfjploafhenaaGreat.Ai
open Go.RowKit
theorem fold_lay:∀ (v:List Value) (k off:Nat) (cs:Array Value),off+k+v.length<=cs.size->((v.zipIdx k).foldl (fun (cs:Array Value) (p:Value×Nat)=>cs.setIfInBounds (off+p.2) p.1) cs).toList=lay cs.toList (off+k) v
 | [],k,off,cs,_=>rfl
 | x::v,k,off,cs,h=>by
  simp only [List.length_cons] at h;rw [List.zipIdx_cons,List.foldl_cons,fold_lay v (k+1) off _ (by rw [Array.size_setIfInBounds];omega)]
  show _=lay (setN cs.toList (off+k) x) (off+k+1) v;rw [zij];simp only [Array.toList_setIfInBounds];rfl
section
variable {C:Cx} {E:Env} {w0:World} {R0:Nat->Prop} {σ:Nat->Int} {bp:Nat->Nat} {R:Nat->Prop} {s s':AS} {a:Act} {w w':World} {W:List (BE×Bool)} {o:Oper} {ov:Option AV} {tg:Option Nat}
theorem LsOk.lay {σ':Nat->Int} {bp':Nat->Nat} {l m:List At} {us vs:List Value} {p:Nat} (h:LsOk C σ' bp' R w l us) (k:LsOk C σ' bp' R w m vs) (hl:p+m.length<=l.length):LsOk C σ' bp' R w (Ai.lay l p m) (Ai.lay us p vs):=by
 have e1:=zc8 h;have e2:=zc8 k;rw [lay_eq _ _ _ hl,lay_eq _ _ _ (by omega),e2]
 exact ((h.take p).append k).append (h.drop _)
theorem fill_ok {σ':Nat->Int} {bp':Nat->Nat} (h:St C w0 σ' bp' R s a w) (hW:∀ x∈W,x.1.ev σ'=x.2) {fl:List (Nat×Nat)} {ck:List Ck}:∀ {ps:List (Nat×Operand)} {z m:List At} {cells:Array Value},parts W s fl ck z ps=some m->LsOk C σ' bp' R w z cells.toList ->
  ∃ r:Array Value,Instr.fill (fl.toArray[·]?) cells (ps.map fun p=>(p.1,a.eval p.2))=some r/\LsOk C σ' bp' R w m r.toList
 | [],z,m,cells,hp,hz=>by cases hp;exact ⟨cells,rfl,hz⟩
 | (i,x)::ps,z,m,cells,hp,hz=>by
  simp only [parts] at hp;split at hp
  ·rename_i off n l hn hl;cases hc:(Nat.beq l.length n && Nat.ble (off+n) z.length) <;> rw [hc] at hp
   ·cases hp
   ·simp only [cond_true] at hp;rw [Bool.and_eq_true] at hc;have c1:=Nat.eq_of_beq_eq_true hc.1;have c2:=Nat.le_of_ble_eq_true hc.2;split at hp
    ·rename_i y hy;obtain ⟨i1,i2,i3,i4⟩:=into_ok h hW hl hy;have e1:=zc8 i1;have e2:=zc8 hz;have hfl:fl.toArray[i]?=some (off,n):=by rw [List.getElem?_toArray,<-zbv];exact hn
     have hsz:(a.eval x).cells.size=n:=by rw [<-Array.length_toList];omega
     have hin:off+n<=cells.size:=by rw [<-Array.length_toList];omega
     have hlay:=hz.lay i1 (p:=off) (by omega)
     have hfold:=fold_lay (a.eval x).cells.toList 0 off cells (by rw [Array.length_toList];omega)
     obtain ⟨r,f1,f2⟩:=fill_ok h hW (cells:=((a.eval x).cells.toList.zipIdx 0).foldl (fun (cs:Array Value) (p:Value×Nat)=>cs.setIfInBounds (off+p.2) p.1) cells) hp (by rw [hfold];exact hlay)
     refine ⟨r, ?_,f2⟩;simp only [List.map_cons,Instr.fill,hfl,hsz,ne_eq,not_true_eq_false,false_or,show ¬ (off+n > cells.size) by omega,if_false]
     rw [<-f1,<-Array.foldl_toList,Array.toList_zipIdx]
     simp
    ·cases hp
  ·cases hp
theorem op_build (hG:Good C E) (h:Stt C w0 R0 σ bp R s a w) (hW:Lits s.n σ W) {t:Nat} {ps:Array (Nat×Operand)} (hop:o.op = .build t ps) (hx:opx E W s o.op=some (ov,s')):Does C.P ((execOp a.eval o).run C.P w) (Outs C w0 R0 R w (tgt W s o.op) σ bp s s' a ov):=by
 rw [hop] at hx;simp only [opx,Option.bind_eq_some_iff] at hx;obtain ⟨T,hT,hx⟩:=hx;have ok:=hG.of hT;cases ha:T.agg <;> rw [ha] at hx
 ·cases hx
 ·simp only [Bool.not_true,cond_false,Option.map_eq_some_iff] at hx;obtain ⟨m,hm,hx⟩:=hx;cases hx;obtain ⟨fs,u1,u2⟩:=ok.pls ha;obtain ⟨z,z1,z2⟩:=ok.zero;have key:=fun σ' bp' (q1:Agr s.n σ' σ) (q2:Agb s.bx.length bp' bp)=>fill_ok (h.st σ' bp' q1 q2) (hW σ' q1) (cells:=(T.cells.map zeroV).toArray) hm (zero_ok ok.zr)
  obtain ⟨r,r1,r2⟩:=key σ bp (zaa _ _) (zai _ _)
  have run:(execOp a.eval o).run C.P w = .ok (.value (.agg r)) w:=by
   simp only [execOp,hop,Instr.build,Sem.run_bind,run_zero z1,Result.andThen_ok,run_underlying u1,u2 w,z2];rw [show (ps.map fun x=>(x.1,a.eval x.2)).toList=ps.toList.map fun p=>(p.1,a.eval p.2) by simp]
   rw [r1];rfl
  rw [run];refine zbd h fun σ' bp' q1 q2=>?_
  obtain ⟨r',f1,f2⟩:=key σ' bp' q1 q2;rw [r1] at f1;cases f1;exact ⟨r,rfl,f2⟩
end
end Go.Proofs.YtckfjploafhenaaGreat.Ai
namespace Go.Proofs.YtckfjploafhenaaGreat.Ai
open Go.RowKit
section
variable {C:Cx} {E:Env} {w0:World} {R0:Nat->Prop} {σ:Nat->Int} {bp:Nat->Nat} {R:Nat->Prop} {s s':AS} {a:Act} {w w':World} {W:List (BE×Bool)} {o:Oper} {ov:Option AV} {tg:Option Nat}
structure New (w w':World) (ob:Obj):Prop where
 os:w'.os=w.os
 tape:w'.tape=w.tape
 output:w'.output=w.output
 heap:w'.heap=w.heap.push ob
theorem New.old {ob:Obj} (k:New w w' ob) {g:Nat} (hg:g < w.heap.size):w'.heap[g]?=w.heap[g]?:=by rw [k.heap,Array.getElem?_push,if_neg (by omega)]
theorem New.at {ob:Obj} (k:New w w' ob):w'.heap[w.heap.size]?=some ob:=by rw [k.heap];simp
theorem New.size {ob:Obj} (k:New w w' ob):w'.heap.size=w.heap.size+1:=by rw [k.heap,Array.size_push]
def more (R:Nat->Prop) (n:Nat):Nat->Prop:=fun g=>R g\/g=n
theorem box_lt (h:Stt C w0 R0 σ bp R s a w) {i:Nat} (hi:i < s.bx.length):bp i < w.heap.size:=by
 have hb:=h.here.bx.nth (i:=i) (c:=s.bx[i]) (by rw [zbv];simp [hi])
 obtain ⟨_,e,_⟩:=hb;rw [Nat.zero_add] at e;exact zcj e
theorem newrow_stt (hG:Good C E) (hB:C.B<=w0.heap.size) (h:Stt C w0 R0 σ bp R s a w) {T n:Nat} {arr:Array Value} {fz:Nat×Nat} (k:New w w' (.cells arr T fz)) (h0:0 < sz C T) (hf:fz=(0,0)\/arr.size<=fz.1) (hn:arr.size=n * sz C T) (hN:n<=9223372036854775807)
  (hc:∀ (j:Nat) (v:Value),arr[j]?=some v->∃ c,nth (rks C T) (j % sz C T)=some c/\CkOk C R w c v) :
  Stt C w0 R0 σ bp (more R w.heap.size) s a w'/\Gr R (more R w.heap.size) w w'/\RowAt (more R w.heap.size) w' T w.heap.size (n * sz C T):=by
 have hp:=h.sw.hp;have kg:Gr R (more R w.heap.size) w w':=⟨fun g hg => .inl hg,fun g hg cs T1 fz1 e=>⟨cs,fz1,by rw [k.old (hp.lt hg)];exact e,rfl⟩⟩
 have hp':Hp C (more R w.heap.size) w':=by
  refine ⟨fun g hg=>?_,hG.cur w w' hp.cur (k.old hp.pc) (fun g hg=>k.old (Nat.lt_of_lt_of_le hg hp.B)),by rw [k.size];have:=hp.pc;omega,by rw [k.size];have:=hp.B;omega⟩
  rcases hg with hg | rfl
  ·obtain ⟨h1,h2,cs,T1,fz1,h3,h4,h5,h6,h7⟩:=hp.rows g hg;refine ⟨h1,h2,cs,T1,fz1,by rw [k.old (hp.lt hg)];exact h3,h4,h5,h6,fun j v hj=>?_⟩
   obtain ⟨c,e1,e2⟩:=h7 j v hj;exact ⟨c,e1,e2.gr kg⟩
  ·refine ⟨hp.B,by have:=hp.pc;omega,arr,T,fz,k.at,h0,hf,⟨n,hN,hn⟩,fun j v hj=>?_⟩
   obtain ⟨c,e1,e2⟩:=hc j v hj;exact ⟨c,e1,e2.gr kg⟩
 have g0:=h.sw.gw
 have gw:Gw C R0 (more R w.heap.size) w0 w':=by
  refine ⟨k.os.trans g0.os,k.tape.trans g0.tape,k.output.trans g0.output,by rw [k.size];have:=g0.size;omega,fun g hg=>?_,fun g hg hn hpc=>?_,fun g hg cs T1 fz1 e=>?_⟩
  ·have:=g0.size
   constructor
   ·rintro (hr | rfl)
    ·exact (g0.rows g hg).1 hr
    ·omega
   ·intro hr;exact .inl ((g0.rows g hg).2 hr)
  ·rw [k.old (Nat.lt_of_lt_of_le hg g0.size)];exact g0.keep g hg hn hpc
  ·obtain ⟨cs',fz',e1,e2⟩:=g0.row g hg cs T1 fz1 e;exact ⟨cs',fz',by rw [k.old (zcj e1)];exact e1,e2⟩
 refine ⟨⟨fun σ' bp' q1 q2=>?_,⟨hp',gw,fun i hi=>?_,h.sw.inj,h.sw.df,h.sw.r0⟩⟩,kg, .inr rfl,arr,fz,k.at,by rw [hn];exact Nat.le_refl _⟩
 ·have st:=h.st σ' bp' q1 q2;refine ⟨st.tm.gr kg fun _=>rfl,st.bx.gr kg (fun _=>rfl) fun i _ hi=>k.old ?_,st.fs⟩
  rw [Nat.zero_add] at hi;rw [q2 i hi];exact box_lt h hi
 ·obtain ⟨o1,o2,o3⟩:=h.sw.own i hi;refine ⟨o1, ?_,o3⟩;rintro (hr | e)
  ·exact o2 hr
  ·have:=box_lt h hi;omega
theorem newsl_out (hG:Good C E) (hB:C.B<=w0.heap.size) (h:Stt C w0 R0 σ bp R s a w) {T n m:Nat} {arr:Array Value} {fz:Nat×Nat} (k:New w w' (.cells arr T fz)) (h0:0 < sz C T) (hf:fz=(0,0)\/arr.size<=fz.1) (hn:arr.size=n * sz C T) (hN:n<=9223372036854775807)
  (hc:∀ (j:Nat) (v:Value),arr[j]?=some v->∃ c,nth (rks C T) (j % sz C T)=some c/\CkOk C R w c v) {e:Lin} (hm:m<=n) (he:∀ σ',Agr s.n σ' σ->e.ev σ'=m) (hl:(m:Int)<=LIM) :
  Outs C w0 R0 R w tg σ bp s s a (some (one (.sl T e))) (.slice (some ⟨w.heap.size,0,none⟩) m n) w':=by
 obtain ⟨st,kg,hr⟩:=newrow_stt hG hB h k h0 hf hn hN hc;refine ⟨σ,bp,more R w.heap.size,zaa _ _,Nat.le_refl _,zai _ _,Nat.le_refl _,st,fun y hy σ' bp' q1 q2=>?_,⟨by rw [k.size];omega,kg,fun g hg=>⟨fun hr=>hr.resolve_right (by omega), .inl⟩,fun g hg _ _ _=>k.old hg⟩⟩
 cases hy;refine ⟨_,m,n,rfl,he σ' q1,hl,hm, .inr ⟨w.heap.size,0,by rw [Nat.zero_mul], ?_⟩⟩
 rw [Nat.zero_add];exact hr
theorem zeros_ok (hf:∀ f∈s.fa,0<=f.ev σ) {d:Nat} {cs rk:List Ck} (hz:∀ c∈cs,∀ k lo hi,c = .int k lo hi->(nat8 k).1<=0/\0<=(nat8 k).2) (e:fitL d s (cs.map zeroC) rk=true):∀ (j:Nat) (c:Ck) (v:Value),rk[j]?=some c->(cs.map zeroV)[j]?=some v->CkOk C R w c v :=
 (fitL_ok (C:=C) (w:=w) (bp':=fun _=>0) hf (zero_ok hz) e).1
end
end Go.Proofs.YtckfjploafhenaaGreat.Ai
