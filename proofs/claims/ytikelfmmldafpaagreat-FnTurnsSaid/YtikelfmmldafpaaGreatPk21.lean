/- The interpreter's operations are sound, one after the other: values, reads, numbers. -/
import Derived.Test.YtikelfmmldafpaaGreatPk20
namespace Go.Proofs.YtikelfmmldafpaaGreat.Ai
open Go.RowKit
set_option linter.unusedVariables false
set_option linter.unusedSimpArgs false
structure Good (C:Cx) (E:Env):Prop where
 tb:∀ t T,look t E.tb=some T→look t C.tb=some T
 cur:∀ w w':World,C.Cur w→w'.heap[C.pc]?=w.heap[C.pc]?→(∀ g,g < C.B→w'.heap[g]?=w.heap[g]?)→C.Cur w'
 ty:∀ t T,look t C.tb=some T→TyOk C.P t T
 eq:∀ t,mem t E.eq=true→∀ T,look t C.tb=some T→∀ (w:World) (l r:List Int),l.length=T.cells.length→r.length=T.cells.length→∀ (x y:Operand),∃ b:Bool,
  (eqGuard .eql t x y (.agg (l.map (Value.int .i64)).toArray) (.agg (r.map (Value.int .i64)).toArray)).run C.P w = .ok () w∧(eqGuard .neq t x y (.agg (l.map (Value.int .i64)).toArray) (.agg (r.map (Value.int .i64)).toArray)).run C.P w = .ok () w ∧
  (Op.equal t (.agg (l.map (Value.int .i64)).toArray) (.agg (r.map (Value.int .i64)).toArray)).run C.P w = .ok b w
theorem Good.of {C:Cx} {E:Env} (h:Good C E) {t:Nat} {T:Ty} (e:look t E.tb=some T):TyOk C.P t T:=h.ty t T (h.tb t T e)
section
variable {P:Program} {w:World}
theorem run_info {t:TypeId} {i:TypeInfo} (h:P.info? t=some i):(typeInfo t).run P w = .ok i w:=by
 simp only [typeInfo,program,bind,Sem.bind,Sem.run,h,pure]
theorem run_sizeOf {t:TypeId} {n:Nat} (h:(P.info? t).map (·.size)=some n):(sizeOf t).run P w = .ok n w:=by
 cases hq:P.info? t with
 | none=>simp [hq] at h
 | some i =>
  have:i.size=n:=by simpa [hq] using h
  simp only [sizeOf,Sem.run_bind,run_info hq,Result.andThen_ok,Sem.run_pure,this]
theorem run_fieldAt {t f:Nat} {fs:Array Field} {fd:Field} {n:Nat} (hu:P.underlying t=some (.struct fs)) (hf:fs[f]?=some fd) (hs:(P.info? fd.type).map (·.size)=some n) (hn:n≠0) (g o:Nat) :
  (Instr.fieldAt t (.pointer (some ⟨g,o,none⟩)) f).run P w = .ok (.pointer (some ⟨g,o+fd.offset,none⟩)) w:=by
 have ha:(⟨g,o,none⟩:Addr).add fd.offset=⟨g,o+fd.offset,none⟩:=by unfold Addr.add;split <;> simp_all
 simp only [Instr.fieldAt,Sem.run_bind,run_underlying hu,Result.andThen_ok,hf,Instr.sureAddr,Sem.run_pure,fieldPlace,run_sizeOf hs,if_neg hn,ha]
end
section
variable {C:Cx} {E:Env} {w0:World} {R0:Nat→Prop} {σ:Nat→Int} {bp:Nat→Nat} {R:Nat→Prop} {s s':AS} {a:Act} {w:World} {W:List (BE×Bool)} {o:Oper} {ov:Option AV} {tg:Option Nat}
abbrev Lits (n:Nat) (σ:Nat→Int) (W:List (BE×Bool)):Prop:=∀ σ',Agr n σ' σ→∀ x∈W,x.1.ev σ'=x.2
theorem op_move (h:Stt C w0 R0 σ bp R s a w) (hW:Lits s.n σ W) {x:Operand} (hop:o.op = .move x) (hx:opx E W s o.op=some (ov,s')):Does C.P ((execOp a.eval o).run C.P w) (Outs C w0 R0 R w (tgt W s o.op) σ bp s s' a ov):=by
 rw [hop] at hx
 simp only [opx,Option.map_eq_some_iff] at hx
 obtain ⟨v,hv,e⟩:=hx
 cases e
 simp only [execOp,hop,Sem.run_pure,Does]
 exact out_pure h fun σ' bp' h1 h2=>evO_sound (h.st σ' bp' h1 h2) (hW σ' h1) hv
theorem op_assign (h:Stt C w0 R0 σ bp R s a w) (hW:Lits s.n σ W) {x:Operand} (hop:o.op = .assign x) (hx:opx E W s o.op=some (ov,s')):Does C.P ((execOp a.eval o).run C.P w) (Outs C w0 R0 R w (tgt W s o.op) σ bp s s' a ov):=by
 rw [hop] at hx
 simp only [opx,Option.map_eq_some_iff] at hx
 obtain ⟨v,hv,e⟩:=hx
 cases e
 simp only [execOp,hop,Sem.run_pure,Does]
 exact out_pure h fun σ' bp' h1 h2=>evO_sound (h.st σ' bp' h1 h2) (hW σ' h1) hv
theorem op_nilCheck (h:Stt C w0 R0 σ bp R s a w) (hW:Lits s.n σ W) {x:Operand} (hop:o.op = .nilCheck x) (hx:opx E W s o.op=some (ov,s')):Does C.P ((execOp a.eval o).run C.P w) (Outs C w0 R0 R w (tgt W s o.op) σ bp s s' a ov):=by
 rw [hop] at hx
 simp only [opx] at hx
 have key:∀ (v:At),ev1 W s x=some v→(∃ p,a.eval x = .pointer (some p))→ov=some (one v)→s'=s→Does C.P ((execOp a.eval o).run C.P w) (Outs C w0 R0 R w (tgt W s o.op) σ bp s s' a ov):=by
  rintro v hv ⟨p,hp⟩ rfl rfl
  have:(execOp a.eval o).run C.P w = .ok (.value (a.eval x)) w:=by simp only [execOp,hop,hp,Sem.run_pure]
  rw [this]
  exact out_pure h fun σ' bp' h1 h2=>ev1_sound (h.st σ' bp' h1 h2) (hW σ' h1) hv
 have h0:=h.here
 have w0:=hW σ (agr_refl _ _)
 split at hx
 ·rename_i b p hv
  cases hx
  have:=ev1_sound h0 w0 hv
  exact key _ hv ⟨_,this⟩ rfl rfl
 ·rename_i T p hv
  cases hx
  obtain ⟨g,k,e,_⟩:=ev1_sound h0 w0 hv
  exact key _ hv ⟨_,e⟩ rfl rfl
 ·rename_i hv
  cases hx
  have:=ev1_sound h0 w0 hv
  exact key _ hv ⟨_,this⟩ rfl rfl
 ·cases hx
theorem arm_sound (h:St C w0 σ bp R s a w) (hW:∀ x∈W,x.1.ev σ=x.2) {x:Operand} {v:AV} (hv:evO W s x=some v) {c:BE} {p:Bool} (hc:c.ev σ=p) {b:BE} (hb:arm W s v c p=some b):a.eval x = .bool (b.ev σ):=by
 have hx:=evO_sound h hW hv
 unfold arm at hb
 split at hb
 ·cases hb;exact hx
 ·exfalso
  obtain ⟨t,ht,_⟩:=h.fs.assume hc
  rw [ht] at hb
  cases hb
 ·rename_i g b'
  cases hi:impl (W++litA c p) g true <;> rw [hi] at hb
  ·cases hb
  ·cases hb
   refine hx.1 (impl_sound σ (fun y hy=>?_) g true hi)
   rcases List.mem_append.1 hy with hy | hy
   ·exact hW y hy
   ·exact litA_sound σ c p hc y hy
 ·cases hb
theorem op_pick (h:Stt C w0 R0 σ bp R s a w) (hW:Lits s.n σ W) {c x y:Operand} (hop:o.op = .pick c x y) (hx:opx E W s o.op=some (ov,s')):Does C.P ((execOp a.eval o).run C.P w) (Outs C w0 R0 R w (tgt W s o.op) σ bp s s' a ov):=by
 rw [hop] at hx
 simp only [opx] at hx
 split at hx
 ·rename_i cb u v hc hu hv
  have ec:∀ σ' bp',Agr s.n σ' σ→Agb s.bx.length bp' bp→a.eval c = .bool (cb.ev σ'):=fun σ' bp' h1 h2=>evB_sound (h.st σ' bp' h1 h2) (hW σ' h1) hc
  have ec0:=ec σ bp (agr_refl _ _) (agb_refl _ _)
  have run:(execOp a.eval o).run C.P w = .ok (.value (if cb.ev σ=true then a.eval x else a.eval y)) w:=by simp only [execOp,hop,asBool,ec0,Sem.run_bind,Sem.run_pure,Result.andThen_ok]
  rw [run]
  split at hx
  ·cases hx
   exact out_pure h fun σ' bp' h1 h2=>evO_sound (h.st σ' bp' h1 h2) (hW σ' h1) hu
  ·cases hx
   exact out_pure h fun σ' bp' h1 h2=>evO_sound (h.st σ' bp' h1 h2) (hW σ' h1) hv
  ·rename_i cb' _ _
   split at hx
   ·rename_i p q hp hq
    cases hx
    refine out_pure h fun σ' bp' h1 h2=>?_
    have e1:=ec σ' bp' h1 h2
    rw [ec0] at e1
    simp only [Value.bool.injEq] at e1
    have a1:=fun (hc:cb.ev σ'=true)=>arm_sound (h.st σ' bp' h1 h2) (hW σ' h1) hu hc hp
    have a2:=fun (hc:cb.ev σ'=false)=>arm_sound (h.st σ' bp' h1 h2) (hW σ' h1) hv hc hq
    show _=Value.bool _
    have e2:∀ r:BE,(r.ev σ'=if cb.ev σ'=true then p.ev σ' else q.ev σ')→(if cb.ev σ=true then a.eval x else a.eval y)=Value.bool (r.ev σ'):=by
     intro r hr
     rw [hr,e1]
     cases hcc:cb.ev σ'
     ·simp only [Bool.false_eq_true,if_false];exact a2 hcc
     ·simp only [if_true];exact a1 hcc
    apply e2
    split
    ·rw [bor_ev];cases cb.ev σ' <;> simp [BE.ev]
    ·rw [band_ev];cases cb.ev σ' <;> simp [BE.ev]
    ·rw [bor_ev,band_ev,band_ev,bnot_ev];cases cb.ev σ' <;> simp
   ·cases hx
 ·cases hx
theorem ptr_lt (h:Stt C w0 R0 σ bp R s a w) (hW:Lits s.n σ W) {x:Operand} {b p:Nat} (hv:ev1 W s x=some (.ptr b p)):b < s.bx.length:=by
 by_cases hb:b < s.bx.length
 ·exact hb
 ·exfalso
  have e1:a.eval x = .pointer (some ⟨bp b,p,none⟩):=ev1_sound h.here (hW σ (agr_refl _ _)) hv
  have e2:a.eval x = .pointer (some ⟨(fun i=>if i < s.bx.length then bp i else bp i+1) b,p,none⟩) :=
   ev1_sound (h.st σ (fun i=>if i < s.bx.length then bp i else bp i+1) (agr_refl _ _) (fun i hi=>if_pos hi)) (hW σ (agr_refl _ _)) hv
  rw [e1] at e2
  simp only [Value.pointer.injEq,Option.some.injEq,Addr.mk.injEq] at e2
  rw [if_neg hb] at e2
  omega
theorem op_fieldAddr (hG:Good C E) (h:Stt C w0 R0 σ bp R s a w) (hW:Lits s.n σ W) {t:Nat} {x:Operand} {f:Nat} (hop:o.op = .fieldAddr t x f) (hx:opx E W s o.op=some (ov,s')):Does C.P ((execOp a.eval o).run C.P w) (Outs C w0 R0 R w (tgt W s o.op) σ bp s s' a ov):=by
 rw [hop] at hx
 simp only [opx,Option.bind_eq_some_iff] at hx
 obtain ⟨T,hT,q,hq,hx⟩:=hx
 have ok:=hG.of hT
 have hagg:T.agg=true:=by
  cases ha:T.agg
  ·rw [ok.fl ha] at hq;cases hq
  ·rfl
 obtain ⟨fs,hu,hfs⟩:=ok.st hagg
 obtain ⟨fd,e1,e2,e3,e4,_⟩:=hfs f q hq
 have run:∀ g p,a.eval x = .pointer (some ⟨g,p,none⟩)→(execOp a.eval o).run C.P w = .ok (.value (.pointer (some ⟨g,p+q.1,none⟩))) w:=by
  intro g p he
  simp only [execOp,hop,he,Sem.run_bind,run_fieldAt hu e1 e3 e4,Result.andThen_ok,Sem.run_pure,e2]
 have h0:=h.here
 have w0:=hW σ (agr_refl _ _)
 split at hx
 ·rename_i b p hv
  cases hx
  have hb:=ptr_lt h hW hv
  rw [run _ _ (ev1_sound h0 w0 hv)]
  refine out_pure h fun σ' bp' h1 h2=>?_
  show _=Value.pointer (some ⟨bp' b,p+q.1,none⟩)
  rw [h2 b hb]
 ·rename_i U p hv
  cases hx
  obtain ⟨g,k,e,hr⟩:=ev1_sound h0 w0 hv
  rw [run _ _ e]
  refine out_pure h fun σ' bp' h1 h2=>⟨g,k, ?_,hr⟩
  rw [Nat.add_assoc]
 ·cases hx
end
end Go.Proofs.YtikelfmmldafpaaGreat.Ai
namespace Go.Proofs.YtikelfmmldafpaaGreat.Ai
open Go.RowKit
set_option linter.unusedVariables false
set_option linter.unusedSimpArgs false
section
variable {P:Program} {w:World}
theorem run_loadAt {t:Nat} {T:Ty} (ok:TyOk P t T) {g o:Nat} {vs:List Value} (hl:vs.length=T.cells.length) (hc:∀ (j:Nat) (v:Value),vs[j]?=some v→w.cell? ⟨g,o+j,none⟩=some v) :
  ∃ v,(Instr.loadAt t (.pointer (some ⟨g,o,none⟩))).run P w = .ok v w∧((T.agg=true∧v = .agg vs.toArray)∨(T.agg=false∧vs=[v])):=by
 cases ha:T.agg
 ·obtain ⟨c,d,e1,hu,hr,_⟩:=ok.pl ha
  rw [e1] at hl
  match vs,hl with
  | [v],_ =>
   refine ⟨v, ?_, .inr ⟨rfl,rfl⟩⟩
   have h0:w.cell? ⟨g,o,none⟩=some v:=hc 0 v rfl
   have hagg:(isAgg t).run P w = .ok false w:=by
    unfold isAgg
    rw [Sem.run_bind,run_underlying hu w]
    cases d <;> simp_all
   simp only [Instr.loadAt,Instr.sureAddr,Sem.run_bind,Sem.run_pure,Result.andThen_ok,loadVar,hagg,Bool.false_eq_true,if_false,load,Sem.run,h0]
 ·obtain ⟨fs,hu,_⟩:=ok.st ha
  exact ⟨_,run_loadAt_mid w g o t vs (.struct fs) hc hu rfl (by rw [hl];exact ok.size), .inl ⟨rfl,rfl⟩⟩
end
theorem lsOk_len {C:Cx} {σ:Nat→Int} {bp:Nat→Nat} {R:Nat→Prop} {w:World}:∀ {l:List At} {vs:List Value},LsOk C σ bp R w l vs→l.length=vs.length
 | [],[],_=>rfl
 | [],_::_,h=>h.elim
 | _::_,[],h=>h.elim
 | _::l,_::r,h=>by simp [lsOk_len h.2]
theorem LsOk.drop {C:Cx} {σ:Nat→Int} {bp:Nat→Nat} {R:Nat→Prop} {w:World}:∀ (o:Nat) {l:List At} {vs:List Value},LsOk C σ bp R w l vs→LsOk C σ bp R w (l.drop o) (vs.drop o)
 | 0,l,vs,h=>by simpa using h
 | o+1,[],[],h=>by simpa using h
 | o+1,[],_::_,h=>h.elim
 | o+1,_::_,[],h=>h.elim
 | o+1,_::l,_::r,h=>by simpa using LsOk.drop o h.2
theorem LsOk.take {C:Cx} {σ:Nat→Int} {bp:Nat→Nat} {R:Nat→Prop} {w:World}:∀ (n:Nat) {l:List At} {vs:List Value},LsOk C σ bp R w l vs→LsOk C σ bp R w (l.take n) (vs.take n)
 | 0,l,vs,h=>by simp [LsOk]
 | n+1,[],[],h=>by simpa using h
 | n+1,[],_::_,h=>h.elim
 | n+1,_::_,[],h=>h.elim
 | n+1,_::l,_::r,h=>by simpa using ⟨h.1,LsOk.take n h.2⟩
section
variable {C:Cx} {E:Env} {w0:World} {R0:Nat→Prop} {σ:Nat→Int} {bp:Nat→Nat} {R:Nat→Prop} {s s':AS} {a:Act} {w:World} {W:List (BE×Bool)} {o:Oper} {ov:Option AV} {tg:Option Nat}
theorem freshL_stt:∀ (cs:List Ck) (vs:List Value) {s:AS} {σ:Nat→Int},Stt C w0 R0 σ bp R s a w→cs.length=vs.length→(∀ (j:Nat) (c:Ck) (v:Value),cs[j]?=some c→vs[j]?=some v→CkOk C R w c v)→(∀ c∈cs,Ckwf c) →
  ∃ σ1,Agr s.n σ1 σ∧s.n≤(s.freshL cs).2.n∧(s.freshL cs).2.tm=s.tm∧(s.freshL cs).2.bx=s.bx∧Stt C w0 R0 σ1 bp R (s.freshL cs).2 a w∧∀ σ' bp',Agr (s.freshL cs).2.n σ' σ1→LsOk C σ' bp' R w (s.freshL cs).1 vs
 | [],[],s,σ,h,_,_,_=>⟨σ,agr_refl _ _,Nat.le_refl _,rfl,rfl,h,fun _ _ _=>trivial⟩
 | [],_::_,s,σ,h,hl,_,_=>by simp at hl
 | _::_,[],s,σ,h,hl,_,_=>by simp at hl
 | c::cs,v::vs,s,σ,h,hl,hv,hw=>by
  obtain ⟨σ1,a1,n1,t1,b1,st1,k1⟩:=freshC_stt h (hv 0 c v rfl rfl) (hw c List.mem_cons_self)
  obtain ⟨σ2,a2,n2,t2,b2,st2,k2⟩:=freshL_stt cs vs st1 (by simpa using hl) (fun j c' v' e1 e2=>hv (j+1) c' v' (by simpa using e1) (by simpa using e2)) (fun c' hc=>hw c' (List.mem_cons_of_mem _ hc))
  refine ⟨σ2,(a2.less n1).trans a1,Nat.le_trans n1 n2,t2.trans t1,b2.trans b1,st2,fun σ' bp' ha=>⟨?_,k2 σ' bp' ha⟩⟩
  exact k1 σ' bp' (((show Agr _ σ' σ2 from ha).less n2).trans a2)
theorem pack_ok {T:Ty} {l:List At} {v:AV} (hp:pack T.agg l=some v) {vs:List Value} {u:Value} (hu:(T.agg=true∧u = .agg vs.toArray)∨(T.agg=false∧vs=[u])) {σ':Nat→Int} {bp':Nat→Nat} (hl:LsOk C σ' bp' R w l vs):AVOk C σ' bp' R w v u:=by
 rcases hu with ⟨ha,rfl⟩ | ⟨ha,rfl⟩
 ·rw [ha] at hp
  simp only [pack] at hp
  cases hp
  exact ⟨_,rfl,hl⟩
 ·rw [ha] at hp
  unfold pack at hp
  split at hp
  ·simp at *
  ·cases hp;exact hl.1
  ·cases hp
theorem box_cells (h:Stt C w0 R0 σ bp R s a w) {b:Nat} {c:Nat×List At} (hb:nth s.bx b=some c) :
  ∃ arr,w.heap[bp b]?=some (.cells arr c.1 (0,0))∧∀ σ' bp',Agr s.n σ' σ→Agb s.bx.length bp' bp→LsOk C σ' bp' R w c.2 arr.toList:=by
 obtain ⟨arr,e,_⟩:=h.here.bx.nth hb
 rw [Nat.zero_add] at e
 refine ⟨arr,e,fun σ' bp' h1 h2=>?_⟩
 obtain ⟨arr',e',k⟩:=(h.st σ' bp' h1 h2).bx.nth hb
 rw [Nat.zero_add,h2 b (nth_lt hb),e] at e'
 simp only [Option.some.injEq,Obj.cells.injEq,and_true,true_and] at e'
 rw [e']
 exact k
theorem row_cells (h:Stt C w0 R0 σ bp R s a w) {T g k o:Nat} (hr:RowAt R w T g ((k+1) * sz C T)) {n:Nat} (hn:o+n≤sz C T) :
  ∃ vs:List Value,vs.length=n∧(∀ (j:Nat) (v:Value),vs[j]?=some v→w.cell? ⟨g,k * sz C T+o+j,none⟩=some v)∧∀ (j:Nat) (c:Ck) (v:Value),(cut (rks C T) o n)[j]?=some c→vs[j]?=some v→CkOk C R w c v:=by
 obtain ⟨hR,cs,fz,e1,e2⟩:=hr
 obtain ⟨_,_,cs',T',fz',e3,hs,_,_,hc⟩:=h.sw.hp.rows g hR
 rw [e1] at e3
 simp only [Option.some.injEq,Obj.cells.injEq] at e3
 obtain ⟨rfl,rfl,rfl⟩:=e3
 have hmul:(k+1) * sz C T=k * sz C T+sz C T:=by rw [Nat.add_mul,Nat.one_mul]
 have hget:∀ j,j < n→(cs.toList.drop (k * sz C T+o)).take n=(cs.toList.drop (k * sz C T+o)).take n∧((cs.toList.drop (k * sz C T+o)).take n)[j]?=cs[k * sz C T+o+j]?:=by
  intro j hj
  refine ⟨rfl, ?_⟩
  rw [List.getElem?_take,if_pos hj,List.getElem?_drop,Array.getElem?_toList]
 refine ⟨(cs.toList.drop (k * sz C T+o)).take n, ?_,fun j v hv=>?_,fun j c v hcj hv=>?_⟩
 ·rw [List.length_take,List.length_drop,Array.length_toList];omega
 ·have hj:j < n:=by
   have:=(List.getElem?_eq_some_iff.1 hv).1
   rw [List.length_take] at this
   omega
  rw [(hget j hj).2] at hv
  simp only [World.cell?,e1,Option.isSome_none,Bool.false_eq_true,if_false]
  exact hv
 ·have hj:j < n:=by
   have:=(List.getElem?_eq_some_iff.1 hv).1
   rw [List.length_take] at this
   omega
  rw [(hget j hj).2] at hv
  obtain ⟨c',h1,h2⟩:=hc _ v hv
  have hm:(k * sz C T+o+j) % sz C T=o+j:=by
   rw [Nat.add_assoc,Nat.mul_comm,Nat.mul_add_mod]
   exact Nat.mod_eq_of_lt (by omega)
  rw [hm,nth_eq] at h1
  unfold cut at hcj
  rw [List.getElem?_take,if_pos hj,List.getElem?_drop,h1] at hcj
  cases hcj
  exact h2
theorem rks_of (hG:Good C E) {U:Nat} {V:Ty} (hV:look U E.tb=some V):rks C U=V.rk∧sz C U=V.rk.length:=by
 have:look U C.tb=some V:=hG.tb U V hV
 unfold rks sz
 rw [this]
 exact ⟨rfl,rfl⟩
theorem op_load (hG:Good C E) (h:Stt C w0 R0 σ bp R s a w) (hW:Lits s.n σ W) {t:Nat} {x:Operand} (hop:o.op = .load t x) (hx:opx E W s o.op=some (ov,s')):Does C.P ((execOp a.eval o).run C.P w) (Outs C w0 R0 R w (tgt W s o.op) σ bp s s' a ov):=by
 rw [hop] at hx
 simp only [opx,Option.bind_eq_some_iff] at hx
 obtain ⟨T,hT,hx⟩:=hx
 have ok:=hG.of hT
 have h0:=h.here
 have w0:=hW σ (agr_refl _ _)
 have run:∀ g p v,a.eval x = .pointer (some ⟨g,p,none⟩)→(Instr.loadAt t (.pointer (some ⟨g,p,none⟩))).run C.P w = .ok v w→(execOp a.eval o).run C.P w = .ok (.value v) w:=by
  intro g p v he hr
  simp only [execOp,hop,he,Sem.run_bind,hr,Result.andThen_ok,Sem.run_pure]
 split at hx
 ·rename_i b p hv
  have hpx:∀ σ' bp',Agr s.n σ' σ→Agb s.bx.length bp' bp→a.eval x = .pointer (some ⟨bp' b,p,none⟩):=fun σ' bp' h1 h2=>ev1_sound (h.st σ' bp' h1 h2) (hW σ' h1) hv
  simp only [Option.bind_eq_some_iff] at hx
  obtain ⟨c,hc,hx⟩:=hx
  obtain ⟨arr,e,hls⟩:=box_cells h hc
  cases hl:Nat.beq (cut c.2 p T.cells.length).length T.cells.length <;> rw [hl] at hx
  ·cases hx
  ·simp only [cond_true,Option.map_eq_some_iff] at hx
   obtain ⟨v,hp,hx⟩:=hx
   cases hx
   have hl:=Nat.eq_of_beq_eq_true hl
   have hlen:=lsOk_len (hls σ bp (agr_refl _ _) (agb_refl _ _))
   have hcut:∀ σ' bp',Agr s.n σ' σ→Agb s.bx.length bp' bp→LsOk C σ' bp' R w (cut c.2 p T.cells.length) ((arr.toList.drop p).take T.cells.length):=fun σ' bp' h1 h2=>((hls σ' bp' h1 h2).drop p).take _
   have hl2:((arr.toList.drop p).take T.cells.length).length=T.cells.length:=by rw [←lsOk_len (hcut σ bp (agr_refl _ _) (agb_refl _ _))];exact hl
   obtain ⟨u,hu,hu2⟩:=run_loadAt (w:=w) ok (g:=bp b) (o:=p) hl2 (fun j v hj=>by
    have hjn:j < T.cells.length:=by
     have:=(List.getElem?_eq_some_iff.1 hj).1
     omega
    rw [List.getElem?_take,if_pos hjn,List.getElem?_drop,Array.getElem?_toList] at hj
    simp only [World.cell?,e,Option.isSome_none,Bool.false_eq_true,if_false]
    exact hj)
   rw [run _ _ _ (hpx σ bp (agr_refl _ _) (agb_refl _ _)) hu]
   exact out_pure h fun σ' bp' h1 h2=>pack_ok hp hu2 (hcut σ' bp' h1 h2)
 ·rename_i U p hv
  simp only [Option.bind_eq_some_iff] at hx
  obtain ⟨V,hV,hx⟩:=hx
  obtain ⟨er,es⟩:=rks_of hG hV
  obtain ⟨g,k,ep,hr⟩:=ev1_sound h0 w0 hv
  cases hl:Nat.beq (cut V.rk p T.cells.length).length T.cells.length <;> rw [hl] at hx
  ·cases hx
  ·simp only [cond_true,Option.map_eq_some_iff] at hx
   obtain ⟨v,hp,hx⟩:=hx
   cases hx
   have hl:=Nat.eq_of_beq_eq_true hl
   have hn:p+T.cells.length≤sz C U:=by
    have hc0:=ok.rk.2
    unfold cut at hl
    rw [List.length_take,List.length_drop] at hl
    rw [es]
    omega
   obtain ⟨vs,v1,v2,v3⟩:=row_cells h hr hn
   obtain ⟨u,hu,hu2⟩:=run_loadAt (w:=w) ok (g:=g) (o:=k * sz C U+p) v1 v2
   rw [run _ _ _ ep hu]
   rw [er] at v3
   obtain ⟨σ1,a1,n1,t1,b1,st1,k1⟩:=freshL_stt (cut V.rk p T.cells.length) vs h (by rw [hl,v1]) v3 (fun c hc=>(hG.of hV).wf c (List.mem_of_mem_drop (List.mem_of_mem_take hc)))
   refine ⟨σ1,bp,R,a1,n1,agb_refl _ _,by rw [b1];exact Nat.le_refl _,st1,fun y hy σ' bp' h1 h2=>?_,Fr.refl⟩
   cases hy
   exact pack_ok hp hu2 (k1 σ' bp' h1)
 ·cases hx
end
end Go.Proofs.YtikelfmmldafpaaGreat.Ai
