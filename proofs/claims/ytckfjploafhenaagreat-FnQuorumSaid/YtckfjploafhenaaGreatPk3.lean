/- The interpreter's operations are sound: indices, lengths, slices. -/
import Derived.Test.YtckfjploafhenaaGreatPk2
set_option maxRecDepth 100000
set_option maxHeartbeats 16000000
set_option linter.unusedVariables false
set_option linter.unusedSimpArgs false
namespace Go.Proofs.YtckfjploafhenaaGreat.Ai
open Go.RowKit
section
variable {C:Cx} {E:Env} {w0:World} {R0:Nat->Prop} {σ:Nat->Int} {bp:Nat->Nat} {R:Nat->Prop} {s s':AS} {a:Act} {w:World} {W:List (BE×Bool)} {o:Oper} {ov:Option AV} {tg:Option Nat}
theorem slT_ok (hG:Good C E) {t T:Nat} (h:slT E t T=true):C.P.underlying t=some (.slice T)/\(C.P.info? T).map (·.size)=some (sz C T)/\0 < sz C T/\∃ V,look T E.tb=some V:=by
 unfold slT at h;rw [Bool.and_eq_true] at h;obtain ⟨h1,h2⟩:=h;cases hV:look t E.tb with
 | none=>rw [hV] at h1;cases h1
 | some V =>
  rw [hV] at h1;simp only [Bool.and_eq_true,Bool.not_eq_true'] at h1;obtain ⟨⟨h3,h4⟩,h5⟩:=h1;obtain ⟨c,d,e1,e2,e3,e4⟩:=(hG.of hV).pl h3;rw [e1] at h5;cases hT:look T E.tb with
  | none=>rw [hT] at h2;cases h2
  | some U =>
   have ok:=hG.of hT;obtain ⟨er,es⟩:=rks_of hG hT;refine ⟨?_, ?_, ?_,U,rfl⟩
   ·cases c <;> simp only [Bool.false_eq_true] at h5
    have:=Nat.eq_of_beq_eq_true h5
    subst this;simp only at e4;rw [e2,e4.1]
   ·rw [es,ok.rk.1];exact ok.size
   ·rw [es,ok.rk.1];exact ok.rk.2
theorem isStr_ok (hG:Good C E) {t:Nat} (h:isStr E t=true):C.P.underlying t=some .string:=by
 unfold isStr at h;cases hV:look t E.tb with
 | none=>rw [hV] at h;cases h
 | some V =>
  rw [hV] at h;simp only [Bool.and_eq_true,Bool.not_eq_true'] at h;obtain ⟨c,d,e1,e2,e3,e4⟩:=(hG.of hV).pl h.1;have h5:=h.2;rw [e1] at h5;cases c <;> simp only [Bool.false_eq_true] at h5
  simp only at e4;rw [e2,e4]
theorem ents (h:Stt C w0 R0 σ bp R s a w) {d:Nat} {e:Lin} (he:ent s.fa d e=true):∀ σ',Agr s.n σ' σ->0<=e.ev σ':=fun σ' h1=>zb0 σ' (h.st σ' bp h1 (zai _ _)).fs.fa _ _ he
theorem run_indexAt {P:Program} {t T n:Nat} (hu:P.underlying t=some (.slice T)) (hs:(P.info? T).map (·.size)=some n) {g q m c:Nat} {k:IntKind} {i:Int} (h0:0<=i) (h1:i < m) :
  (Instr.indexAt t (.slice (some ⟨g,q,none⟩) m c) (.int k i)).run P w = .ok (.pointer (some ⟨g,q+i.toNat * n,none⟩)) w:=by
 have ha:(⟨g,q,none⟩:Addr).add (i.toNat * n)=⟨g,q+i.toNat * n,none⟩:=by unfold Addr.add;split <;> simp_all
 simp only [Instr.indexAt,Sem.run_bind,asIntOf,Sem.run_pure,Result.andThen_ok,run_underlying hu,h0,h1,and_self,if_true,zdb hs,ha]
theorem op_indexAddr (hG:Good C E) (h:Stt C w0 R0 σ bp R s a w) (hW:Lits s.n σ W) {t:Nat} {x i:Operand} (hop:o.op = .indexAddr t x i) (hx:opx E W s o.op=some (ov,s')):Does C.P ((execOp a.eval o).run C.P w) (Outs C w0 R0 R w (tgt W s o.op) σ bp s s' a ov):=by
 rw [hop] at hx;simp only [opx] at hx;split at hx
 ·rename_i T e k j hv hi;cases hc:(slT E t T && ent s.fa (dz E) j && ent s.fa (dz E) ((e.sub j).plus (-1))) <;> rw [hc] at hx
  ·cases hx
  ·cases hx;simp only [Bool.and_eq_true] at hc;obtain ⟨⟨h1,h2⟩,h3⟩:=hc;obtain ⟨u1,u2,u3,_⟩:=slT_ok hG h1;have h0:=h.here;have w0:=hW σ (zaa _ _);have e2:=ents h h2 σ (zaa _ _);have e3:=ents h h3 σ (zaa _ _);rw [zbf,zd0] at e3;obtain ⟨i1,_,_⟩:=evN_sound h0 w0 hi;obtain ⟨b,m,c,x1,x2,x3,x4,x5⟩:=zau h0 w0 hv;rcases x5 with ⟨rfl,rfl⟩ | ⟨g,q,rfl,hr⟩
   ·omega
   ·have run:(execOp a.eval o).run C.P w = .ok (.value (.pointer (some ⟨g,q * sz C T+(j.ev σ).toNat * sz C T,none⟩))) w:=by
     simp only [execOp,hop,x1,i1,Sem.run_bind,run_indexAt (w:=w) u1 u2 (g:=g) (q:=q * sz C T) (m:=m) (c:=c) (k:=k) e2 (by omega),Result.andThen_ok,Sem.run_pure]
    rw [run];refine zbd h fun σ' bp' _ _=>⟨g,q+(j.ev σ).toNat, ?_, ?_⟩
    ·rw [Nat.add_mul];rfl
    ·obtain ⟨r1,cs,fz,r2,r3⟩:=hr;refine ⟨r1,cs,fz,r2,Nat.le_trans (Nat.mul_le_mul_right _ ?_) r3⟩;omega
 ·cases hx
theorem op_index (hG:Good C E) (h:Stt C w0 R0 σ bp R s a w) (hW:Lits s.n σ W) {t:Nat} {x i:Operand} (hop:o.op = .index t x i) (hx:opx E W s o.op=some (ov,s')):Does C.P ((execOp a.eval o).run C.P w) (Outs C w0 R0 R w (tgt W s o.op) σ bp s s' a ov):=by
 rw [hop] at hx;simp only [opx] at hx;split at hx
 ·rename_i e k j hv hi;cases hc:(isStr E t && ent s.fa (dz E) j && ent s.fa (dz E) ((e.sub j).plus (-1))) <;> rw [hc] at hx
  ·cases hx
  ·simp only [cond_true] at hx;cases hx;simp only [Bool.and_eq_true] at hc;obtain ⟨⟨h1,h2⟩,h3⟩:=hc;have u1:=isStr_ok hG h1;have h0:=h.here;have w0:=hW σ (zaa _ _);have e2:=ents h h2 σ (zaa _ _);have e3:=ents h h3 σ (zaa _ _);rw [zbf,zd0] at e3;obtain ⟨i1,_,_⟩:=evN_sound h0 w0 hi;obtain ⟨b,x1,x2,x3⟩:=zau h0 w0 hv;have hlt:(j.ev σ).toNat < b.size:=by omega
   have run:(execOp a.eval o).run C.P w = .ok (.value (.int .u8 (b[(j.ev σ).toNat]'hlt).toNat)) w:=by
    simp only [execOp,hop,x1,i1,Instr.index,Sem.run_bind,asIntOf,Sem.run_pure,Result.andThen_ok,run_underlying u1,e2,if_true,getElem?_pos b (j.ev σ).toNat hlt]
   rw [run];obtain ⟨σ1,a1,n1,t1,b1,st1,k1⟩:=zcw h (c := .int .u8 0 255) (v := .int .u8 (b[(j.ev σ).toNat]'hlt).toNat) ⟨_,rfl,by omega,by have:=(b[(j.ev σ).toNat]'hlt).toNat_lt;omega⟩ (by simp [Ckwf,nat8])
   exact ⟨σ1,bp,R,a1,n1,zai _ _,by rw [b1];exact Nat.le_refl _,st1,fun y hy σ' bp' q1 q2=>by cases hy;exact k1 σ' bp' q1,Fr.refl⟩
 ·cases hx
theorem op_len (hG:Good C E) (h:Stt C w0 R0 σ bp R s a w) (hW:Lits s.n σ W) {as:Array Operand} {ts:Array TypeId} (hop:o.op = .call { callee := .builtin .len,args:=as,argTypes:=ts }) (hx:opx E W s o.op=some (ov,s')):Does C.P ((execOp a.eval o).run C.P w) (Outs C w0 R0 R w (tgt W s o.op) σ bp s s' a ov):=by
 rw [hop] at hx;simp only [opx] at hx;split at hx
 ·rename_i x t ha ht;obtain rfl:as=#[x]:=by cases as;simp_all
  obtain rfl:ts=#[t]:=by cases ts;simp_all
  have h0:=h.here;have w0:=hW σ (zaa _ _);split at hx
  ·rename_i T e hv;cases hc:slT E t T <;> rw [hc] at hx
   ·cases hx
   ·cases hx;obtain ⟨u1,_⟩:=slT_ok hG hc;obtain ⟨b,m,c,x1,_⟩:=zau h0 w0 hv
    have run:(execOp a.eval o).run C.P w = .ok (.value (.int .i64 m)) w:=by
     simp only [execOp,hop,resolve,invoke,builtin,Builtin.len_,List.map_toArray,List.map_cons,List.map_nil,x1,Sem.run_bind,Sem.run_pure,Result.andThen_ok,List.getElem?_toArray,List.getElem?_cons_zero,run_underlying u1,goInt]
    rw [run];refine zbd h fun σ' bp' q1 q2=>?_
    obtain ⟨b',m',c',y1,y2,y3,_⟩:=zau (h.st σ' bp' q1 q2) (hW σ' q1) hv;rw [x1] at y1;simp only [Value.slice.injEq] at y1;refine ⟨by rw [y2,y1.2.1], ?_, ?_⟩ <;> simp only [nat8,i64lo,i64hi,LIM] at * <;> omega
  ·rename_i e hv;cases hc:isStr E t <;> rw [hc] at hx
   ·cases hx
   ·cases hx;have u1:=isStr_ok hG hc;obtain ⟨b,x1,_⟩:=zau h0 w0 hv
    have run:(execOp a.eval o).run C.P w = .ok (.value (.int .i64 b.size)) w:=by
     simp only [execOp,hop,resolve,invoke,builtin,Builtin.len_,List.map_toArray,List.map_cons,List.map_nil,x1,Sem.run_bind,Sem.run_pure,Result.andThen_ok,List.getElem?_toArray,List.getElem?_cons_zero,run_underlying u1,goInt]
    rw [run];refine zbd h fun σ' bp' q1 q2=>?_
    obtain ⟨b',y1,y2,y3⟩:=zau (h.st σ' bp' q1 q2) (hW σ' q1) hv;rw [x1] at y1;simp only [Value.string.injEq] at y1;subst y1;refine ⟨by rw [<-y2], ?_, ?_⟩ <;> simp only [nat8,i64lo,i64hi,LIM] at * <;> omega
  ·cases hx
 ·cases hx
end
end Go.Proofs.YtckfjploafhenaaGreat.Ai
namespace Go.Proofs.YtckfjploafhenaaGreat.Ai
open Go.RowKit
theorem zex:∀ {k j:IntKind},keq k j=true->k=j/\(k = .i64\/k = .u8)
 | .i64, .i64,_=>⟨rfl, .inl rfl⟩
 | .u8, .u8,_=>⟨rfl, .inr rfl⟩
 | .i8,_,h=>by cases h
 | .i16,_,h=>by cases h
 | .i32,_,h=>by cases h
 | .u16,_,h=>by cases h
 | .u32,_,h=>by cases h
 | .u64,_,h=>by cases h
 | .i64, .i8,h=>by cases h
 | .i64, .i16,h=>by cases h
 | .i64, .i32,h=>by cases h
 | .i64, .u8,h=>by cases h
 | .i64, .u16,h=>by cases h
 | .i64, .u32,h=>by cases h
 | .i64, .u64,h=>by cases h
 | .u8, .i8,h=>by cases h
 | .u8, .i16,h=>by cases h
 | .u8, .i32,h=>by cases h
 | .u8, .i64,h=>by cases h
 | .u8, .u16,h=>by cases h
 | .u8, .u32,h=>by cases h
 | .u8, .u64,h=>by cases h
theorem wrap64 (n:Int):IntKind.i64.wrap n=if 9223372036854775808<=n % 18446744073709551616 then n % 18446744073709551616 - 18446744073709551616 else n % 18446744073709551616:=by
 unfold IntKind.wrap;simp [IntKind.bits,IntKind.signed]
theorem wrap8 (n:Int):IntKind.u8.wrap n=n % 256:=by
 unfold IntKind.wrap;simp [IntKind.bits,IntKind.signed]
theorem wrap_id {k:IntKind} (hk:k = .i64\/k = .u8) {n:Int} (h1:(nat8 k).1<=n) (h2:n<=(nat8 k).2):k.wrap n=n:=by
 rcases hk with rfl | rfl
 ·simp only [nat8,i64lo,i64hi] at h1 h2;rw [wrap64];split <;> omega
 ·simp only [nat8] at h1 h2;rw [wrap8];omega
theorem zf0 {k:IntKind} (hk:k = .i64\/k = .u8) (n:Int):(nat8 k).1<=k.wrap n/\k.wrap n<=(nat8 k).2:=by
 rcases hk with rfl | rfl
 ·simp only [nat8,i64lo,i64hi];rw [wrap64];split <;> omega
 ·simp only [nat8];rw [wrap8];omega
section
variable {C:Cx} {E:Env} {w0:World} {R0:Nat->Prop} {σ:Nat->Int} {bp:Nat->Nat} {R:Nat->Prop} {s s':AS} {a:Act} {w:World} {W:List (BE×Bool)} {o:Oper} {ov:Option AV} {tg:Option Nat}
theorem lim_in (h:Stt C w0 R0 σ bp R s a w) {d:Nat} {k:IntKind} {e:Lin} (hl:s.lim d k e=true):∀ σ',Agr s.n σ' σ->(nat8 k).1<=e.ev σ'/\e.ev σ'<=(nat8 k).2:=by
 intro σ' h1;unfold AS.lim at hl;split at hl
 ·rename_i ht;rw [Bool.and_eq_true] at hl;have a1:=(zdv _).1 hl.1;have a2:=(zdv _).1 hl.2;rw [zgh σ' ht];omega
 ·rw [Bool.and_eq_true] at hl;have a1:=ents h hl.1 σ' h1;have a2:=ents h hl.2 σ' h1;rw [ev_ge] at a1;rw [ev_le] at a2;omega
theorem zfs (h:Stt C w0 R0 σ bp R s a w) {k:IntKind} (hk:k = .i64\/k = .u8) {z:Int} (h1:(nat8 k).1<=z) (h2:z<=(nat8 k).2):Outs C w0 R0 R w tg σ bp s (s.fint k).2 a (some (one (s.fint k).1)) (.int k z) w:=by
 have key:∀ lo hi,(s.fint k)=s.freshC (.int k lo hi)->lo<=z->z<=hi->Ckwf (.int k lo hi)->Outs C w0 R0 R w tg σ bp s (s.fint k).2 a (some (one (s.fint k).1)) (.int k z) w:=by
  intro lo hi e l1 l2 hw;rw [e];obtain ⟨σ1,a1,n1,t1,b1,st1,k1⟩:=zcw h (c := .int k lo hi) (v := .int k z) ⟨z,rfl,l1,l2⟩ hw;exact ⟨σ1,bp,R,a1,n1,zai _ _,by rw [b1];exact Nat.le_refl _,st1,fun y hy σ' bp' q1 q2=>by cases hy;exact k1 σ' bp' q1,Fr.refl⟩
 rcases hk with rfl | rfl
 ·exact key i64lo i64hi rfl h1 h2 ⟨Int.le_refl _,Int.le_refl _⟩
 ·exact key 0 255 rfl h1 h2 ⟨Int.le_refl _,Int.le_refl _⟩
theorem zgw (h:Stt C w0 R0 σ bp R s a w) {d:Nat} {k:IntKind} (hk:k = .i64\/k = .u8) {e:Lin} {z:Int} (he:∀ σ',Agr s.n σ' σ->e.ev σ'=z):Outs C w0 R0 R w tg σ bp s (s.numOr d k e).2 a (some (s.numOr d k e).1) (.int k (k.wrap z)) w:=by
 unfold AS.numOr;cases hl:s.lim d k e
 ·have:=zf0 hk z
  exact zfs h hk this.1 this.2
 ·refine zbd h fun σ' bp' h1 h2=>?_
  have hr:=lim_in h hl σ' h1;rw [he σ' h1] at hr;refine ⟨by rw [wrap_id hk hr.1 hr.2,he σ' h1], ?_, ?_⟩ <;> rw [he σ' h1]
  ·exact hr.1
  ·exact hr.2
theorem tru_out (h:Stt C w0 R0 σ bp R s a w) {b:BE} {p:Bool} (hb:∀ σ',Agr s.n σ' σ->b.ev σ'=p):Outs C w0 R0 R w tg σ bp s (s.tru b).2 a (some (s.tru b).1) (.bool p) w:=by
 refine zbd h fun σ' bp' h1 h2=>?_
 show Value.bool p = .bool _;rw [(h.st σ' bp' h1 h2).fs.sb,hb σ' h1]
theorem fresh_out (h:Stt C w0 R0 σ bp R s a w) {z:Int} (h1:(nat8 .i64).1<=z) (h2:z<=(nat8 .i64).2) (r:List (Lin->Lin)) (hr:∀ σ' bp',Agr (s.n+1) σ' (upd σ s.n z)->Agb s.bx.length bp' bp->∀ f∈r,0<=(f (var s.n)).ev σ'):Outs C w0 R0 R w tg σ bp s (s.fresh r).2 a (some (one (.num .i64 (s.fresh r).1))) (.int .i64 z) w:=by
 obtain ⟨e1,e2,e3,e4⟩:=zdn s r;refine ⟨upd σ s.n z,bp,R,zg6 _ _ _,by rw [e3];omega,zai _ _,by rw [e2];exact Nat.le_refl _,zf7 h z r hr,fun y hy σ' bp' q1 q2=>?_,Fr.refl⟩
 cases hy;rw [e3] at q1;rw [e4];refine ⟨by rw [zc3 q1], ?_, ?_⟩ <;> rw [zc3 q1]
 ·exact h1
 ·exact h2
theorem op_not (h:Stt C w0 R0 σ bp R s a w) (hW:Lits s.n σ W) {t:Nat} {x:Operand} (hop:o.op = .unOp .not t x) (hx:opx E W s o.op=some (ov,s')):Does C.P ((execOp a.eval o).run C.P w) (Outs C w0 R0 R w (tgt W s o.op) σ bp s s' a ov):=by
 rw [hop] at hx;simp only [opx,Option.map_eq_some_iff] at hx;obtain ⟨b,hb,e⟩:=hx;cases e;have e0:=evB_sound h.here (hW σ (zaa _ _)) hb;have run:(execOp a.eval o).run C.P w = .ok (.value (.bool !(b.ev σ))) w:=by simp only [execOp,hop,e0,Op.unary,Sem.run_bind,Sem.run_pure,Result.andThen_ok]
 rw [run];refine zbd h fun σ' bp' h1 h2=>?_
 have e1:=evB_sound (h.st σ' bp' h1 h2) (hW σ' h1) hb;rw [e0] at e1;simp only [Value.bool.injEq] at e1;show Value.bool _ = .bool _;rw [bnot_ev,e1]
end
end Go.Proofs.YtckfjploafhenaaGreat.Ai
namespace Go.Proofs.YtckfjploafhenaaGreat.Ai
open Go.RowKit
section
variable {C:Cx} {E:Env} {w0:World} {R0:Nat->Prop} {σ:Nat->Int} {bp:Nat->Nat} {R:Nat->Prop} {s s':AS} {a:Act} {w:World} {W:List (BE×Bool)} {o:Oper} {ov:Option AV} {tg:Option Nat}
theorem run_bin {P:Program} {bo:BinOp} {t t2:TypeId} {x y:Operand} {k j:IntKind} {A B:Int} {v:Value} (hop:o.op = .binOp bo t x y t2) (hx:a.eval x = .int k A) (hy:a.eval y = .int j B) (hv:(binOp bo t (.int k A) (.int j B)).run P w = .ok v w) :
  (execOp a.eval o).run P w = .ok (.value v) w:=by
 have hg:(eqGuard bo t x y (.int k A) (.int j B)).run P w = .ok () w:=by
  unfold eqGuard;cases bo <;> rfl
 simp only [execOp,hop,hx,hy,Sem.run_bind,hg,Result.andThen_ok,hv,Sem.run_pure]
theorem ubd_sound {fs:List Lin} (hf:∀ f∈fs,0<=f.ev σ) {x:Nat} {h:Int} (hu:ubd x fs=some h):σ x<=h:=by
 induction fs with
 | nil=>cases hu
 | cons f r ih =>
  have hr:=fun g hg=>hf g (List.mem_cons_of_mem f hg)
  have h0:=hf f List.mem_cons_self;unfold ubd at hu;split at hu
  ·rename_i u ht;cases hb:Nat.beq u x <;> rw [hb] at hu
   ·exact ih hr hu
   ·have:=Nat.eq_of_beq_eq_true hb
    subst this;cases hu;unfold Lin.ev at h0;rw [ht] at h0;simp only [tev] at h0;omega
  ·exact ih hr hu
theorem fdiv_in (A m:Int) (hm:1<=m):(0<=A->0<=A.fdiv m/\A.fdiv m<=A)/\(A < 0->A<=A.fdiv m/\A.fdiv m < 0):=by
 rw [Int.fdiv_eq_ediv_of_nonneg A (by omega)]
 refine ⟨fun h=>⟨Int.ediv_nonneg h (by omega),Int.ediv_le_self m h⟩,fun h=>⟨?_,Int.ediv_neg_of_neg_of_pos h (by omega)⟩⟩
 rw [Int.le_ediv_iff_mul_le (by omega)]
 have:A * m<=A * 1:=Int.mul_le_mul_of_nonpos_left (by omega) hm
 omega
theorem shift_out (h:Stt C w0 R0 σ bp R s a w) {d:Nat} {bo:BinOp} (hbo:bo = .shl\/bo = .shr) {k j:IntKind} {e f:Lin} {A B:Int} {r:AV×AS} (hb:bin d s bo (.v (.one (.num k e))) (.v (.one (.num j f)))=some r) (t:TypeId)
  (hf:∀ σ',Agr s.n σ' σ->f.ev σ'=B) (hA:(nat8 k).1<=A/\A<=(nat8 k).2) :
  ∃ v,(binOp bo t (.int k A) (.int j B)).run C.P w = .ok v w/\Outs C w0 R0 R w tg σ bp s r.2 a (some r.1) v w:=by
 have hf0:=hf σ (zaa _ _);unfold bin at hb;rcases hbo with rfl | rfl
 ·cases hk:(keq k k && ent s.fa (max 5 d) f) <;> simp only [hk,cond_true,cond_false] at hb
  ·cases hb
  ·cases hb;rw [Bool.and_eq_true] at hk;have hk2:=(zex hk.1).2;have h3:=ents h hk.2 σ (zaa _ _);rw [hf0] at h3;exact ⟨.int k (k.wrap (A * 2 ^ min B.toNat k.bits)),by simp [binOp,Op.shift,Sem.run,show ¬ B < 0 by omega],zfs h hk2 (zf0 hk2 _).1 (zf0 hk2 _).2⟩
 ·cases hk:(keq k k && ent s.fa (max 5 d) f) <;> simp only [hk,cond_true,cond_false] at hb
  ·cases hb
  ·cases hb;rw [Bool.and_eq_true] at hk;have hk2:=(zex hk.1).2;have h3:=ents h hk.2 σ (zaa _ _);rw [hf0] at h3
   have hm:(1:Int)<=2 ^ min B.toNat k.bits:=by
    have:=Nat.one_le_two_pow (n:=min B.toNat k.bits)
    exact_mod_cast this
   have hr:=fdiv_in A _ hm;refine ⟨.int k (A.fdiv (2 ^ min B.toNat k.bits)),by simp [binOp,Op.shift,Sem.run,show ¬ B < 0 by omega],zfs h hk2 ?_ ?_⟩
   ·rcases hk2 with rfl | rfl <;> simp only [nat8,i64lo,i64hi] at * <;> omega
   ·rcases hk2 with rfl | rfl <;> simp only [nat8,i64lo,i64hi] at * <;> omega
theorem bin_out (h:Stt C w0 R0 σ bp R s a w) {d:Nat} {bo:BinOp} {k j:IntKind} {e f:Lin} {A B:Int} {r:AV×AS} (hb:bin d s bo (.v (.one (.num k e))) (.v (.one (.num j f)))=some r) (t:TypeId)
  (he:∀ σ',Agr s.n σ' σ->e.ev σ'=A) (hf:∀ σ',Agr s.n σ' σ->f.ev σ'=B) (hA:(nat8 k).1<=A/\A<=(nat8 k).2) (hB:(nat8 j).1<=B/\B<=(nat8 j).2) (hkj:k=j) (hns:bo ≠ .shl/\bo ≠ .shr) :
  ∃ v,(binOp bo t (.int k A) (.int j B)).run C.P w = .ok v w/\Outs C w0 R0 R w tg σ bp s r.2 a (some r.1) v w:=by
 subst hkj;have he0:=he σ (zaa _ _);have hf0:=hf σ (zaa _ _);unfold bin at hb;cases bo
 case eql =>
  cases hk:keq k k <;> simp only [hk,cond_true,cond_false] at hb
  ·cases hb
  ·cases hb;exact ⟨.bool (A == B),by simp [binOp,Op.intCmp,Sem.run],tru_out h fun σ' h1=>by rw [beq_ev,zd0,he σ' h1,hf σ' h1,Bool.eq_iff_iff];simp <;> omega⟩
 case neq =>
  cases hk:keq k k <;> simp only [hk,cond_true,cond_false] at hb
  ·cases hb
  ·cases hb;exact ⟨.bool (A != B),by simp [binOp,Op.intCmp,Sem.run],tru_out h fun σ' h1=>by rw [bnot_ev,beq_ev,zd0,he σ' h1,hf σ' h1,Bool.eq_iff_iff];simp <;> omega⟩
 case lss =>
  cases hk:keq k k <;> simp only [hk,cond_true,cond_false] at hb
  ·cases hb
  ·cases hb;exact ⟨.bool (A < B),by simp [binOp,Op.intCmp,Sem.run],tru_out h fun σ' h1=>by rw [ble_ev,zbf,zd0,he σ' h1,hf σ' h1,Bool.eq_iff_iff];simp <;> omega⟩
 case leq =>
  cases hk:keq k k <;> simp only [hk,cond_true,cond_false] at hb
  ·cases hb
  ·cases hb;exact ⟨.bool (A<=B),by simp [binOp,Op.intCmp,Sem.run],tru_out h fun σ' h1=>by rw [ble_ev,zd0,he σ' h1,hf σ' h1,Bool.eq_iff_iff];simp <;> omega⟩
 case gtr =>
  cases hk:keq k k <;> simp only [hk,cond_true,cond_false] at hb
  ·cases hb
  ·cases hb;exact ⟨.bool (A > B),by simp [binOp,Op.intCmp,Sem.run],tru_out h fun σ' h1=>by rw [ble_ev,zbf,zd0,he σ' h1,hf σ' h1,Bool.eq_iff_iff];simp <;> omega⟩
 case geq =>
  cases hk:keq k k <;> simp only [hk,cond_true,cond_false] at hb
  ·cases hb
  ·cases hb;exact ⟨.bool (A ≥ B),by simp [binOp,Op.intCmp,Sem.run],tru_out h fun σ' h1=>by rw [ble_ev,zd0,he σ' h1,hf σ' h1,Bool.eq_iff_iff];simp <;> omega⟩
 case add =>
  cases hk:keq k k <;> simp only [hk,cond_true,cond_false] at hb
  ·cases hb
  ·cases hb;exact ⟨.int k (k.wrap (A+B)),by simp [binOp,Op.intArith,Sem.run],zgw h (zex hk).2 fun σ' h1=>by rw [ev_add,he σ' h1,hf σ' h1]⟩
 case sub =>
  cases hk:keq k k <;> simp only [hk,cond_true,cond_false] at hb
  ·cases hb
  ·cases hb;exact ⟨.int k (k.wrap (A - B)),by simp [binOp,Op.intArith,Sem.run],zgw h (zex hk).2 fun σ' h1=>by rw [zd0,he σ' h1,hf σ' h1]⟩
 case mul =>
  cases hk:keq k k <;> simp only [hk,cond_true,cond_false] at hb
  ·cases hb
  ·have hk2:=(zex hk).2;refine ⟨.int k (k.wrap (A * B)),by simp [binOp,Op.intArith,Sem.run], ?_⟩
   split at hb
   ·rename_i ht;cases hb;refine zgw h hk2 fun σ' h1=>?_
    rw [ze1,he σ' h1,<-hf σ' h1,zgh σ' ht,Int.mul_comm]
   ·rename_i ht _;cases hb;refine zgw h hk2 fun σ' h1=>?_
    rw [ze1,hf σ' h1,<-he σ' h1,zgh σ' ht]
   ·cases hb
    have:=zf0 hk2 (A * B)
    exact zfs h hk2 this.1 this.2
 case quo =>
  cases hk:keq k k <;> simp only [hk,cond_true,cond_false] at hb
  ·cases hb
  ·split at hb
   ·rename_i c ht hc;cases hb;have hBv:B=Int.ofNat (c+1):=by rw [<-hf0,zgh σ ht,hc]
    have hB0:0 < B:=by rw [hBv];simp only [Int.ofNat_eq_natCast];omega
    rw [<-hBv];simp only [nat8,i64lo,i64hi] at hA;have q0:(A.natAbs / B.natAbs:Nat)<=A.natAbs:=Nat.div_le_self _ _;have q1:(A.tdiv B).natAbs=A.natAbs / B.natAbs:=Int.natAbs_tdiv A B
    have run:∀ z,A.tdiv B=z->-9223372036854775808<=z->z<=9223372036854775807->(binOp .quo t (.int .i64 A) (.int .i64 B)).run C.P w = .ok (.int .i64 z) w:=by
     intro z hz z1 z2;have hw:IntKind.i64.wrap z=z:=wrap_id (.inl rfl) z1 z2;simp [binOp,Op.intDiv,Sem.run,show ¬ B=0 by omega,hz,hw]
    unfold AS.quo;cases hp:ent s.fa (max 5 d) e
    ·simp only [cond_false];by_cases hz:-9223372036854775808<=A.tdiv B/\A.tdiv B<=9223372036854775807
     ·exact ⟨_,run _ rfl hz.1 hz.2,fresh_out h (by simp only [nat8,i64lo];exact hz.1) (by simp only [nat8,i64hi];exact hz.2) [] fun σ' bp' q1 q2 g hg=>by simp at hg⟩
     ·exfalso;apply hz;by_cases hA0:0<=A
      ·have:=Int.tdiv_nonneg hA0 (show 0<=B by omega)
       omega
      ·have h2:A.natAbs / B.natAbs<=A.natAbs:=q0;have hb1:B.natAbs ≥ 1:=by omega
       have h3:A.tdiv B<=0:=by
        have:=Int.tdiv_nonneg (show 0<=-A by omega) (show 0<=B by omega)
        rw [Int.neg_tdiv] at this;omega
       omega
    ·simp only [cond_true];have hA0:=ents h hp σ (zaa _ _);rw [he0] at hA0;have hd:A.tdiv B=A / B:=Int.tdiv_eq_ediv_of_nonneg hA0;have d1:B * (A / B)<=A:=Int.mul_ediv_self_le (by omega)
     have d2:A < B * (A / B)+B:=by
      have:=Int.lt_mul_ediv_self_add (x:=A) hB0
      exact this
     have d3:0<=A / B:=Int.ediv_nonneg hA0 (by omega)
     have d4:A / B<=A:=Int.ediv_le_self B hA0;refine ⟨.int .i64 (A / B),run _ hd (by omega) (by omega), ?_⟩
     have ho:=fresh_out (tg:=tg) h (z:=A / B) (by simp only [nat8,i64lo];omega) (by simp only [nat8,i64hi];omega) [ge 0,fun r=>e.sub (r.mul B),fun r=>((r.mul B).sub e).plus (B - 1)] (fun σ' bp' q1 q2 g hg=>by
      have q3:Agr s.n σ' σ:=(q1.less (Nat.le_succ _)).trans (zg6 _ _ _);simp only [List.mem_cons,List.not_mem_nil,or_false] at hg;rcases hg with rfl | rfl | rfl
      ·rw [ev_ge,zc3 q1];omega
      ·rw [zd0,ze1,he σ' q3,zc3 q1];omega
      ·rw [zbf,zd0,ze1,he σ' q3,zc3 q1];omega)
     obtain ⟨f1,f2,f3,f4⟩:=zdn s [ge 0,fun r=>e.sub (r.mul B),fun r=>((r.mul B).sub e).plus (B - 1)]
     generalize hfr:s.fresh [ge 0,fun r=>e.sub (r.mul B),fun r=>((r.mul B).sub e).plus (B - 1)]=fr at ho f1 f2 f3 f4
     split
     ·rename_i x hx;split
      ·rename_i hh hu;obtain ⟨σ1,bp1,R1,o⟩:=ho;have sm:=ziq fr.2 (le ((hh+e.c) / B) fr.1);refine ⟨σ1,bp1,R1,o.ag,by rw [sm.n];exact o.le,o.ab,by rw [sm.bx];exact o.lb,o.st.sm sm fun σ' bp' q1 q2 k=>k.fs.fact ?_,fun y hy σ' bp' q1 q2=>by rw [sm.n] at q1;rw [sm.bx] at q2;exact o.av y hy σ' bp' q1 q2,o.fr⟩
       have av:=o.av _ rfl σ' bp' q1 q2;have av1:Value.int .i64 (A / B) = .int .i64 (fr.1.ev σ'):=av.1;simp only [Value.int.injEq,true_and] at av1;have q3:Agr s.n σ' σ:=((show Agr _ σ' σ1 from q1).less o.le).trans o.ag
       have hs:=ubd_sound k.fs.fa hu;have he1:=he σ' q3;unfold Lin.ev at he1;rw [hx] at he1;simp only [tev,Int.ofNat_eq_natCast] at he1;rw [ev_le,<-av1]
       have:A / B<=(hh+e.c) / B:=Int.ediv_le_ediv hB0 (by omega)
       omega
      ·exact ho
     ·exact ho
   ·cases hb
 case rem =>
  cases hk:(keq k k && is64 k && ent s.fa (max 5 d) (f.plus (-1))) <;> simp only [hk,cond_true,cond_false] at hb
  ·cases hb
  ·cases hb;simp only [Bool.and_eq_true] at hk;obtain ⟨⟨hk1,hk3⟩,hk4⟩:=hk;obtain rfl:k = .i64:=by cases k <;> first | rfl | cases hk3
   have h3:=ents h hk4 σ (zaa _ _);rw [zbf,hf0] at h3;have hB0:0 < B:=by omega
   have r1:=Int.tmod_lt_of_pos A hB0
   have r2:-B < A.tmod B:=by
    have:=Int.tmod_lt_of_pos (-A) hB0
    rw [Int.neg_tmod] at this;omega
   have r3:0<=A->0<=A.tmod B:=fun h=>Int.tmod_nonneg _ h
   simp only [nat8,i64lo,i64hi] at hB;refine ⟨.int .i64 (A.tmod B),by simp [binOp,Op.intDiv,Sem.run,show ¬ B=0 by omega],fresh_out h (by simp only [nat8,i64lo];omega) (by simp only [nat8,i64hi];omega) _ fun σ' bp' q1 q2 g hg=>?_⟩
   have q3:Agr s.n σ' σ:=(q1.less (Nat.le_succ _)).trans (zg6 _ _ _);simp only [List.cons_append,List.nil_append,List.mem_cons] at hg;rcases hg with rfl | rfl | hg
   ·rw [zbf,zd0,hf σ' q3,zc3 q1];omega
   ·rw [zbf,ev_add,hf σ' q3,zc3 q1];omega
   ·cases hp:ent s.fa (max 5 d) e <;> rw [hp] at hg
    ·simp at hg
    ·simp only [cond_true,List.mem_cons,List.not_mem_nil,or_false] at hg;subst hg
     have:=ents h hp σ (zaa _ _)
     rw [he0] at this;rw [ev_ge,zc3 q1]
     have:=r3 this
     omega
 case and =>
  cases hk:keq k k <;> simp only [hk,cond_true,cond_false] at hb
  ·cases hb
  ·have hk2:=(zex hk).2;refine ⟨.int k (k.wrap (BitVec.ofInt k.bits A &&& BitVec.ofInt k.bits B).toNat),by simp [binOp,Op.intBits,Sem.run], ?_⟩
   have hany:∀ r':AV×AS,some (one (s.fint k).1,(s.fint k).2)=some r'->Outs C w0 R0 R w tg σ bp s r'.2 a (some r'.1) (.int k (k.wrap (BitVec.ofInt k.bits A &&& BitVec.ofInt k.bits B).toNat)) w:=by
    intro r' e;cases e;exact zfs h hk2 (zf0 hk2 _).1 (zf0 hk2 _).2
   split at hb
   ·rename_i ht;cases hn:nn f.c <;> rw [hn] at hb
    ·exact hany _ hb
    ·cases hb;have hB1:=(zdv _).1 hn;have hB2:f.c=B:=by rw [<-hf0,zgh σ ht]
     have hBk:=hB.2;simp only [nat8,i64hi] at hBk
     have hle:(BitVec.ofInt IntKind.i64.bits A &&& BitVec.ofInt IntKind.i64.bits B).toNat<=B.toNat:=by
      rw [BitVec.toNat_and];refine Nat.le_trans Nat.and_le_right ?_;rw [BitVec.toNat_ofInt];simp only [IntKind.bits];omega
     have hw:IntKind.i64.wrap (BitVec.ofInt IntKind.i64.bits A &&& BitVec.ofInt IntKind.i64.bits B).toNat=(BitVec.ofInt IntKind.i64.bits A &&& BitVec.ofInt IntKind.i64.bits B).toNat:=wrap_id (.inl rfl) (by simp only [nat8,i64lo];omega) (by simp only [nat8,i64hi];omega)
     rw [hw];refine fresh_out h (by simp only [nat8,i64lo];omega) (by simp only [nat8,i64hi];omega) _ fun σ' bp' q1 q2 g hg=>?_
     simp only [List.mem_cons,List.not_mem_nil,or_false] at hg;rcases hg with rfl | rfl
     ·rw [ev_ge,zc3 q1];omega
     ·rw [ev_le,zc3 q1];omega
   ·exact hany _ hb
 case or =>
  cases hk:keq k k <;> simp only [hk,cond_true,cond_false] at hb
  ·cases hb
  ·cases hb;have hk2:=(zex hk).2;exact ⟨.int k (k.wrap (BitVec.ofInt k.bits A ||| BitVec.ofInt k.bits B).toNat),by simp [binOp,Op.intBits,Sem.run],zfs h hk2 (zf0 hk2 _).1 (zf0 hk2 _).2⟩
 case xor =>
  cases hk:keq k k <;> simp only [hk,cond_true,cond_false] at hb
  ·cases hb
  ·cases hb;have hk2:=(zex hk).2;exact ⟨.int k (k.wrap (BitVec.ofInt k.bits A ^^^ BitVec.ofInt k.bits B).toNat),by simp [binOp,Op.intBits,Sem.run],zfs h hk2 (zf0 hk2 _).1 (zf0 hk2 _).2⟩
 case shl=>exact absurd rfl hns.1
 case shr=>exact absurd rfl hns.2
 case andNot=>cases hb
end
end Go.Proofs.YtckfjploafhenaaGreat.Ai
