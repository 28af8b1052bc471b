/- The interpreter's operations are sound: conversions. -/
import Derived.Test.YtikelfmmldafpaaGreatPk24
import Derived.Laws.BytesString
namespace Go.Proofs.YtikelfmmldafpaaGreat.Ai
open Go.RowKit
set_option linter.unusedVariables false
set_option linter.unusedSimpArgs false
section
variable {C:Cx} {E:Env} {w0:World} {R0:Nat→Prop} {σ:Nat→Int} {bp:Nat→Nat} {R:Nat→Prop} {s s':AS} {a:Act} {w w':World} {W:List (BE×Bool)} {o:Oper} {ov:Option AV} {tg:Option Nat}
theorem isU8_ok (hG:Good C E) {U:Nat} (h:isU8 E U=true):C.P.underlying U=some (.int .u8)∧rks C U=[.int .u8 0 255]∧sz C U=1:=by
 unfold isU8 at h
 cases hV:look U E.tb with
 | none=>rw [hV] at h;cases h
 | some V =>
  rw [hV] at h
  simp only [Bool.and_eq_true,Bool.not_eq_true'] at h
  obtain ⟨⟨h1,h2⟩,h3⟩:=h
  obtain ⟨c,d,e1,e2,e3,e4⟩:=(hG.of hV).pl h1
  obtain ⟨er,es⟩:=rks_of hG hV
  rw [e1] at h2
  have hd:d = .int .u8:=by
   cases c with
   | int k lo hi=>cases k <;> simp only [Bool.false_eq_true] at h2;exact e4
   | _=>simp at h2
  have hrk:V.rk=[.int .u8 0 255]:=by
   match hq:V.rk,h3 with
   | [.int .u8 x y],h3 =>
    simp only [Bool.and_eq_true] at h3
    have z1:=(isZ_iff _).1 h3.1
    have z2:=(isZ_iff _).1 h3.2
    rw [show x=0 by omega,show y=255 by omega]
  exact ⟨by rw [e2,hd],by rw [er,hrk],by rw [es,hrk];rfl⟩
theorem push_modify {α:Type} (l:Array α) (x:α) (f:α→α):(l.push x).modify l.size f=l.push (f x):=by
 apply Array.ext_getElem?
 intro i
 rw [Array.getElem?_modify,Array.getElem?_push,Array.getElem?_push]
 by_cases h:i=l.size
 ·subst h
  simp
 ·rw [if_neg (fun e=>h e.symm),if_neg h,if_neg h]
theorem run_strBytes {P:Program} (w:World) (U:Nat) (t:ByteArray) (ht:t.size≤1048576):∃ cap w',(Conv.stringToBytes U t).run P w = .ok (.slice (some ⟨w.heap.size,0,none⟩) t.size cap) w'∧t.size≤cap∧cap≤9223372036854775807 ∧
  New w w' (.cells (t.data.map (fun b=>Value.int .u8 b.toNat)++Array.replicate (cap - t.size) (.int .u8 0)) U (cap,cap+1)):=by
 have hcut:∀ x:Nat,t.size≤Question.cut (.appendCap t.size 0 U) x:=fun x=>by simp only [Question.cut];omega
 generalize hcap:Question.cut (.appendCap t.size 0 U) (w.tape w.drawn (.appendCap t.size 0 U))=cap at *
 have hc:t.size≤cap:=by rw [←hcap];exact hcut _
 have hc2:cap≤9223372036854775807:=by
  rw [←hcap]
  simp only [Question.cut]
  have:=Nat.mod_lt (w.tape w.drawn (.appendCap t.size 0 U)) (show 0 < 2 ^ 63 - t.size by omega)
  omega
 have hsz:(t.data.map (fun b=>Value.int .u8 b.toNat)++Array.replicate (cap - t.size) (Value.int .u8 0)).size=cap:=by
  rw [Array.size_append,Array.size_map,Array.size_replicate]
  have:t.data.size=t.size:=rfl
  omega
 generalize harr:(t.data.map (fun b=>Value.int .u8 b.toNat)++Array.replicate (cap - t.size) (Value.int .u8 0))=arr at *
 refine ⟨cap,(({ w with drawn:=w.drawn+1 }:World).alloc (.cells arr U)).freeze ⟨w.heap.size,cap,none⟩ 1, ?_,hc,hc2, ?_⟩
 ·have hsh:(({ w with drawn:=w.drawn+1 }:World).alloc (.cells arr U)).shape? w.heap.size=some (U,cap):=by
   simp [World.shape?,World.alloc,hsz]
  simp only [Conv.stringToBytes,choose,bind,Sem.bind,Sem.run,Question.forced,Bool.false_eq_true,if_false,hcap,newRow,newObj,markStringish,shape,freeze,pure]
  rw [harr]
  have hsh':({ heap:=w.heap.push (Obj.cells arr U),tape:=w.tape,drawn:=w.drawn+1,os:=w.os,output:=w.output }:World).shape? w.heap.size=some (U,cap):=hsh
  rw [hsh']
  rfl
 ·refine ⟨rfl,rfl,rfl, ?_⟩
  simp only [World.freeze,World.alloc]
  rw [if_neg (by omega)]
  rw [push_modify,harr]
  rfl
theorem byte_val (b:UInt8):∀ (R:Nat→Prop) (w:World),CkOk C R w (.int .u8 0 255) (.int .u8 b.toNat):=fun R w=>⟨_,rfl,by omega,by have:=b.toNat_lt;omega⟩
theorem ints_of:∀ {l:List Value},(∀ v∈l,∃ n,v = .int .u8 n)→∃ ns:List Int,l=ns.map (Value.int .u8)
 | [],_=>⟨[],rfl⟩
 | v::l,h=>by
  obtain ⟨n,rfl⟩:=h v List.mem_cons_self
  obtain ⟨ns,rfl⟩:=ints_of fun u hu=>h u (List.mem_cons_of_mem _ hu)
  exact ⟨n::ns,rfl⟩
theorem push_size:∀ (ns:List Int) (s:ByteArray),(ns.foldl (fun (r:ByteArray) n=>r.push (UInt8.ofNat n.toNat)) s).size=s.size+ns.length
 | [],s=>rfl
 | n::ns,s=>by
  rw [List.foldl_cons,push_size ns,ByteArray.size_push,List.length_cons]
  omega
theorem op_convert (hG:Good C E) (hB:C.B≤w0.heap.size) (h:Stt C w0 R0 σ bp R s a w) (hW:Lits s.n σ W) {ta tb':Nat} {x:Operand} (hop:o.op = .convert ta tb' x) (hx:opx E W s o.op=some (ov,s')):Does C.P ((execOp a.eval o).run C.P w) (Outs C w0 R0 R w (tgt W s o.op) σ bp s s' a ov):=by
 rw [hop] at hx
 simp only [opx] at hx
 split at hx
 ·rename_i A T v hA hT hv
  have okA:=hG.of hA
  have okT:=hG.of hT
  have vx:=fun σ' bp' (q1:Agr s.n σ' σ) (q2:Agb s.bx.length bp' bp)=>ev1_sound (h.st σ' bp' q1 q2) (hW σ' q1) hv
  have v0:=vx σ bp (agr_refl _ _) (agb_refl _ _)
  have hag:(A.agg || T.agg)=false:=by
   cases hq:(A.agg || T.agg)
   ·rfl
   ·rw [hq] at hx;cases hx
  rw [hag] at hx
  simp only [Bool.or_eq_false_iff] at hag
  obtain ⟨n1,n2⟩:=hag
  simp only [cond_false] at hx
  obtain ⟨c,d,e1,e2,e3,e4⟩:=okA.pl n1
  obtain ⟨c',d',f1,f2,f3,f4⟩:=okT.pl n2
  split at hx
  ·rename_i U V e c1 c2
   cases hc:(Nat.beq U V && isU8 E U) <;> rw [hc] at hx
   ·cases hx
   ·cases hx
    rw [Bool.and_eq_true] at hc
    have hUV:=Nat.eq_of_beq_eq_true hc.1
    subst hUV
    obtain ⟨b1,b2,b3⟩:=isU8_ok hG hc.2
    rw [c1] at e1
    rw [c2] at f1
    cases e1
    cases f1
    simp only at e4 f4
    subst f4
    rw [e4.1] at e2
    obtain ⟨b,m,c,x1,x2,x3,x4,x5⟩:=v0
    have hm:∀ σ',Agr s.n σ' σ→e.ev σ'=m:=fun σ' q=>by
     obtain ⟨b',m',c',y1,y2,_⟩:=vx σ' bp q (agb_refl _ _)
     rw [x1] at y1
     simp only [Value.slice.injEq] at y1
     rw [y2,y1.2.1]
    have key:∃ t:ByteArray,(Conv.bytesToString (.slice b m c)).run C.P w = .ok (.string t) w∧t.size=m:=by
     rcases x5 with ⟨rfl,rfl⟩ | ⟨g,k,rfl,hr⟩
     ·exact ⟨.empty, rfl, by have : m = 0 := by omega
                             subst this;rfl⟩
     ·obtain ⟨hR,cs,fz,r1,r2⟩:=hr
      obtain ⟨_,_,cs',T',fz',r3,h0,hfz,_,hcc⟩:=h.sw.hp.rows g hR
      rw [r1] at r3
      simp only [Option.some.injEq,Obj.cells.injEq] at r3
      obtain ⟨rfl,rfl,rfl⟩:=r3
      rw [b3,Nat.mul_one] at r2 ⊢
      have hget:∀ j,j < m→((cs.toList.drop k).take m)[j]?=cs[k+j]?:=fun j hj=>by rw [List.getElem?_take,if_pos hj,List.getElem?_drop,Array.getElem?_toList]
      have hlen:((cs.toList.drop k).take m).length=m:=by rw [List.length_take,List.length_drop,Array.length_toList];omega
      obtain ⟨ns,hns⟩:=ints_of (l:=(cs.toList.drop k).take m) (fun v hv=>by
       obtain ⟨j,hj,hjv⟩:=List.getElem_of_mem hv
       have hj2:j < m:=by omega
       have:cs[k+j]?=some v:=by rw [←hget j hj2,List.getElem?_eq_getElem hj,hjv]
       obtain ⟨ck,q1,q2⟩:=hcc _ v this
       rw [b2,b3,Nat.mod_one] at q1
       cases q1
       obtain ⟨n,q3,_⟩:=q2
       exact ⟨n,q3⟩)
      have hload:(loadCells ⟨g,k,none⟩ m).run C.P w = .ok (ns.map (Value.int .u8)).toArray w:=by
       have:=run_loadCells_list (P:=C.P) w ⟨g,k,none⟩ ((cs.toList.drop k).take m) (fun j v hj=>by
        have hj2:j < m:=by
         have:=(List.getElem?_eq_some_iff.1 hj).1
         omega
        rw [hget j hj2] at hj
        rw [Addr.add_mid]
        simp only [World.cell?,r1,Option.isSome_none,Bool.false_eq_true,if_false]
        exact hj)
       rw [hlen,hns] at this
       exact this
      refine ⟨_,run_bytesToString w ⟨g,k,none⟩ m c ns hload, ?_⟩
      rw [push_size]
      have:ns.length=m:=by rw [←hlen,hns,List.length_map]
      rw [this]
      exact Nat.zero_add _
    obtain ⟨t,k1,k2⟩:=key
    have run:(execOp a.eval o).run C.P w = .ok (.value (.string t)) w:=by
     cases b with
     | none=>simp only [execOp,hop,convert,Sem.run_bind,run_underlying e2,run_underlying f2,run_underlying b1,Result.andThen_ok,x1,k1,Sem.run_pure]
     | some p=>simp only [execOp,hop,convert,Sem.run_bind,run_underlying e2,run_underlying f2,run_underlying b1,Result.andThen_ok,x1,k1,Sem.run_pure]
    rw [run]
    exact out_pure h fun σ' bp' q1 q2=>⟨t,rfl,by rw [hm σ' q1,k2],by rw [k2];exact x3⟩
  ·rename_i U e c1 c2
   cases hc:isU8 E U <;> rw [hc] at hx
   ·cases hx
   ·cases hx
    obtain ⟨b1,b2,b3⟩:=isU8_ok hG hc
    rw [c1] at e1
    rw [c2] at f1
    cases e1
    cases f1
    simp only at e4 f4
    subst e4
    rw [f4.1] at f2
    obtain ⟨t,x1,x2,x3⟩:=v0
    have hL:LIM=1048576:=rfl
    obtain ⟨cap,w',r1,r2,rN,r3⟩:=run_strBytes (P:=C.P) w U t (by omega)
    have run:(execOp a.eval o).run C.P w = .ok (.value (.slice (some ⟨w.heap.size,0,none⟩) t.size cap)) w':=by
     simp only [execOp,hop,convert,Sem.run_bind,run_underlying e2,run_underlying f2,run_underlying b1,Result.andThen_ok,x1,r1,Sem.run_pure]
    rw [run]
    have hsz:(t.data.map (fun b=>Value.int .u8 b.toNat)++Array.replicate (cap - t.size) (Value.int .u8 0)).size=cap:=by
     rw [Array.size_append,Array.size_map,Array.size_replicate]
     have:t.data.size=t.size:=rfl
     omega
    refine newsl_out hG hB h r3 (by rw [b3];omega) (.inr (by rw [hsz];exact Nat.le_refl _)) (by rw [hsz,b3,Nat.mul_one]) rN (fun j v hj=>?_) r2 (fun σ' q=>?_) x3
    ·rw [b2,b3,Nat.mod_one]
     refine ⟨_,rfl, ?_⟩
     rw [Array.getElem?_append] at hj
     split at hj
     ·rw [Array.getElem?_map] at hj
      simp only [Option.map_eq_some_iff] at hj
      obtain ⟨b,_,rfl⟩:=hj
      exact byte_val b R w
     ·rw [Array.getElem?_replicate] at hj
      split at hj
      ·cases hj
       exact ⟨0,rfl,by omega,by omega⟩
      ·cases hj
    ·obtain ⟨t',y1,y2,_⟩:=vx σ' bp q (agb_refl _ _)
     rw [x1] at y1
     simp only [Value.string.injEq] at y1
     rw [←y2,←y1]
  ·rename_i k1 l1 h1 j l2 h2 k e c1 c2
   rw [c1] at e1
   rw [c2] at f1
   cases e1
   cases f1
   simp only at e4 f4
   subst e4
   subst f4
   obtain ⟨v1,v2,v3⟩:=v0
   have run:(execOp a.eval o).run C.P w = .ok (.value (.int j (j.wrap (e.ev σ)))) w:=by
    simp only [execOp,hop,convert,Sem.run_bind,run_underlying e2,run_underlying f2,Result.andThen_ok,v1,Conv.intToInt,Sem.run_pure]
   rw [run]
   have he:∀ σ',Agr s.n σ' σ→e.ev σ'=e.ev σ:=fun σ' q=>by
    have:=(vx σ' bp q (agb_refl _ _)).1
    rw [v1] at this
    simp only [Value.int.injEq,true_and] at this
    exact this.symm
   cases hk:keq k j <;> rw [hk] at hx
   ·simp only [cond_false] at hx
    cases hj:keq j j <;> rw [hj] at hx
    ·cases hx
    ·cases hx
     exact numOr_out h (keq_eq hj).2 he
   ·cases hx
    obtain ⟨rfl,hk2⟩:=keq_eq hk
    refine out_pure h fun σ' bp' q1 q2=>?_
    refine ⟨by rw [wrap_id hk2 v2 v3,he σ' q1], ?_, ?_⟩ <;> rw [he σ' q1]
    ·exact v2
    ·exact v3
  ·cases hx
 ·cases hx
end
end Go.Proofs.YtikelfmmldafpaaGreat.Ai
namespace Go.Proofs.YtikelfmmldafpaaGreat.Ai
open Go.RowKit
set_option linter.unusedVariables false
set_option linter.unusedSimpArgs false
section
variable {C:Cx} {E:Env} {w0:World} {R0:Nat→Prop} {σ:Nat→Int} {bp:Nat→Nat} {R:Nat→Prop} {s s':AS} {a:Act} {w w':World} {W:List (BE×Bool)} {o:Oper} {ov:Option AV} {tg:Option Nat}
def Tyd (C:Cx) (R:Nat→Prop) (w:World) (T:Nat) (cs:Array Value):Prop:=∀ (j:Nat) (v:Value),cs[j]?=some v→∃ c,nth (rks C T) (j % sz C T)=some c∧CkOk C R w c v
theorem zeros_tyd (hG:Good C E) (hf:∀ f∈s.fa,0≤f.ev σ) {T:Nat} {V:Ty} (hV:look T E.tb=some V) {d:Nat} (hz:fitL d s (V.cells.map zeroC) V.rk=true) (n:Nat):Tyd C R w T ((Array.range n).map fun i=>(V.cells.map zeroV).toArray[i % (V.cells.map zeroV).toArray.size]!):=by
 intro j v hj
 have ok:=hG.of hV
 obtain ⟨er,es⟩:=rks_of hG hV
 have hs:(V.cells.map zeroV).toArray.size=sz C T:=by rw [List.size_toArray,List.length_map,es,ok.rk.1]
 have hpos:0 < sz C T:=by rw [es,ok.rk.1];exact ok.rk.2
 rw [Array.getElem?_map] at hj
 simp only [Option.map_eq_some_iff] at hj
 obtain ⟨i,hi,rfl⟩:=hj
 have hij:i=j:=by
  have h1:=Array.getElem?_eq_some_iff.1 hi
  obtain ⟨h1,h2⟩:=h1
  rw [Array.getElem_range] at h2
  exact h2.symm
 subst hij
 rw [hs]
 have hm:i % sz C T < sz C T:=Nat.mod_lt _ hpos
 have hl:i % sz C T < V.rk.length:=by rw [←es];exact hm
 refine ⟨V.rk[i % sz C T],by rw [er,nth_eq];simp [hl], ?_⟩
 refine zeros_ok (C:=C) (R:=R) (w:=w) hf ok.zr hz (i % sz C T) _ _ (by simp [hl]) ?_
 rw [List.getElem?_eq_getElem (by rw [List.length_map,←ok.rk.1];exact hl)]
 congr 1
 rw [getElem!_pos _ _ (by rw [hs];exact hm)]
 simp
theorem fill_row (hG:Good C E) (h:St C w0 σ bp R s a w) (hW:∀ x∈W,x.1.ev σ=x.2) {T:Nat} {V:Ty} (hV:look T E.tb=some V) {d n:Nat}:∀ {ps:List (Nat×Operand)} {cells:Array Value},rowParts W d s V.rk ps=true→partsIn n ps=true→Tyd C R w T cells→cells.size=n * sz C T →
  ∃ r:Array Value,Instr.fill (fun i=>some (i * sz C T,sz C T)) cells (ps.map fun p=>(p.1,a.eval p.2))=some r∧Tyd C R w T r∧r.size=n * sz C T
 | [],cells,_,_,ht,hs=>⟨cells,rfl,ht,hs⟩
 | (i,x)::ps,cells,hp,hi,ht,hs=>by
  obtain ⟨er,es⟩:=rks_of hG hV
  have ok:=hG.of hV
  have hpos:0 < sz C T:=by rw [es,ok.rk.1];exact ok.rk.2
  simp only [rowParts,Bool.and_eq_true] at hp
  simp only [partsIn,Bool.and_eq_true] at hi
  have hin:i < n:=by have:=hi.1;rwa [Nat.blt_eq] at this
  cases hl:evC W s x with
  | none=>rw [hl] at hp;cases hp.1
  | some l =>
   rw [hl] at hp
   obtain ⟨f1,f2,f3,f4⟩:=fits_ok h hW hl hp.1
   have hsz:(a.eval x).cells.size=sz C T:=by rw [←Array.length_toList,f2,es]
   have hmul:(i+1) * sz C T≤n * sz C T:=Nat.mul_le_mul_right _ hin
   have hmul2:(i+1) * sz C T=i * sz C T+sz C T:=by rw [Nat.add_mul,Nat.one_mul]
   have hle:i * sz C T+(a.eval x).cells.toList.length≤cells.size:=by rw [Array.length_toList];omega
   have hfold:=fold_lay (a.eval x).cells.toList 0 (i * sz C T) cells (by omega)
   rw [Nat.add_zero,lay_eq _ _ _ (by rw [Array.length_toList];exact hle)] at hfold
   have hty:=lay_row (C:=C) (R:=R) (w:=w) (T:=T) (cs:=cells) (vs:=(a.eval x).cells.toList) (q:=i) (o:=0) hpos ht (by
    rw [er,Array.length_toList,hsz,es]
    unfold cut
    rw [List.drop_zero,List.take_length]
    exact f1) (by rw [Array.length_toList];omega) (by rw [er,es]) (by omega)
   rw [Nat.add_zero] at hty
   obtain ⟨r,r1,r2,r3⟩:=fill_row hG h hW hV (cells:=((a.eval x).cells.toList.zipIdx 0).foldl (fun (cs:Array Value) (p:Value×Nat)=>cs.setIfInBounds (i * sz C T+p.2) p.1) cells) hp.2 hi.2 (by
    intro j v hj
    refine hty j v ?_
    rw [List.getElem?_toArray,←hfold,Array.getElem?_toList]
    exact hj) (by
    rw [←Array.length_toList,hfold,List.length_append,List.length_append,List.length_take,List.length_drop,Array.length_toList]
    omega)
   refine ⟨r, ?_,r2,r3⟩
   simp only [List.map_cons,Instr.fill,hsz,ne_eq,not_true_eq_false,false_or,show ¬ (i * sz C T+sz C T > cells.size) by omega,if_false]
   rw [←r1,←Array.foldl_toList,Array.toList_zipIdx]
   simp
theorem op_buildSlice (hG:Good C E) (hB:C.B≤w0.heap.size) (h:Stt C w0 R0 σ bp R s a w) (hW:Lits s.n σ W) {t n:Nat} {ps:Array (Nat×Operand)} (hop:o.op = .buildSlice t n ps) (hx:opx E W s o.op=some (ov,s')):Does C.P ((execOp a.eval o).run C.P w) (Outs C w0 R0 R w (tgt W s o.op) σ bp s s' a ov):=by
 rw [hop] at hx
 simp only [opx,Option.bind_eq_some_iff] at hx
 obtain ⟨T,hT,V,hV,hx⟩:=hx
 cases hc:(slT E t T.el && nn (LIM - n) && Nat.ble (n * V.cells.length) 16777216 && partsIn n ps.toList && rowParts W (dz E) s V.rk ps.toList && fitL (dz E) s (V.cells.map zeroC) V.rk) <;> rw [hc] at hx
 ·cases hx
 ·cases hx
  simp only [Bool.and_eq_true] at hc
  obtain ⟨⟨⟨⟨⟨c1,c2⟩,c3⟩,c4⟩,c5⟩,c6⟩:=hc
  obtain ⟨u1,u2,u3,_⟩:=slT_ok hG c1
  obtain ⟨er,es⟩:=rks_of hG hV
  have ok:=hG.of hV
  obtain ⟨z,z1,z2⟩:=ok.zero
  have c2:=(nn_iff _).1 c2
  have c3:=Nat.le_of_ble_eq_true c3
  have h0:=h.here
  have hW0:=hW σ (agr_refl _ _)
  have hzt:=zeros_tyd (C:=C) (E:=E) (R:=R) (w:=w) hG h0.fs.fa hV c6 (n * sz C T.el)
  obtain ⟨r,r1,r2,r3⟩:=fill_row hG h0 hW0 hV c5 c4 hzt (by rw [Array.size_map,Array.size_range])
  have hle:¬ (n * sz C T.el > 2 ^ 24):=by rw [es,ok.rk.1];omega
  have run:(execOp a.eval o).run C.P w = .ok (.value (.slice (some ⟨w.heap.size,0,none⟩) n n)) (w.alloc (.cells r T.el)):=by
   have hmap:(ps.map fun x=>(x.1,a.eval x.2)).toList=ps.toList.map fun p=>(p.1,a.eval p.2):=by simp
   simp only [execOp,hop,Instr.buildSlice,Sem.run_bind,run_underlying u1,run_sizeOf u2,Result.andThen_ok,if_neg hle]
   by_cases hz:n * sz C T.el=0
   ·rw [hz] at r1 ⊢
    have e:∀ f:Nat→Value,Array.map f (Array.range 0)=#[]:=fun f=>by simp
    rw [e] at r1
    simp only [if_true,Sem.run_bind,Sem.run_pure,Result.andThen_ok,e]
    rw [hmap,r1]
    rfl
   ·simp only [if_neg hz,Sem.run_bind,run_zero z1,Result.andThen_ok,Sem.run_pure,z2]
    rw [hmap,r1]
    rfl
  rw [run]
  exact newsl_out hG hB h (w':=w.alloc (.cells r T.el)) ⟨rfl,rfl,rfl,rfl⟩ u3 (.inl rfl) r3 (by have hL:LIM=1048576:=rfl;omega) r2 (Nat.le_refl _) (fun σ' q=>ev_cst σ' _) (by omega)
end
end Go.Proofs.YtikelfmmldafpaaGreat.Ai
namespace Go.Proofs.YtikelfmmldafpaaGreat.Ai
open Go.RowKit
set_option linter.unusedVariables false
set_option linter.unusedSimpArgs false
section
variable {C:Cx} {E:Env} {w0:World} {R0:Nat→Prop} {σ:Nat→Int} {bp:Nat→Nat} {R:Nat→Prop} {s s':AS} {a:Act} {w w':World} {W:List (BE×Bool)} {o:Oper} {ov:Option AV} {tg:Option Nat}
def TydL (C:Cx) (R:Nat→Prop) (w:World) (T:Nat) (l:List Value):Prop:=∀ (j:Nat) (v:Value),l[j]?=some v→∃ c,nth (rks C T) (j % sz C T)=some c∧CkOk C R w c v
theorem TydL.append {T k:Nat} {l r:List Value} (h:TydL C R w T l) (g:TydL C R w T r) (hl:l.length=k * sz C T):TydL C R w T (l++r):=by
 intro j v hj
 by_cases hlt:j < l.length
 ·rw [List.getElem?_append_left hlt] at hj
  exact h j v hj
 ·rw [List.getElem?_append_right (by omega)] at hj
  obtain ⟨c,e1,e2⟩:=g _ v hj
  refine ⟨c, ?_,e2⟩
  have e:j=sz C T * k+(j - l.length):=by rw [Nat.mul_comm,←hl];omega
  rw [e,Nat.mul_add_mod]
  exact e1
theorem sl_cells (h:Hp C R w) {T m c:Nat} {b:Option Addr} (hs:(b=none∧c=0)∨∃ g k,b=some ⟨g,k * sz C T,none⟩∧RowAt R w T g ((k+c) * sz C T)) (hm:m≤c) :
  ∃ l:List Value,l.length=m * sz C T∧TydL C R w T l∧(∀ v∈l,v.oneCell'=true)∧∀ (P:Program) (w':World),(∀ g,R g→w'.heap[g]?=w.heap[g]?)→(Builtin.firstCells (sz C T) m (.slice b m c)).run P w' = .ok l.toArray w':=by
 rcases hs with ⟨rfl,rfl⟩ | ⟨g,k,rfl,hR,cs,fz,r1,r2⟩
 ·have:m=0:=by omega
  subst this
  exact ⟨[],by simp,fun j v hj=>by simp at hj,by simp,fun P w' _=>rfl⟩
 ·obtain ⟨_,_,cs',T',fz',r3,h0,hfz,_,hcc⟩:=h.rows g hR
  rw [r1] at r3
  simp only [Option.some.injEq,Obj.cells.injEq] at r3
  obtain ⟨rfl,rfl,rfl⟩:=r3
  have hmul:(k+c) * sz C T=k * sz C T+c * sz C T:=Nat.add_mul _ _ _
  have hmc:m * sz C T≤c * sz C T:=Nat.mul_le_mul_right _ hm
  have hget:∀ j,j < m * sz C T→((cs.toList.drop (k * sz C T)).take (m * sz C T))[j]?=cs[k * sz C T+j]?:=fun j hj=>by rw [List.getElem?_take,if_pos hj,List.getElem?_drop,Array.getElem?_toList]
  have hlen:((cs.toList.drop (k * sz C T)).take (m * sz C T)).length=m * sz C T:=by rw [List.length_take,List.length_drop,Array.length_toList];omega
  have hty:TydL C R w T ((cs.toList.drop (k * sz C T)).take (m * sz C T)):=by
   intro j v hj
   have hj2:j < m * sz C T:=by
    have:=(List.getElem?_eq_some_iff.1 hj).1
    omega
   rw [hget j hj2] at hj
   obtain ⟨ck,q1,q2⟩:=hcc _ v hj
   rw [Nat.mul_comm,Nat.mul_add_mod] at q1
   exact ⟨ck,q1,q2⟩
  refine ⟨_,hlen,hty,fun v hv=>?_,fun P w' hw=>?_⟩
  ·obtain ⟨j,hj,hjv⟩:=List.getElem_of_mem hv
   obtain ⟨ck,q1,q2⟩:=hty j v (by rw [List.getElem?_eq_getElem hj,hjv])
   cases ck with
   | int k lo hi=>obtain ⟨_,rfl,_⟩:=q2;rfl
   | bool=>obtain ⟨_,rfl⟩:=q2;rfl
   | str=>obtain ⟨_,rfl,_⟩:=q2;rfl
   | sl T=>obtain ⟨_,_,_,_,rfl,_⟩:=q2;rfl
   | cur=>rw [show v=_ from q2];rfl
  ·have:=run_loadCells_list (P:=P) w' ⟨g,k * sz C T,none⟩ ((cs.toList.drop (k * sz C T)).take (m * sz C T)) (fun j v hj=>by
    have hj2:j < m * sz C T:=by
     have:=(List.getElem?_eq_some_iff.1 hj).1
     omega
    rw [hget j hj2] at hj
    rw [Addr.add_mid]
    simp only [World.cell?,hw g hR,r1,Option.isSome_none,Bool.false_eq_true,if_false]
    exact hj)
   rw [hlen] at this
   exact this
theorem src_sl (hG:Good C E) (h:Hp C R w) {tx T m c:Nat} {b:Option Addr} (ht:slT E tx T=true) (hs:(b=none∧c=0)∨∃ g k,b=some ⟨g,k * sz C T,none⟩∧RowAt R w T g ((k+c) * sz C T)) (hm:m≤c) :
  ∃ l:List Value,TydL C R w T l∧Src C.P (sz C T) tx (.slice b m c) m l w:=by
 obtain ⟨u1,u2,u3,_⟩:=slT_ok hG ht
 obtain ⟨l,l1,l2,l3,l4⟩:=sl_cells h hs hm
 exact ⟨l,l2,⟨.inl ⟨_,u1⟩,fun w'=>rfl,l4 _ _ fun _ _=>rfl,l4 _ _ fun _ _=>rfl,l1,l3⟩⟩
end
end Go.Proofs.YtikelfmmldafpaaGreat.Ai
namespace Go.Proofs.YtikelfmmldafpaaGreat.Ai
open Go.RowKit
set_option linter.unusedVariables false
set_option linter.unusedSimpArgs false
section
variable {C:Cx} {E:Env} {w0:World} {R0:Nat→Prop} {σ:Nat→Int} {bp:Nat→Nat} {R:Nat→Prop} {s s':AS} {a:Act} {w w':World} {W:List (BE×Bool)} {o:Oper} {ov:Option AV} {tg:Option Nat}
theorem src_str (hG:Good C E) {tx T:Nat} (ht:isStr E tx=true) (hu:isU8 E T=true) (t:ByteArray):∃ l:List Value,TydL C R w T l∧Src C.P (sz C T) tx (.string t) t.size l w:=by
 have u1:=isStr_ok hG ht
 obtain ⟨b1,b2,b3⟩:=isU8_ok hG hu
 refine ⟨((t.extract 0 t.size).data.map fun b=>Value.int .u8 b.toNat).toList,fun j v hj=>?_,⟨.inr u1,fun w'=>rfl,rfl,rfl, ?_,fun u hu=>?_⟩⟩
 ·rw [b2,b3,Nat.mod_one]
  rw [Array.getElem?_toList,Array.getElem?_map] at hj
  simp only [Option.map_eq_some_iff] at hj
  obtain ⟨b,_,rfl⟩:=hj
  exact ⟨_,rfl,byte_val b R w⟩
 ·rw [b3,Nat.mul_one,Array.length_toList,Array.size_map]
  have:(t.extract 0 t.size).size=t.size:=by simp
  exact this
 ·rw [Array.mem_toList_iff,Array.mem_map] at hu
  obtain ⟨b,_,rfl⟩:=hu
  rfl
theorem next_le (n c:Nat) (hn:n≤1048576) (hc:c < n):Builtin.nextslicecap n c≤33554432:=by
 unfold Builtin.nextslicecap
 split
 ·omega
 ·split
  ·omega
  ·have key:∀ r c,c≤1048576 * 2 ^ (4 - r)→256≤c→r≤4→Builtin.growBy n r c≤1048576 * 16:=by
    intro r
    induction r with
    | zero=>intro c h _ _;simpa [Builtin.growBy] using h
    | succ r ih =>
     intro c h h2 h3
     unfold Builtin.growBy
     split
     ·refine Nat.le_trans h ?_
      exact Nat.mul_le_mul_left _ (Nat.pow_le_pow_right (by omega) (by omega:4 - (r+1)≤4))
     ·refine ih _ ?_ (by omega) (by omega)
      have e:4 - r=(4 - (r+1))+1:=by omega
      rw [e,Nat.pow_succ]
      omega
   have:=key 4 c (by omega) (by omega) (by omega)
   omega
theorem run_app_room {P:Program} {t tx ty e g q m c n:Nat} {i:TypeInfo} {x:Value} {news:List Value} {cur:Array Value} {fz:Nat×Nat} (ht:P.underlying t=some (.slice e)) (hi:P.info? e=some i) (hs:Src P i.size tx x n news w) (hroom:m+n≤c) (hg:w.heap[g]?=some (.cells cur e fz)) (hf:fz=(0,0)∨cur.size≤fz.1) (hl:q+m * i.size+news.length≤cur.size) :
  (Builtin.append_ #[t,tx] ty #[.slice (some ⟨g,q,none⟩) m c,x]).run P w = .ok (.slice (some ⟨g,q,none⟩) (m+n) c) (w.setRow g (cur.toList.take (q+m * i.size)++news++cur.toList.drop (q+m * i.size+news.length)).toArray):=by
 have hst:=run_storeCells_row (P:=P) g (q+m * i.size) e fz news 0 cur w hg hf (by omega) hs.one
 rw [Nat.add_zero] at hst
 rcases hs.kind with ⟨e',hk⟩ | hk <;> simp [Builtin.append_,run_underlying ht,run_underlying hk,sizeOf,typeInfo,hi,hs.len,hroom,hs.cells,Addr.add_mid,hst]
end
end Go.Proofs.YtikelfmmldafpaaGreat.Ai
