/- Own rows: copied onto, made longer, put out of the way: run equations at any size of element. No program in sight. -/
import Derived.Test.YtckfjploafhenaaGreatPk16
import Derived.Laws.CopyRow
import Derived.Laws.Tables
import Derived.Lib.AppendZerosOnto
import Derived.Lib.Overlaps
import Derived.Laws.Externs
import Derived.Test.YtckfjploafhenaaGreatProg
import Derived.Deep.QuietTactic
import Derived.BigQuiet
import Derived.Test.YtckfjploafhenaaGreatPk14
import Derived.Test.YtckfjploafhenaaGreatPk13
set_option maxRecDepth 100000
set_option maxHeartbeats 16000000
set_option linter.unusedVariables false
set_option linter.unusedSimpArgs false
namespace Go.Proofs.YtckfjploafhenaaGreat
open Go.ChangeShapes Go.WideShapes Go.ChangeAt Go.RowKit Go.Sort
section
variable {P:Program}
theorem run_copy_any (w:World) (dT sT ty elem:TypeId) (g o dLen dCap:Nat) (a:Addr) (sLen sCap size:Nat) (cur:Array Value) (t:TypeId) (cs:List Value)
  (hu:P.underlying dT=some (.slice elem)) (hs:(P.info? elem).map (·.size)=some size)
  (hg:w.heap[g]?=some (.cells cur t (0,0))) (hn:cs.length=Nat.min sLen dLen * size)
  (hsrc:∀ j v,cs[j]?=some v->w.cell? (a.add j)=some v) (hfit:o+cs.length<=cur.size) (h1:∀ v∈cs,v.oneCell'=true) :
  (Builtin.copy_ #[dT,sT] ty #[.slice (some ⟨g,o,none⟩) dLen dCap, .slice (some a) sLen sCap]).run P w =
   .ok (goInt (Nat.min sLen dLen)) (w.setRow g (cur.toList.take o++cs++cur.toList.drop (o+cs.length)).toArray):=by
 have hl:=run_loadCells_list (P:=P) w a cs hsrc;have hst:=run_storeCells_at P g o t cs 0 cur w hg (by simpa using hfit) h1
 cases hq:P.info? elem with
 | none=>simp [hq] at hs
 | some i =>
  have hi:i.size=size:=by simpa [hq] using hs
  simp [Builtin.copy_,run_underlying hu,Builtin.lenOf,Builtin.firstCells,sizeOf,typeInfo,hq,hi,<-hn,hl,hst]
theorem grown_setRow (w:World) (g:Nat) (cs:Array Value):w.grownBy (w.setRow g cs) (some g) :=
 ⟨rfl,rfl,rfl,by simp,fun k _ hne=>setRow_other w g k cs (fun e=>hne (by rw [e]))⟩
theorem zet {w:World} {B g n c:Nat} {e:TypeId} {sz:Nat} {xs:List Value} (ho:w.ownsRow B e sz (.slice (some ⟨g,0,none⟩) n c) n xs) (dT sT ty:TypeId) (o dLen dCap:Nat) (a:Addr) (sLen sCap:Nat) (cs:List Value)
  (hu:P.underlying dT=some (.slice e)) (hs:(P.info? e).map (·.size)=some sz) (hn:cs.length=Nat.min sLen dLen * sz) (hsrc:∀ j v,cs[j]?=some v->w.cell? (a.add j)=some v) (hfit:o+cs.length<=n * sz) (h1:∀ v∈cs,v.oneCell'=true) :
  ∃ w',(Builtin.copy_ #[dT,sT] ty #[.slice (some ⟨g,o,none⟩) dLen dCap, .slice (some a) sLen sCap]).run P w = .ok (goInt (Nat.min sLen dLen)) w' /\
   w'.ownsRow B e sz (.slice (some ⟨g,0,none⟩) n c) n (xs.take o++cs++xs.drop (o+cs.length))/\w.grownBy w' (some g):=by
 have hxl:=ho.1;rcases ho.2 with ⟨h2,_⟩ | ⟨g',cap,cur,hv,hb,hg,hnc,hcm,hcs,htake⟩
 ·cases h2
 ·simp only [Value.slice.injEq,Option.some.injEq,Addr.mk.injEq] at hv;obtain ⟨⟨rfl,_⟩,_,rfl⟩:=hv;have hle:n * sz<=c * sz:=Nat.mul_le_mul_right sz hnc;refine ⟨_,run_copy_any w dT sT ty e g o dLen dCap a sLen sCap sz cur e cs hu hs hg hn hsrc (by omega) h1,⟨?_, .inr ⟨g,c,_,rfl,hb,setRow_heap w g cur _ e (0,0) hg,hnc,hcm, ?_, ?_⟩⟩,grown_setRow _ _ _⟩
  ·simp only [List.length_append,List.length_take,List.length_drop];omega
  ·have:cur.toList.length=c * sz:=by simpa using hcs
   simp only [List.size_toArray,List.length_append,List.length_take,List.length_drop];omega
  ·have hcl:cur.toList.length=c * sz:=by simpa using hcs
   rw [<-htake];simp only [List.toList_toArray];have e1:(cur.toList.take (n * sz)).take o=cur.toList.take o:=by rw [List.take_take,Nat.min_eq_left (by omega)]
   have e2:(cur.toList.take (n * sz)).drop (o+cs.length)=(cur.toList.drop (o+cs.length)).take (n * sz - (o+cs.length)):=by rw [List.drop_take]
   rw [e1,e2];rw [List.take_append,List.take_of_length_le (by simp only [List.length_append,List.length_take];omega)]
   congr 2;simp only [List.length_append,List.length_take];omega
theorem own_room {w:World} {B g n c:Nat} {e:TypeId} {sz:Nat} {xs:List Value} (ho:w.ownsRow B e sz (.slice (some ⟨g,0,none⟩) n c) n xs) (hr:n+1<=c) :
  ∃ ys,ys.length=sz/\w.ownsRow B e sz (.slice (some ⟨g,0,none⟩) (n+1) c) (n+1) (xs++ys):=by
 have hxl:=ho.1;rcases ho.2 with ⟨h2,_⟩ | ⟨g',cap,cur,hv,hb,hg,hnc,hcm,hcs,htake⟩
 ·cases h2
 ·simp only [Value.slice.injEq,Option.some.injEq,Addr.mk.injEq] at hv;obtain ⟨⟨rfl,_⟩,_,rfl⟩:=hv;have hle:(n+1) * sz<=c * sz:=Nat.mul_le_mul_right sz hr;rw [Nat.succ_mul] at hle;have hcl:cur.toList.length=c * sz:=by simpa using hcs
  refine ⟨(cur.toList.drop (n * sz)).take sz,by simp only [List.length_take,List.length_drop];omega, ?_, .inr ⟨g,c,cur,rfl,hb,hg,hr,hcm,hcs, ?_⟩⟩
  ·simp only [List.length_append,List.length_take,List.length_drop,hxl,Nat.succ_mul];omega
  ·rw [<-htake,Nat.succ_mul,List.take_add]
theorem own_zeros {w:World} {B g n c:Nat} {e:TypeId} {sz:Nat} {xs:List Value} (ho:w.ownsRow B e sz (.slice (some ⟨g,0,none⟩) n c) n xs) (t tn ty:TypeId) (i0:TypeInfo) (z:Value) (kq kn:IntKind) (ht:P.underlying t=some (.slice e)) (htn:P.underlying tn=some (.int kn))
  (hi:P.info? e=some i0) (hz:i0.zero=some z) (h4:i0.size=sz) (hzs:z.cells.size=sz) (hsz:0 < sz) (i k:Nat) (hk:0 < k) (hin:i<=n) (hroom:c < i+k) (hbig:(i+k) * i0.bytes<=140737488355328) (h63:i+k<=1099511627776) (hB:B<=w.heap.size) :
  ∃ w' g' c',(Builtin.append_ #[t,tn] ty #[.slice (some ⟨g,0,none⟩) i c, .int kq k]).run P w = .ok (.slice (some ⟨g',0,none⟩) (i+k) c') w'/\g'=w.heap.size /\
   (∃ ys,ys.length=k * sz/\w'.ownsRow B e sz (.slice (some ⟨g',0,none⟩) (i+k) c') (i+k) (xs.take (i * sz)++ys))/\w.grownBy w' none:=by
 have hxl:=ho.1;have hle:i * sz<=n * sz:=Nat.mul_le_mul_right sz hin;have hfit:=growslice_fits (bytes:=i0.bytes) hroom hbig
 have hold:(Builtin.firstCells i0.size i (.slice (some ⟨g,0,none⟩) i c)).run P w.drew = .ok (xs.take (i * sz)).toArray w.drew:=by
  rw [h4];refine run_firstCells_some w.drew sz i ⟨g,0,none⟩ i c (xs.take (i * sz)) (by rw [List.length_take];omega) (fun j v hj=>?_)
  rw [Addr.add_lit,Nat.zero_add];rw [List.getElem?_take] at hj;split at hj
  ·show w.cell? _=_;rw [World.ownsRow.cellAt ho j (by omega)]
   exact hj
  ·cases hj
 have h:=Lib.run_append_grow_zeros w t tn ty e i0 z kq kn ht htn hi hz (some ⟨g,0,none⟩) i c (xs.take (i * sz)) hold k hk (by omega) hroom (by omega) (by
  have h9:k * i0.bytes<=(i+k) * i0.bytes:=Nat.mul_le_mul_right _ (by omega)
  omega) hfit
 have hG:=grownCap_ge w (i+k) c e;have hG2:=grownCap_le_maxLen w (i+k) c e (by unfold maxLen;omega)
 have hzl:∀ q,(Builtin.zeroCells z.cells q).size=q * sz:=fun q=>by simp [Builtin.zeroCells,hzs]
 refine ⟨_,_,_,h,rfl,⟨(Builtin.zeroCells z.cells k).toList,by simp [hzl], ?_, .inr ⟨w.heap.size,_,_,rfl,hB,heap_alloc_new w.drew _,hG,hG2, ?_, ?_⟩⟩, ?_⟩
 ·simp only [List.length_append,List.length_take,Array.length_toList,hzl,Nat.add_mul,hxl];omega
 ·simp only [Array.size_append,hzl,List.size_toArray,List.length_take,hxl,Nat.min_eq_left hle];have h8:(grownCap w (i+k) c e - (i+k)) * sz+(i+k) * sz=grownCap w (i+k) c e * sz:=by rw [<-Nat.add_mul];congr 1;omega
  rw [Nat.add_mul] at h8;omega
 ·simp only [Array.toList_append,List.toList_toArray];rw [List.take_append,List.take_of_length_le (by simp only [List.length_append,List.length_take,Array.length_toList,hzl,Nat.add_mul];omega)]
  have:(i+k) * sz - ((xs.take (i * sz))++(Builtin.zeroCells z.cells k).toList).length=0:=by
   simp only [List.length_append,List.length_take,Array.length_toList,hzl,Nat.add_mul];omega
  rw [this]
  simp
 ·exact ⟨rfl,rfl,rfl,by simp,fun k hk _=>by
   show (w.drew.alloc _).heap[k]?=_;rw [zfu,if_neg (by show ¬ k=w.heap.size;omega)]
   rfl⟩
theorem zgi {w:World} {ops:Array Oper} {rest:List Oper} {o:Oper} {a:Act} {Q:Exit->Act->World->Prop} (hgd:o.guard=none) (s x:Operand) (t tn:TypeId)
  (hop:o.op = .call { callee := .builtin .append,args:=#[s,x],argTypes:=#[t,tn] }) (g i c:Nat) (hs:a.eval s = .slice (some ⟨g,0,none⟩) i c) (kq:IntKind) (K:Int) (hx:a.eval x = .int kq K) (k:Nat) (hK:K=k)
  {B n:Nat} {e:TypeId} {sz:Nat} {xs:List Value} (ho:w.ownsRow B e sz (.slice (some ⟨g,0,none⟩) n c) n xs) (i0:TypeInfo) (z:Value) (kn:IntKind) (ht:P.underlying t=some (.slice e)) (htn:P.underlying tn=some (.int kn))
  (hi:P.info? e=some i0) (hz:i0.zero=some z) (h4:i0.size=sz) (hzs:z.cells.size=sz) (hsz:0 < sz) (hk:0 < k) (hin:i<=n) (hroom:c < i+k) (hbig:(i+k) * i0.bytes<=140737488355328) (h63:i+k<=1099511627776) (hB:B<=w.heap.size) (N:Nat) (hN:i+k=N)
  (h:∀ w' c' ys,ys.length=k * sz->w'.ownsRow B e sz (.slice (some ⟨w.heap.size,0,none⟩) N c') N (xs.take (i * sz)++ys)->w.grownBy w' none->wpList P ops Q rest (a.put o.dst (.slice (some ⟨w.heap.size,0,none⟩) N c')) w'):wpList P ops Q (o::rest) a w:=by
 subst hK hN;obtain ⟨w',g',c',hr,rfl,⟨ys,hy,h2⟩,h3⟩:=own_zeros ho t tn o.type i0 z kq kn ht htn hi hz h4 hzs hsz i k hk hin hroom hbig h63 hB;exact Lib.wpList_append_run w hgd s x t tn hop _ _ hs hx _ _ hr (h w' c' ys hy h2 h3)
theorem own_apart {w:World} {tS tR e:TypeId} (ht:P.underlying tS=some (.slice e)) {size:Nat} (hz:∀ w,(Go.sizeOf e).run P w = .ok size w) {p g:Nat} {cs cr:Array Value} {ta tb:TypeId} (hp:w.heap[p]?=some (.cells cs ta (0,0))) (hg:w.heap[g]?=some (.cells cr tb (0,0))) (hne:p≠g) (h0:cr.size≠0)
  (oa ob la ca lb cb:Nat):(Extern.SlicesOverlaps.overlaps #[tS,tS] #[tR] #[.slice (some ⟨p,oa,none⟩) la ca, .slice (some ⟨g,ob,none⟩) lb cb]).run P w = .ok (.bool false) w :=
 Lib.run_overlaps_apart w tS tR e ht size hz ⟨p,oa,none⟩ ⟨g,ob,none⟩ la ca lb cb hne ta tb cs.size cr.size (by simp [World.shape?,hp]) (by simp [World.shape?,hg]) h0 (zad hp _) (zad hp _)
theorem own_heap {w:World} {B g n c:Nat} {e:TypeId} {sz:Nat} {xs:List Value} (ho:w.ownsRow B e sz (.slice (some ⟨g,0,none⟩) n c) n xs):∃ cur:Array Value,w.heap[g]?=some (.cells cur e (0,0))/\cur.size=c * sz:=by
 rcases ho.2 with ⟨h2,_⟩ | ⟨g',cap,cur,hv,hb,hg,hnc,hcm,hcs,htake⟩
 ·cases h2
 ·simp only [Value.slice.injEq,Option.some.injEq,Addr.mk.injEq] at hv;obtain ⟨⟨rfl,_⟩,_,rfl⟩:=hv;exact ⟨cur,hg,hcs⟩
end
theorem zds {w w':World} {B:Nat} {e:TypeId} {sz:Nat} {v:Value} {n:Nat} {xs:List Value} {row:Option Nat} (h:w.ownsRow B e sz v n xs) (hg:w.grownBy w' row) (hne:∀ k,v.ownBlock=some k->row≠some k):w'.ownsRow B e sz v n xs:=by
 refine ⟨h.1, ?_⟩;rcases h.2 with h2 | ⟨g,cap,cur,hv,hb,hh,r⟩
 ·exact .inl h2
 ·refine .inr ⟨g,cap,cur,hv,hb, ?_,r⟩;rw [hg.block g (Array.getElem?_eq_some_iff.1 hh).1 (fun he=>hne g (by rw [hv];rfl) he.symm)]
  exact hh
theorem own_cap {w:World} {B n c g:Nat} {e:TypeId} {sz:Nat} {xs:List Value} (h:w.ownsRow B e sz (.slice (some ⟨g,0,none⟩) n c) n xs):n<=c/\c<=9223372036854775807:=by
 rcases h.2 with ⟨h2,_⟩ | ⟨g',cap,cur,hv,hb,hg,hnc,hcm,hcs,htake⟩
 ·cases h2
 ·simp only [Value.slice.injEq] at hv;obtain ⟨_,_,rfl⟩:=hv;exact ⟨hnc,hcm⟩
theorem zbe {w w':World} {row:Option Nat} (h:Ext w w'):w.grownBy w' row:=⟨h.os,h.tape,h.output,h.size,fun k hk _=>h.block k hk⟩
theorem zar {w:World} {P:Nat} {cs:Array Value} {T:TypeId} (h:w.heap[P]?=some (.cells cs T (0,0))) (k:Nat) (u:Value):(w.setCell ⟨P,k,none⟩ u).heap[P]?=some (.cells (cs.setIfInBounds k u) T (0,0)):=by
 rw [setCell_eq_setRow w P k cs T (0,0) u h];exact setRow_heap w P cs _ T (0,0) h
theorem sz_set (w:World) (p:Addr) (u:Value):(w.setCell p u).heap.size=w.heap.size:=by simp
theorem ins_new {α:Type} {enc:α->List Value} {sz:Nat} (hsz:∀ x,(enc x).length=sz) (l:List α) (i:Nat) (hi:i < l.length) (x:α) (ys:List Value) (hy:ys.length=(l.length+1 - i) * sz) :
  let r1:=(l.flatMap enc).take (i * sz)++ys
  let r2:=r1.take (i * sz)++enc x++r1.drop (i * sz+(enc x).length)
  r2.take ((i+1) * sz)++(l.flatMap enc).drop (i * sz)++r2.drop ((i+1) * sz+((l.flatMap enc).drop (i * sz)).length)=(l.take i++x::l.drop i).flatMap enc:=by
 intro r1 r2;have hf:=zae hsz l;have hle:i * sz<=l.length * sz:=Nat.mul_le_mul_right sz (by omega)
 have ht:((l.flatMap enc).take (i * sz)).length=i * sz:=by rw [List.length_take];omega
 have htk:(l.flatMap enc).take (i * sz)=(l.take i).flatMap enc:=by
  rw [<-List.take_append_drop i l,List.flatMap_append,List.take_left' (by rw [zae hsz,List.length_take,Nat.min_eq_left (by omega)]),List.take_append_drop]
 have hdk:(l.flatMap enc).drop (i * sz)=(l.drop i).flatMap enc:=by
  rw [<-List.take_append_drop i l,List.flatMap_append,List.drop_left' (by rw [zae hsz,List.length_take,Nat.min_eq_left (by omega)]),List.take_append_drop]
 have e1:r1.take (i * sz)=(l.flatMap enc).take (i * sz):=List.take_left' ht
 have e2:r2.take ((i+1) * sz)=(l.flatMap enc).take (i * sz)++enc x:=by
  show (r1.take (i * sz)++enc x++_).take _=_;rw [e1];exact List.take_left' (by rw [List.length_append,ht,hsz,Nat.succ_mul])
 have e3:r2.drop ((i+1) * sz+((l.flatMap enc).drop (i * sz)).length)=[]:=by
  refine List.drop_eq_nil_of_le ?_
  have hy2:ys.length+i * sz=(l.length+1) * sz:=by
   rw [hy,<-Nat.add_mul];congr 1;omega
  show (r1.take (i * sz)++enc x++r1.drop (i * sz+(enc x).length)).length<=_;have hr1:r1.length=i * sz+ys.length:=by show (_++ys).length=_;rw [List.length_append,ht]
  simp only [List.length_append,List.length_take,List.length_drop,hr1,hsz,hf];rw [Nat.succ_mul] at *;omega
 rw [e2,e3,List.append_nil,htk,hdk];simp [List.flatMap_append,List.append_assoc]
theorem ins_room {α:Type} {enc:α->List Value} {sz:Nat} (hsz:∀ x,(enc x).length=sz) (l:List α) (i:Nat) (hi:i < l.length) (x:α) (ys:List Value) (hy:ys.length=sz) :
  let r1:=l.flatMap enc++ys
  let r2:=r1.take ((i+1) * sz)++(l.flatMap enc).drop (i * sz)++r1.drop ((i+1) * sz+((l.flatMap enc).drop (i * sz)).length)
  r2.take (i * sz)++enc x++r2.drop (i * sz+(enc x).length)=(l.take i++x::l.drop i).flatMap enc:=by
 intro r1 r2;have hf:=zae hsz l;have hle:(i+1) * sz<=l.length * sz:=Nat.mul_le_mul_right sz (by omega)
 have hle':=hle;rw [Nat.succ_mul] at hle'
 have htk:(l.flatMap enc).take (i * sz)=(l.take i).flatMap enc:=by
  rw [<-List.take_append_drop i l,List.flatMap_append,List.take_left' (by rw [zae hsz,List.length_take,Nat.min_eq_left (by omega)]),List.take_append_drop]
 have hdk:(l.flatMap enc).drop (i * sz)=(l.drop i).flatMap enc:=by
  rw [<-List.take_append_drop i l,List.flatMap_append,List.drop_left' (by rw [zae hsz,List.length_take,Nat.min_eq_left (by omega)]),List.take_append_drop]
 have e0:r1.drop ((i+1) * sz+((l.flatMap enc).drop (i * sz)).length)=[]:=by
  refine List.drop_eq_nil_of_le ?_;show (l.flatMap enc++ys).length<=_;simp only [List.length_append,List.length_drop,hf,hy];rw [Nat.succ_mul];omega
 have hr1:(r1.take ((i+1) * sz)).length=(i+1) * sz:=by
  rw [List.length_take];show min _ (l.flatMap enc++ys).length=_;rw [List.length_append,hf];omega
 have e1:r2.take (i * sz)=(l.flatMap enc).take (i * sz):=by
  show (r1.take ((i+1) * sz)++_++_).take (i * sz)=_;rw [List.append_assoc,List.take_append_of_le_length (by rw [hr1,Nat.succ_mul];omega),List.take_take,Nat.min_eq_left (by rw [Nat.succ_mul];omega)]
  show (l.flatMap enc++ys).take (i * sz)=_;rw [List.take_append_of_le_length (by omega)]
 have e2:r2.drop (i * sz+(enc x).length)=(l.flatMap enc).drop (i * sz):=by
  show (r1.take ((i+1) * sz)++_++_).drop _=_;rw [e0,List.append_nil];exact List.drop_left' (by rw [hr1,hsz,Nat.succ_mul])
 rw [e1,e2,htk,hdk];simp [List.flatMap_append,List.append_assoc]
theorem bits_and_le (x:Int) (m:Nat) (hm:m < 9223372036854775808):0<=bits .and .i64 x m/\bits .and .i64 x m<=m:=by
 have e:bits .and .i64 x m=IntKind.i64.wrap ((BitVec.ofInt 64 x &&& BitVec.ofInt 64 (m:Int)).toNat:Int):=rfl
 have h1:(BitVec.ofInt 64 x &&& BitVec.ofInt 64 (m:Int)).toNat<=m:=by
  rw [BitVec.toNat_and];refine Nat.le_trans Nat.and_le_right ?_;rw [BitVec.toNat_ofInt];omega
 rw [e,IntKind.wrap_i64];generalize (BitVec.ofInt 64 x &&& BitVec.ofInt 64 (m:Int)).toNat=q at *;omega
def CodeOk (w:World) (A:Option Addr) (n P:Nat):Prop:=n<=1048576/\(0 < n->∃ b o,A=some ⟨b,o,none⟩/\b < P/\∀ k,k < n->∃ y:Nat,y<=255/\w.cell? ⟨b,o+k,none⟩=some (.int .u8 y))
theorem CodeOk.grown {w w':World} {A:Option Addr} {n P:Nat} (h:CodeOk w A n P) (hP:P<=w.heap.size) {row:Option Nat} (hg:w.grownBy w' row) (hr:∀ g,row=some g->P<=g):CodeOk w' A n P:=by
 refine ⟨h.1,fun h0=>?_⟩
 obtain ⟨b,o,e,hb,hc⟩:=h.2 h0;refine ⟨b,o,e,hb,fun k hk=>?_⟩
 obtain ⟨y,hy,hcell⟩:=hc k hk;refine ⟨y,hy, ?_⟩;rw [World.cell?_of_block (a:=⟨b,o+k,none⟩) (hg.block b (by omega) (fun he=>by have:=hr b he.symm;omega))]
 exact hcell
theorem CodeOk.up {w:World} {A:Option Addr} {n P P':Nat} (h:CodeOk w A n P) (hP:P<=P'):CodeOk w A n P':=⟨h.1,fun h0=>by
 obtain ⟨b,o,e,hb,hc⟩:=h.2 h0
 exact ⟨b,o,e,by omega,hc⟩⟩
def Cur (w:World) (P:Nat) (A:Option Addr) (n c:Nat):Prop:=n<=c/\c<=9223372036854775807/\CodeOk w A n P/\∃ (i:Nat) (h:Int),i<=n/\w.heap[P]?=some (.cells #[.slice A n c, .int .i64 i, .int .i64 h] 96 (0,0))
theorem Cur.lt {w:World} {P:Nat} {A:Option Addr} {n c:Nat} (h:Cur w P A n c):P < w.heap.size:=by
 obtain ⟨_,_,_,i,x,_,hb⟩:=h;exact bx_lt hb
theorem Cur.grown {w w':World} {P:Nat} {A:Option Addr} {n c:Nat} (h:Cur w P A n c) {row:Option Nat} (hg:w.grownBy w' row) (hr:∀ g,row=some g->P < g):Cur w' P A n c:=by
 have hl:=h.lt;obtain ⟨h1,h2,h3,i,x,hi,hb⟩:=h;exact ⟨h1,h2,h3.grown (by omega) hg (fun g he=>by have:=hr g he;omega),i,x,hi,zef hb hg (fun he=>by have:=hr P he;omega)⟩
theorem Cur.ext {w w':World} {P:Nat} {A:Option Addr} {n c:Nat} (h:Cur w P A n c) (hx:Ext w w'):Cur w' P A n c:=h.grown (zbe (row:=none) hx) (fun g he=>by cases he)
def Drawn (w:World) (P:Nat) (A:Option Addr) (n c:Nat) (Q:Int->Prop) (e:Ending) (w':World):Prop:=∃ x:Int,Q x/\e = .returned (.int .i64 x)/\Cur w' P A n c/\w.grownBy w' (some P)
def Byte255 (x:Int):Prop:=0<=x/\x<=255
theorem zhs {w w':World} {P:Nat} {A:Option Addr} {n c:Nat} {Q:Int->Prop} {x:Int} (hq:Q x) (hc:Cur w' P A n c) (hg:w.grownBy w' (some P)):Drawn w P A n c Q (.returned (.int .i64 x)) w':=⟨x,hq,rfl,hc,hg⟩
theorem zfi {w w':World} {p:Addr} {u:Value} {P:Nat} (h:w.grownBy w' (some P)) (hp:p.block=P):w.grownBy (w'.setCell p u) (some P) :=
 ⟨h.os,h.tape,h.output,by simpa using h.size,fun k hk hne=>(Below.heap_setCell _ _ _ _ (fun e=>hne (by rw [e,hp]))).trans (h.block k hk hne)⟩
theorem zdm {w w':World} {row:Option Nat} (h:w.grownBy w' row) (n:Nat):w.grownBy (w'.drewN n) row:=⟨h.os,h.tape,h.output,h.size,h.block⟩
theorem box_drewN {w:World} {P:Nat} {o:Obj} (h:w.heap[P]?=some o) (n:Nat):(w.drewN n).heap[P]?=some o:=h
theorem c_l1Byte (P:Nat) (A:Option Addr) (n c:Nat) (w:World) (hc:Cur w P A n c):Calls Tryz.prog 81 #[.pointer (some ⟨P,0,none⟩)] w (Drawn w P A n c Byte255):=by
 obtain ⟨h1,h2,h3,i,h,hi,hb⟩:=hc;have hn20:=h3.1;have cb:=za2 hb;have fb:=zad hb;have zb:=bx_lt hb;have H3:=Hd h3;have HB:=Hd hb;clear h3 hb;by_cases hlt:i < n
 ·obtain ⟨bb,oo,rfl,hbb,hcell⟩:=H3.out.2 (by omega)
  obtain ⟨y,hy,e0⟩:=hcell i hlt;have hbw:bb < w.heap.size:=by omega
  have hne:¬ bb=P:=by omega
  clear hcell
  go_enter Tryz.func81,Tryz.ntmps81
  go_wp2
  go_quiet (fail)
  go_wp2
  go_quiet (fail)
  go_wp2
  go_quiet (fail)
  go_wp2
  go_ret
  refine zhs (bits_and_le _ 255 (by omega)) ?_ ?_
  ·exact ⟨h1,h2,H3.out.grown (by omega) (zfi (zdm (zfi (World.grownBy.refl w _) rfl) _) rfl) (fun g he=>by simp only [Option.some.injEq] at he;omega),i+1,_,by omega,zar (box_drewN (zar HB.out 2 _) _) 1 _⟩
  ·exact zfi (zdm (zfi (World.grownBy.refl w _) rfl) _) rfl
 ·obtain rfl:i=n:=by omega
  go_enter Tryz.func81,Tryz.ntmps81
  go_wp2
  go_quiet (fail)
  go_wp2
  go_quiet (fail)
  go_wp2
  go_ret
  refine zhs (bits_and_le _ 255 (by omega)) ?_ ?_
  ·exact ⟨h1,h2,H3.out.grown (by omega) (zdm (zdm (zfi (World.grownBy.refl w _) rfl) _) _) (fun g he=>by simp only [Option.some.injEq] at he;omega),i,_,by omega,box_drewN (box_drewN (zar HB.out 2 _) _) _⟩
  ·exact zdm (zdm (zfi (World.grownBy.refl w _) rfl) _) _
def Less (m:Int) (x:Int):Prop:=0<=x/\(x < m\/m<=0/\x=0)
theorem c_l1Below (P:Nat) (A:Option Addr) (n c:Nat) (m:Int) (w:World) (hc:Cur w P A n c) (hm:m<=9223372036854775807):Calls Tryz.prog 42 #[.pointer (some ⟨P,0,none⟩), .int .i64 m] w (Drawn w P A n c (Less m)):=by
 by_cases h0:m<=0
 ·go_enter Tryz.func42,Tryz.ntmps42
  go_wp2
  go_ret
  exact zhs ⟨by omega, .inr ⟨h0,rfl⟩⟩ hc (World.grownBy.refl _ _)
 ·by_cases h1:m<=256
  ·go_enter Tryz.func42,Tryz.ntmps42
   go_wp2_with fail
   refine (c_l1Byte P A n c w hc).mono ?_;rintro e w1 ⟨x,⟨hx0,hx1⟩,rfl,hc1,hg1⟩;have hr:=Int.emod_nonneg x (show m≠0 by omega)
   have hr2:=Int.emod_lt_of_pos x (show 0 < m by omega)
   go_wp2
   go_ret
   exact zhs ⟨hr, .inl hr2⟩ hc1 hg1
  ·go_enter Tryz.func42,Tryz.ntmps42
   go_wp2_with fail
   refine (c_l1Byte P A n c w hc).mono ?_;rintro e w1 ⟨x1,⟨p1,q1⟩,rfl,hc1,hg1⟩;go_wp2_with fail
   refine (c_l1Byte P A n c _ hc1).mono ?_;rintro e w2 ⟨x2,⟨p2,q2⟩,rfl,hc2,hg2⟩;go_wp2_with fail
   refine (c_l1Byte P A n c _ hc2).mono ?_;rintro e w3 ⟨x3,⟨p3,q3⟩,rfl,hc3,hg3⟩;go_wp2_with fail
   refine (c_l1Byte P A n c _ hc3).mono ?_;rintro e w4 ⟨x4,⟨p4,q4⟩,rfl,hc4,hg4⟩;have hr:=Int.emod_nonneg (x1 * 16777216+x2 * 65536+x3 * 256+x4) (show m≠0 by omega)
   have hr2:=Int.emod_lt_of_pos (x1 * 16777216+x2 * 65536+x3 * 256+x4) (show 0 < m by omega)
   go_wp2
   go_ret
   exact zhs ⟨hr, .inl hr2⟩ hc4 (zcv hg1 (zcv hg2 (zcv hg3 hg4)))
def OneOf (l:List Int) (x:Int):Prop:=x∈l
theorem c_l1PickInt (P:Nat) (A:Option Addr) (n c:Nat) (g:Nat) (l:List Int) (w:World) (hc:Cur w P A n c) (hl:0 < l.length) (hl2:l.length<=256) (hg:w.heap[g]?=some (.cells (l.map (Value.int .i64)).toArray 3 (0,0))) (hgP:g≠P) :
  Calls Tryz.prog 74 #[.pointer (some ⟨P,0,none⟩), .slice (some ⟨g,0,none⟩) l.length l.length] w (Drawn w P A n c (OneOf l)):=by
 go_enter Tryz.func74,Tryz.ntmps74
 go_wp2_with fail
 refine (c_l1Below P A n c l.length w hc (by omega)).mono ?_
 rintro e w1 ⟨x,⟨hx0,hx1⟩,rfl,hc1,hg1⟩;obtain ⟨k,rfl⟩:∃ k:Nat,x=k:=⟨x.toNat,by omega⟩
 have hk:k < l.length:=by omega
 have hcell:w1.cell? ⟨g,k,none⟩=some (.int .i64 l[k]):=by
  rw [za2 (zef hg hg1 (by simp only [ne_eq,Option.some.injEq];omega)) k]
  simp [hk]
 clear hx1;go_wp2
 go_ret
 exact zhs (List.getElem_mem hk) hc1 hg1
theorem c_l1New (A:Option Addr) (n c:Nat) (w:World) (hc:CodeOk w A n w.heap.size) (hnc:n<=c) (hcm:c<=9223372036854775807):Calls Tryz.prog 11 #[.slice A n c] w fun e w'=>(∃ P,e = .returned (.pointer (some ⟨P,0,none⟩))/\w.heap.size<=P/\Cur w' P A n c)/\Ext w w':=by
 have hn20:=hc.1
 go_enter Tryz.func11,Tryz.ntmps11
 go_wp2
 go_loop [3,4] (fun h i=>∃ (k:Nat) (x:Int),k<=n/\i = .int .i64 k/\h = .int .i64 x) (fun _ i=>n - (intOf i).toNat)
 case atStart=>exact ⟨0,_,Nat.zero_le _,rfl,rfl⟩
 case round =>
  obtain ⟨k,x,hk,rfl,rfl⟩:=hrel;by_cases hlt:k < n
  ·by_cases h4:k < 4000
   ·obtain ⟨b,o,rfl,hb,hcell⟩:=hc.2 (by omega)
    obtain ⟨y,hy,e0⟩:=hcell k hlt;clear hcell;go_wp2
    go_round
    case rel=>exact ⟨k+1,_,by omega,by go_num,rfl⟩
    case measure=>simp [intOf] <;> omega
   ·have h4':decide ((k:Int) < 4000)=false:=by simp;omega
    go_wp2
    go_ret
    exact ⟨⟨_,rfl,Nat.le_refl _,hnc,hcm,(hc.up (Nat.le_refl _)).grown (Nat.le_refl _) (zbe (row:=none) (za1 _ _)) (fun g he=>by cases he),0,_,Nat.zero_le _,hNew rfl⟩,za1 _ _⟩
  ·go_wp2
   go_ret
   exact ⟨⟨_,rfl,Nat.le_refl _,hnc,hcm,(hc.up (Nat.le_refl _)).grown (Nat.le_refl _) (zbe (row:=none) (za1 _ _)) (fun g he=>by cases he),0,_,Nat.zero_le _,hNew rfl⟩,za1 _ _⟩
theorem c_big_no (A:Option Addr) (n c:Nat) (w:World) (h:n<=1048576):Calls Tryz.prog 4 #[.slice A n c] w fun e w'=>e = .returned (.bool false)/\Ext w w':=by
 have h':decide ((1048576:Int) < (n:Int))=false:=by simp;omega
 go_enter Tryz.func4,Tryz.ntmps4
 go_wp2
 go_ret
 exact ⟨rfl,za4 _⟩
theorem c_big_yes (A:Option Addr) (n c:Nat) (w:World) (h:1048576 < n) (h2:n<=9223372036854775807):Calls Tryz.prog 4 #[.slice A n c] w fun e w'=>e = .returned (.bool true)/\Ext w w':=by
 have h':decide ((1048576:Int) < (n:Int))=true:=by simp;omega
 go_enter Tryz.func4,Tryz.ntmps4
 go_wp2
 go_ret
 exact ⟨rfl,za4 _⟩
theorem old_cell {w w':World} (hx:Ext w w') {b y:Nat} (hb:b < w.heap.size):w'.cell? ⟨b,y,none⟩=w.cell? ⟨b,y,none⟩:=hx.rules.1 b y hb
end Go.Proofs.YtckfjploafhenaaGreat
namespace Go.Proofs.YtckfjploafhenaaGreat.Ai
open Go.RowKit
noncomputable def cx (K:Int) (Q:Nat) (A:Option Addr) (n c:Nat):Cx:=⟨Tryz.prog,tb K,Q+1,Q,fun w=>Cur w Q A n c⟩
theorem cur_keep {w w':World} {Q:Nat} {A:Option Addr} {n c:Nat} (h:Cur w Q A n c) (hp:w'.heap[Q]?=w.heap[Q]?) (hb:∀ g,g < Q+1->w'.heap[g]?=w.heap[g]?):Cur w' Q A n c:=by
 obtain ⟨h1,h2,⟨h3,h4⟩,i,x,h5,h6⟩:=h;refine ⟨h1,h2,⟨h3,fun h0=>?_⟩,i,x,h5,by rw [hp];exact h6⟩
 obtain ⟨b,o,e,hlt,hc⟩:=h4 h0;refine ⟨b,o,e,hlt,fun k hk=>?_⟩
 obtain ⟨y,hy,hcell⟩:=hc k hk;exact ⟨y,hy,by rw [World.cell?_of_block (a:=⟨b,o+k,none⟩) (hb b (by omega))];exact hcell⟩
theorem fn_of {P:Program} {f:FuncId} {F:Func} (hf:P.funcs[f]?=some F) (hn:(F.name == "runtime.NumGoroutine")=false) (hb:F.body.isSome=true) (args:Array Value) (w:World):(callFunc f args).run P w = .ok (.enter f args) w:=by
 obtain ⟨b,hb⟩:=Option.isSome_iff_exists.1 hb;have h1:F.name ≠ "runtime.NumGoroutine":=by simpa using hn
 simp [callFunc,hf,h1,hb]
theorem vals1 {C:Cx} {R:Nat->Prop} {w:World} {a:Bool×List Ck}:∀ {l:List Value},zey C R w [a] l->∃ v,l=[v]/\ValOk C R w a v
 | [v],h=>⟨v,rfl,h.1⟩
 | [],h=>h.elim
 | _::_::_,h=>h.2.elim
theorem vals2 {C:Cx} {R:Nat->Prop} {w:World} {a b:Bool×List Ck}:∀ {l:List Value},zey C R w [a,b] l->∃ v u,l=[v,u]/\ValOk C R w a v/\ValOk C R w b u
 | [v,u],h=>⟨v,u,rfl,h.1,h.2.1⟩
 | [],h=>h.elim
 | [_],h=>h.2.elim
 | _::_::_::_,h=>h.2.2.elim
section
variable {K:Int} {Q n c:Nat} {A:Option Addr}
theorem baseK (hK:K=1\/K=3\/K=5):Base (cx K Q A n c) (tb K) eqs where
 tb:=fun t T h=>h
 cur:=fun w w' h hp hb=>cur_keep h hp hb
 ty:=ty_all hK
 eq:=eq_all hK
 hm:=rfl
theorem base0 (hK:K=1\/K=3\/K=5):Base (cx K Q A n c) tb0 eqs where
 tb:=fun t T h=>look_app t (tbK K) h
 cur:=fun w w' h hp hb=>cur_keep h hp hb
 ty:=ty_all hK
 eq:=eq_all hK
 hm:=rfl
theorem draw_turn {C:Cx} {R:Nat->Prop} {w w':World} (h:Hp C R w) (hg:w.grownBy w' (some C.pc)) (hc:C.Cur w'):Gw C R R w w'/\Hp C R w':=by
 have same:∀ g,g < w.heap.size->g≠C.pc->w'.heap[g]?=w.heap[g]?:=fun g h1 h2=>hg.block g h1 fun e=>h2 (by cases e;rfl)
 have gw:Gw C R R w w':=⟨hg.os,hg.tape,hg.output,hg.size,fun _ _=>Iff.rfl,fun g h1 _ h3=>same g h1 h3,fun g hR cs T fz e=>⟨cs,fz,by rw [same g (h.lt hR) (h.rows g hR).2.1];exact e,rfl⟩⟩
 refine ⟨gw,fun g hR=>?_,hc,Nat.lt_of_lt_of_le h.pc hg.size,Nat.le_trans h.B hg.size⟩
 obtain ⟨h1,h2,cs,T,fz,h3,h4,h5,h6,h7⟩:=h.rows g hR;refine ⟨h1,h2,cs,T,fz,by rw [same g (h.lt hR) h2];exact h3,h4,h5,h6,fun j v hj=>?_⟩
 obtain ⟨k,e1,e2⟩:=h7 j v hj;exact ⟨k,e1,e2.gr (gw.gr fun g hg=>h.lt hg)⟩
theorem zba (hK:K=1\/K=3\/K=5):Kept (cx K Q A n c) 42 c_l1Below:=by
 refine ⟨fun w R args hhp hargs hpre=>?_,fun args w=>fn_of (P:=Tryz.prog) Tryz.func42 rfl rfl args w, ?_⟩
 ·obtain ⟨v1,v2,hl,h1,h2⟩:=vals2 hargs
  have hargs':args=#[v1,v2]:=by
   cases args;simp only at hl;rw [hl]
  have e1:v1 = .pointer (some ⟨Q,0,none⟩):=h1.1;obtain ⟨⟨m,e2,m1,m2⟩,_⟩:=h2;subst hargs';subst e1;subst e2;have hm2:m<=9223372036854775807:=m2;refine Calls.mono (Go.Proofs.YtckfjploafhenaaGreat.c_l1Below Q A n c m w hhp.cur hm2) ?_;rintro e w' ⟨x,⟨x1,x2⟩,rfl,hc,hg⟩;obtain ⟨gw,hp⟩:=draw_turn hhp hg hc;have hx:i64lo<=x/\x<=i64hi:=by simp only [i64lo,i64hi] at *;omega
  refine ⟨_,[.int .i64 x],R,rfl,rfl,gw,hp,⟨⟨⟨x,rfl,hx.1,hx.2⟩,trivial⟩,trivial⟩,fun p hpm hq=>?_⟩
  have z1:ζ (nums [.pointer (some ⟨Q,0,none⟩), .int .i64 m]++nums [.int .i64 x]) 1=m:=rfl;have z2:ζ (nums [.pointer (some ⟨Q,0,none⟩), .int .i64 m]++nums [.int .i64 x]) 2=x:=rfl;simp only [c_l1Below,List.mem_cons,List.not_mem_nil,or_false] at hpm;rcases hpm with rfl | rfl | rfl
  ·simp only [Lin.ev,tev,z2];omega
  ·have:=hq _ List.mem_cons_self
   simp only [Lin.ev,tev,z1,z2] at this ⊢;omega
  ·have:=hq _ List.mem_cons_self
   simp only [Lin.ev,tev,z1,z2] at this ⊢;omega
 ·intro o ho k hk;simp only [c_l1Below,List.mem_cons,List.not_mem_nil,or_false] at ho;subst ho;simp only [List.mem_cons,List.not_mem_nil,or_false] at hk;subst hk;exact zgp (by kernel_rfl)
end
structure Hand (K:Int) (Q:Nat) (A:Option Addr) (n c:Nat):Prop where
 look:Kept (cx K Q A n c) 185 (zc1 K)
end Go.Proofs.YtckfjploafhenaaGreat.Ai
namespace Go.Proofs.YtckfjploafhenaaGreat.Ai
open Go.RowKit
def KPost (C:Cx) (c:Ctr) (R:Nat->Prop) (w:World) (args:List Value) (e:Ending) (w':World):Prop :=
 ∃ (v:Value) (outs:List Value) (R':Nat->Prop),e = .returned v/\v=(match outs with | [u]=>u | l => .tuple l.toArray)/\Gw C R R' w w'/\Hp C R' w'/\zey C R' w' c.outs outs /\
  ∀ p∈c.post,(∀ q∈p.1,0<=q.ev (ζ (nums args++nums outs)))->0<=p.2.ev (ζ (nums args++nums outs))
section
variable {C:Cx} {E:Env} {σ:Nat->Int} {bp:Nat->Nat} {R R1:Nat->Prop} {s t:AS} {a a':Act} {w w1 w':World} {f:Func} {c:Ctr} {ys:List Sy} {args:List Value}
theorem fin_of (hG:Good C E) (hz:∀ σ',Agr s.n σ' σ->ys.map (Sy.ev σ')=nums args) (nx:Nx C w R σ bp s t a' w') (he:endOk E f c ys t=true):a'.defers=[]/\∃ v,(Go.results f a'.tmps).run C.P w' = .ok v w'/\KPost C c R w args (.returned v) w':=by
 obtain ⟨σ2,bp2,R2,g1,g2,g3,g4,g5⟩:=nx;unfold endOk at he;split at he
 ·cases he
 ·rename_i outs hres;simp only [Bool.and_eq_true] at he;obtain ⟨us,u1,u2⟩:=zhe hG g5 hres;obtain ⟨v1,v2⟩:=valsR_ok g5.here.fs.fa u2 he.1;refine ⟨g5.sw.df,_,run_results u1,outV us,us,R2,rfl,rfl,g5.sw.gw,g5.sw.hp,v1,fun p hp hq=>?_⟩
  have hz2:(ys++outs.flatMap fun l=>l.2.map (symR t)).map (Sy.ev σ2)=nums args++nums us:=by
   rw [List.map_append,v2,hz σ2 g1]
  exact postOk_ok hz2 (List.all_eq_true.1 he.2 p hp) g5.here.fs hq
def left (E:Env) (f:Func) (c:Ctr) (ys:List Sy) (code:Code) (s:AS) (h:List Hn):Bool:=match exec E code s h with
 | some (r,[])=>r.x.isEmpty && (r.n++r.r).all (endOk E f c ys)
 | _=>false
theorem left_ok (hG:Goods C E) (hm:C.P.follows .mixedOrders=true) (hB:C.B<=w.heap.size) {code:Code} {h:List Hn} (hl:left E f c ys code s h=true) (hz:∀ σ',Agr s.n σ' σ->ys.map (Sy.ev σ')=nums args) (st:Stt C w R σ bp R1 s a w1):code.wp C.P (bodyPost C.P f (KPost C c R w args)) a w1:=by
 unfold left at hl;split at hl
 ·rename_i r hex;simp only [Bool.and_eq_true] at hl;refine wp_mono (zhh hG hB hm code s h _ r hex σ bp R1 a w1 st) fun e a' w' he=>?_
  cases e <;> simp only [Post,bodyPost] at he ⊢
  ·obtain ⟨t,ht,nx⟩:=he;exact fin_of hG.toGood hz nx (List.all_eq_true.1 hl.2 t (List.mem_append_left _ ht))
  ·obtain ⟨p,hp,_⟩:=he;rw [List.isEmpty_iff.1 hl.1] at hp;cases hp
  ·obtain ⟨t,ht,nx⟩:=he;exact fin_of hG.toGood hz nx (List.all_eq_true.1 hl.2 t (List.mem_append_right _ ht))
 ·cases hl
end
end Go.Proofs.YtckfjploafhenaaGreat.Ai
