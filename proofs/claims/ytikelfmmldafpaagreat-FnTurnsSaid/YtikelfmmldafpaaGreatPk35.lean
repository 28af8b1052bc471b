/- The interpreter's tables say the truth of the program's types. Printed by a program. -/
import Derived.Test.YtikelfmmldafpaaGreatPk34
import Derived.Laws.StructEq
import Derived.Test.YtikelfmmldafpaaGreatProg
import Derived.Test.YtikelfmmldafpaaGreatPk1
import Derived.Deep.QuietTactic
import Derived.BigQuiet
import Derived.Test.YtikelfmmldafpaaGreatPk33
namespace Go.Proofs.YtikelfmmldafpaaGreat.Ai
open Go.RowKit
set_option linter.unusedVariables false
set_option linter.unusedSimpArgs false
set_option maxRecDepth 100000
def Zs (P:Program):List (Nat×Ty)→Prop
 | []=>True
 | x::r=>(P.info? x.1).bind (·.zero)=some (zeroT x.2)∧Zs P r
theorem Zs.at {P:Program}:∀ {l:List (Nat×Ty)},Zs P l→∀ x∈l,(P.info? x.1).bind (·.zero)=some (zeroT x.2)
 | [],_,x,h=>by cases h
 | y::r,k,x,h=>by
  rcases List.mem_cons.1 h with rfl | h
  ·exact k.1
  ·exact Zs.at k.2 x h
theorem tyB0:tb0.all (fun x=>tyB Tryz.prog x.1 x.2)=true:=by kernel_rfl
theorem tyBK {K:Int} (hK:K=1∨K=3∨K=5):(tbK K).all (fun x=>tyB Tryz.prog x.1 x.2)=true:=by rcases hK with rfl | rfl | rfl <;> kernel_rfl
theorem zs0:Zs Tryz.prog tb0:=⟨by kernel_rfl,by kernel_rfl,by kernel_rfl,by kernel_rfl,by kernel_rfl,by kernel_rfl,by kernel_rfl,by kernel_rfl,by kernel_rfl,by kernel_rfl,by kernel_rfl,by kernel_rfl,by kernel_rfl,by kernel_rfl,by kernel_rfl,by kernel_rfl,by kernel_rfl,by kernel_rfl,by kernel_rfl,by kernel_rfl,by kernel_rfl,by kernel_rfl,by kernel_rfl,by kernel_rfl,by kernel_rfl,by kernel_rfl,by kernel_rfl,trivial⟩
theorem zsK (K:Int):Zs Tryz.prog (tbK K):=⟨by kernel_rfl,by kernel_rfl,by kernel_rfl,trivial⟩
theorem ty_all {K:Int} (hK:K=1∨K=3∨K=5):∀ t T,look t (tb K)=some T→TyOk Tryz.prog t T:=by
 intro t T h
 have hm:=look_mem t h
 unfold tb at hm
 rcases List.mem_append.1 hm with hm | hm
 ·exact tyOk_of (List.all_eq_true.1 tyB0 _ hm) (zs0.at _ hm)
 ·exact tyOk_of (List.all_eq_true.1 (tyBK hK) _ hm) ((zsK K).at _ hm)
theorem look_app {α:Type} (t:Nat) (r:List (Nat×α)):∀ {l:List (Nat×α)} {x:α},look t l=some x→look t (l++r)=some x
 | [],x,h=>by cases h
 | (u,y)::l,x,h=>by
  simp only [look] at h
  show look t ((u,y)::(l++r))=some x
  simp only [look]
  cases hb:Nat.beq t u <;> rw [hb] at h
  ·exact look_app t r h
  ·exact h
def eqB (P:Program):Nat→TypeId→Nat→Bool
 | 0,_,_=>false
 | m+1,t,n=>match P.underlying t with
  | some (.int _)=>Nat.beq n 1
  | some (.struct _)=>!P.stoodInHeld t && (P.fieldsOf t).toList.all fun f=>(f.name != "_") && (match P.info? f.type with
   | some i=>Nat.ble (f.offset+i.size) n && eqB P m f.type i.size
   | none=>false)
  | _=>false
def IsV (P:Program) (t:TypeId) (n:Nat) (v:Value):Prop :=
 (∃ k,P.underlying t=some (.int k)∧∃ a,v = .int .i64 a)∨(∃ fs,P.underlying t=some (.struct fs)∧∃ zs:List Int,zs.length=n∧v = .agg (zs.map (Value.int .i64)).toArray)
theorem part_ints {P:Program} {w:World} {m t:Nat} {i:TypeInfo} (hi:P.info? t=some i) (h:eqB P m t i.size=true) {zs:List Int} {off:Nat} (hl:off+i.size≤zs.length):∃ v,(part t (zs.map (Value.int .i64)).toArray off).run P w = .ok v w∧IsV P t i.size v:=by
 cases m with
 | zero=>cases h
 | succ m =>
  unfold eqB at h
  split at h
  ·rename_i k hu
   have hn:=Nat.eq_of_beq_eq_true h
   have hag:(isAgg t).run P w = .ok false w:=by
    unfold isAgg
    rw [Sem.run_bind,run_underlying hu w]
    rfl
   refine ⟨.int .i64 zs[off], ?_, .inl ⟨k,hu,_,rfl⟩⟩
   unfold part
   simp only [Sem.run_bind,hag,Result.andThen_ok,Bf,if_false]
   have:(zs.map (Value.int .i64)).toArray[off]?=some (.int .i64 zs[off]):=by
    rw [List.getElem?_toArray,List.getElem?_map,List.getElem?_eq_getElem (by omega)]
    rfl
   rw [this]
   rfl
  ·rename_i fs hu
   have hag:(isAgg t).run P w = .ok true w:=by
    unfold isAgg
    rw [Sem.run_bind,run_underlying hu w]
    rfl
   refine ⟨.agg (((zs.drop off).take i.size).map (Value.int .i64)).toArray, ?_, .inr ⟨fs,hu,_,by simp;omega,rfl⟩⟩
   have hsz:(sizeOf t).run P w = .ok i.size w:=run_sizeOf (by rw [hi];rfl)
   unfold part
   simp only [Sem.run_bind,hag,Result.andThen_ok,if_true,hsz,Sem.run_pure]
   congr 2
   apply Array.ext'
   simp [List.map_take,List.map_drop]
  ·cases h
theorem eq_ints {P:Program} {w:World}:∀ (m:Nat) {t n d:Nat},eqB P m t n=true→m≤d→∀ {x y:Value},IsV P t n x→IsV P t n y→∃ b:Bool,(Op.equalIn d t x y).run P w = .ok b w
 | 0,t,n,d,h,_,x,y,_,_=>by cases h
 | m+1,t,n,0,h,hd,x,y,_,_=>by omega
 | m+1,t,n,d+1,h,hd,x,y,hx,hy=>by
  unfold eqB at h
  split at h
  ·rename_i k hu
   have key:∀ {v:Value},IsV P t n v→∃ a,v = .int .i64 a:=by
    rintro v (⟨_,_,a,e⟩ | ⟨fs,hf,_⟩)
    ·exact ⟨a,e⟩
    ·rw [hu] at hf;cases hf
   obtain ⟨a,rfl⟩:=key hx
   obtain ⟨b,rfl⟩:=key hy
   exact ⟨_,run_equalIn_int w d t .i64 k a b hu⟩
  ·rename_i fs hu
   simp only [Bool.and_eq_true,Bool.not_eq_true'] at h
   have key:∀ {v:Value},IsV P t n v→∃ zs:List Int,zs.length=n∧v = .agg (zs.map (Value.int .i64)).toArray:=by
    rintro v (⟨_,hf,_⟩ | ⟨fs,hf,zs,e1,e2⟩)
    ·rw [hu] at hf;cases hf
    ·exact ⟨zs,e1,e2⟩
   obtain ⟨xs,x1,rfl⟩:=key hx
   obtain ⟨ys,y1,rfl⟩:=key hy
   have hfo:P.fieldsOf t=fs:=by simp [Program.fieldsOf,hu]
   rw [run_equalIn_struct w d t _ _ (by rw [hfo];exact hu) h.1]
   have all:=List.all_eq_true.1 h.2
   generalize (P.fieldsOf t).toList=l at all
   induction l with
   | nil=>exact ⟨true,by simp [Op.eqFields]⟩
   | cons f l ih =>
    have hf:=all f List.mem_cons_self
    simp only [Bool.and_eq_true,bne_iff_ne,ne_eq] at hf
    obtain ⟨hname,hf⟩:=hf
    split at hf
    ·rename_i i hi
     simp only [Bool.and_eq_true] at hf
     have hle:=Nat.le_of_ble_eq_true hf.1
     obtain ⟨v1,p1,p2⟩:=part_ints (w:=w) hi hf.2 (zs:=xs) (off:=f.offset) (by omega)
     obtain ⟨v2,q1,q2⟩:=part_ints (w:=w) hi hf.2 (zs:=ys) (off:=f.offset) (by omega)
     obtain ⟨b,hb⟩:=eq_ints (w:=w) m (d:=d) hf.2 (by omega) p2 q2
     obtain ⟨r,hr⟩:=ih fun g hg=>all g (List.mem_cons_of_mem _ hg)
     simp only [Op.eqFields,ne_eq,hname,not_false_eq_true,if_true,Sem.run_bind,p1,q1,hb,Result.andThen_ok]
     cases b
     ·exact ⟨false,rfl⟩
     ·exact ⟨r,hr⟩
    ·cases hf
  ·cases h
theorem eq_of {P:Program} {t n:Nat} (hk:eqB P 5 t n=true) {fs:Array Field} (hu:P.underlying t=some (.struct fs)) (hg:P.eqGuardType P.depth t=false) {a b:List Int} (ha:a.length=n) (hb:b.length=n) (w:World) (x y:Operand) :
  ∃ r:Bool,(eqGuard .eql t x y (.agg (a.map (Value.int .i64)).toArray) (.agg (b.map (Value.int .i64)).toArray)).run P w = .ok () w∧(eqGuard .neq t x y (.agg (a.map (Value.int .i64)).toArray) (.agg (b.map (Value.int .i64)).toArray)).run P w = .ok () w∧(Op.equal t (.agg (a.map (Value.int .i64)).toArray) (.agg (b.map (Value.int .i64)).toArray)).run P w = .ok r w:=by
 obtain ⟨r,hr⟩:=eq_ints (w:=w) 5 (d:=10000) hk (by omega) (.inr ⟨fs,hu,a,ha,rfl⟩) (.inr ⟨fs,hu,b,hb,rfl⟩)
 exact ⟨r,run_eqGuard_agg w .eql t x y _ _ hg,run_eqGuard_agg w .neq t x y _ _ hg,hr⟩
theorem underS (t:TypeId) (h:(match Tryz.prog.underlying t with | some (.struct _)=>true | _=>false)=true):Tryz.prog.underlying t=some (.struct (Tryz.prog.fieldsOf t)):=by
 unfold Program.fieldsOf
 split at h
 ·rename_i fs hu
  rw [hu]
 ·cases h
theorem eq_all {K:Int} (hK:K=1∨K=3∨K=5):∀ t,mem t eqs=true→∀ T,look t (tb K)=some T→∀ (w:World) (l r:List Int),l.length=T.cells.length→r.length=T.cells.length→∀ (x y:Operand),∃ b:Bool,
  (eqGuard .eql t x y (.agg (l.map (Value.int .i64)).toArray) (.agg (r.map (Value.int .i64)).toArray)).run Tryz.prog w = .ok () w∧(eqGuard .neq t x y (.agg (l.map (Value.int .i64)).toArray) (.agg (r.map (Value.int .i64)).toArray)).run Tryz.prog w = .ok () w ∧
  (Op.equal t (.agg (l.map (Value.int .i64)).toArray) (.agg (r.map (Value.int .i64)).toArray)).run Tryz.prog w = .ok b w:=by
 intro t ht T hT w l r hl hr x y
 have hm:=(mem_iff _ _).1 ht
 have hlen:∀ {u n},look u (tb K)=some T→(look u tb0).map (·.cells.length)=some n→T.cells.length=n:=by
  intro u n h1 h2
  simp only [Option.map_eq_some_iff] at h2
  obtain ⟨V,hV,e⟩:=h2
  have:=look_app u (tbK K) hV
  unfold tb at h1
  rw [h1] at this
  cases this
  exact e
 unfold eqs at hm
 simp only [List.mem_cons,List.not_mem_nil,or_false] at hm
 rcases hm with rfl | rfl | rfl | rfl
 ·have:=hlen hT (n:=3) (by kernel_rfl)
  exact eq_of (n:=3) (by kernel_rfl) (underS 41 (by kernel_rfl)) (by kernel_rfl) (by omega) (by omega) w x y
 ·have:=hlen hT (n:=5) (by kernel_rfl)
  exact eq_of (n:=5) (by kernel_rfl) (underS 65 (by kernel_rfl)) (by kernel_rfl) (by omega) (by omega) w x y
 ·have:=hlen hT (n:=2) (by kernel_rfl)
  exact eq_of (n:=2) (by kernel_rfl) (underS 124 (by kernel_rfl)) (by kernel_rfl) (by omega) (by omega) w x y
 ·have:=hlen hT (n:=3) (by kernel_rfl)
  exact eq_of (n:=3) (by kernel_rfl) (underS 126 (by kernel_rfl)) (by kernel_rfl) (by omega) (by omega) w x y
end Go.Proofs.YtikelfmmldafpaaGreat.Ai
namespace Go.Proofs.YtikelfmmldafpaaGreat
open Go.ChangeShapes Go.WideShapes Go.ChangeAt Go.RowKit Go.Sort
set_option linter.unusedVariables false
set_option linter.unusedSimpArgs false
theorem bits_and_le (x:Int) (m:Nat) (hm:m < 9223372036854775808):0≤bits .and .i64 x m∧bits .and .i64 x m≤m:=by
 have e:bits .and .i64 x m=IntKind.i64.wrap ((BitVec.ofInt 64 x &&& BitVec.ofInt 64 (m:Int)).toNat:Int):=rfl
 have h1:(BitVec.ofInt 64 x &&& BitVec.ofInt 64 (m:Int)).toNat≤m:=by
  rw [BitVec.toNat_and]
  refine Nat.le_trans Nat.and_le_right ?_
  rw [BitVec.toNat_ofInt]
  omega
 rw [e,IntKind.wrap_i64]
 generalize (BitVec.ofInt 64 x &&& BitVec.ofInt 64 (m:Int)).toNat=q at *
 omega
def CodeOk (w:World) (A:Option Addr) (n P:Nat):Prop:=n≤1048576∧(0 < n→∃ b o,A=some ⟨b,o,none⟩∧b < P∧∀ k,k < n→∃ y:Nat,y≤255∧w.cell? ⟨b,o+k,none⟩=some (.int .u8 y))
theorem CodeOk.grown {w w':World} {A:Option Addr} {n P:Nat} (h:CodeOk w A n P) (hP:P≤w.heap.size) {row:Option Nat} (hg:w.grownBy w' row) (hr:∀ g,row=some g→P≤g):CodeOk w' A n P:=by
 refine ⟨h.1,fun h0=>?_⟩
 obtain ⟨b,o,e,hb,hc⟩:=h.2 h0
 refine ⟨b,o,e,hb,fun k hk=>?_⟩
 obtain ⟨y,hy,hcell⟩:=hc k hk
 refine ⟨y,hy, ?_⟩
 rw [World.cell?_of_block (a:=⟨b,o+k,none⟩) (hg.block b (by omega) (fun he=>by have:=hr b he.symm;omega))]
 exact hcell
theorem CodeOk.up {w:World} {A:Option Addr} {n P P':Nat} (h:CodeOk w A n P) (hP:P≤P'):CodeOk w A n P':=⟨h.1,fun h0=>by
 obtain ⟨b,o,e,hb,hc⟩:=h.2 h0
 exact ⟨b,o,e,by omega,hc⟩⟩
def Cur (w:World) (P:Nat) (A:Option Addr) (n c:Nat):Prop:=n≤c∧c≤9223372036854775807∧CodeOk w A n P∧∃ (i:Nat) (h:Int),i≤n∧w.heap[P]?=some (.cells #[.slice A n c, .int .i64 i, .int .i64 h] 107 (0,0))
theorem Cur.lt {w:World} {P:Nat} {A:Option Addr} {n c:Nat} (h:Cur w P A n c):P < w.heap.size:=by
 obtain ⟨_,_,_,i,x,_,hb⟩:=h
 exact bx_lt hb
theorem Cur.grown {w w':World} {P:Nat} {A:Option Addr} {n c:Nat} (h:Cur w P A n c) {row:Option Nat} (hg:w.grownBy w' row) (hr:∀ g,row=some g→P < g):Cur w' P A n c:=by
 have hl:=h.lt
 obtain ⟨h1,h2,h3,i,x,hi,hb⟩:=h
 exact ⟨h1,h2,h3.grown (by omega) hg (fun g he=>by have:=hr g he;omega),i,x,hi,box_beside hb hg (fun he=>by have:=hr P he;omega)⟩
theorem Cur.ext {w w':World} {P:Nat} {A:Option Addr} {n c:Nat} (h:Cur w P A n c) (hx:Ext w w'):Cur w' P A n c:=h.grown (grown_of_ext (row:=none) hx) (fun g he=>by cases he)
def Drawn (w:World) (P:Nat) (A:Option Addr) (n c:Nat) (Q:Int→Prop) (e:Ending) (w':World):Prop:=∃ x:Int,Q x∧e = .returned (.int .i64 x)∧Cur w' P A n c∧w.grownBy w' (some P)
def Byte255 (x:Int):Prop:=0≤x∧x≤255
theorem drawn_mk {w w':World} {P:Nat} {A:Option Addr} {n c:Nat} {Q:Int→Prop} {x:Int} (hq:Q x) (hc:Cur w' P A n c) (hg:w.grownBy w' (some P)):Drawn w P A n c Q (.returned (.int .i64 x)) w':=⟨x,hq,rfl,hc,hg⟩
theorem grown_set {w w':World} {p:Addr} {u:Value} {P:Nat} (h:w.grownBy w' (some P)) (hp:p.block=P):w.grownBy (w'.setCell p u) (some P) :=
 ⟨h.os,h.tape,h.output,by simpa using h.size,fun k hk hne=>(Below.heap_setCell _ _ _ _ (fun e=>hne (by rw [e,hp]))).trans (h.block k hk hne)⟩
theorem grown_drewN {w w':World} {row:Option Nat} (h:w.grownBy w' row) (n:Nat):w.grownBy (w'.drewN n) row:=⟨h.os,h.tape,h.output,h.size,h.block⟩
theorem box_drewN {w:World} {P:Nat} {o:Obj} (h:w.heap[P]?=some o) (n:Nat):(w.drewN n).heap[P]?=some o:=h
set_option maxHeartbeats 1000000 in
theorem c_l1Byte (P:Nat) (A:Option Addr) (n c:Nat) (w:World) (hc:Cur w P A n c):Calls Tryz.prog 111 #[.pointer (some ⟨P,0,none⟩)] w (Drawn w P A n c Byte255):=by
 obtain ⟨h1,h2,h3,i,h,hi,hb⟩:=hc
 have hn20:=h3.1
 have cb:=bx_cell hb
 have fb:=bx_frozen hb
 have zb:=bx_lt hb
 have H3:=Hd h3
 have HB:=Hd hb
 clear h3 hb
 by_cases hlt:i < n
 ·obtain ⟨bb,oo,rfl,hbb,hcell⟩:=H3.out.2 (by omega)
  obtain ⟨y,hy,e0⟩:=hcell i hlt
  have hbw:bb < w.heap.size:=by omega
  have hne:¬ bb=P:=by omega
  clear hcell
  go_enter Tryz.func111,Tryz.ntmps111
  go_wp2
  go_quiet (fail)
  go_wp2
  go_quiet (fail)
  go_wp2
  go_quiet (fail)
  go_wp2
  go_ret
  refine drawn_mk (bits_and_le _ 255 (by omega)) ?_ ?_
  ·exact ⟨h1,h2,H3.out.grown (by omega) (grown_set (grown_drewN (grown_set (World.grownBy.refl w _) rfl) _) rfl) (fun g he=>by simp only [Option.some.injEq] at he;omega),i+1,_,by omega,box_put (box_drewN (box_put HB.out 2 _) _) 1 _⟩
  ·exact grown_set (grown_drewN (grown_set (World.grownBy.refl w _) rfl) _) rfl
 ·obtain rfl:i=n:=by omega
  go_enter Tryz.func111,Tryz.ntmps111
  go_wp2
  go_quiet (fail)
  go_wp2
  go_quiet (fail)
  go_wp2
  go_ret
  refine drawn_mk (bits_and_le _ 255 (by omega)) ?_ ?_
  ·exact ⟨h1,h2,H3.out.grown (by omega) (grown_drewN (grown_drewN (grown_set (World.grownBy.refl w _) rfl) _) _) (fun g he=>by simp only [Option.some.injEq] at he;omega),i,_,by omega,box_drewN (box_drewN (box_put HB.out 2 _) _) _⟩
  ·exact grown_drewN (grown_drewN (grown_set (World.grownBy.refl w _) rfl) _) _
def Less (m:Int) (x:Int):Prop:=0≤x∧(x < m∨m≤0∧x=0)
set_option maxRecDepth 100000 in
set_option maxHeartbeats 1000000 in
theorem c_l1Below (P:Nat) (A:Option Addr) (n c:Nat) (m:Int) (w:World) (hc:Cur w P A n c) (hm:m≤9223372036854775807):Calls Tryz.prog 70 #[.pointer (some ⟨P,0,none⟩), .int .i64 m] w (Drawn w P A n c (Less m)):=by
 by_cases h0:m≤0
 ·go_enter Tryz.func70,Tryz.ntmps70
  go_wp2
  go_ret
  exact drawn_mk ⟨by omega, .inr ⟨h0,rfl⟩⟩ hc (World.grownBy.refl _ _)
 ·by_cases h1:m≤256
  ·go_enter Tryz.func70,Tryz.ntmps70
   go_wp2_with fail
   refine (c_l1Byte P A n c w hc).mono ?_
   rintro e w1 ⟨x,⟨hx0,hx1⟩,rfl,hc1,hg1⟩
   have hr:=Int.emod_nonneg x (show m≠0 by omega)
   have hr2:=Int.emod_lt_of_pos x (show 0 < m by omega)
   go_wp2
   go_ret
   exact drawn_mk ⟨hr, .inl hr2⟩ hc1 hg1
  ·go_enter Tryz.func70,Tryz.ntmps70
   go_wp2_with fail
   refine (c_l1Byte P A n c w hc).mono ?_
   rintro e w1 ⟨x1,⟨p1,q1⟩,rfl,hc1,hg1⟩
   go_wp2_with fail
   refine (c_l1Byte P A n c _ hc1).mono ?_
   rintro e w2 ⟨x2,⟨p2,q2⟩,rfl,hc2,hg2⟩
   go_wp2_with fail
   refine (c_l1Byte P A n c _ hc2).mono ?_
   rintro e w3 ⟨x3,⟨p3,q3⟩,rfl,hc3,hg3⟩
   go_wp2_with fail
   refine (c_l1Byte P A n c _ hc3).mono ?_
   rintro e w4 ⟨x4,⟨p4,q4⟩,rfl,hc4,hg4⟩
   have hr:=Int.emod_nonneg (x1 * 16777216+x2 * 65536+x3 * 256+x4) (show m≠0 by omega)
   have hr2:=Int.emod_lt_of_pos (x1 * 16777216+x2 * 65536+x3 * 256+x4) (show 0 < m by omega)
   go_wp2
   go_ret
   exact drawn_mk ⟨hr, .inl hr2⟩ hc4 (grown_trans hg1 (grown_trans hg2 (grown_trans hg3 hg4)))
def DrawnB (w:World) (P:Nat) (A:Option Addr) (n c:Nat) (e:Ending) (w':World):Prop:=∃ b:Bool,e = .returned (.bool b)∧Cur w' P A n c∧w.grownBy w' (some P)
theorem c_l1Once (P:Nat) (A:Option Addr) (n c:Nat) (m:Int) (w:World) (hc:Cur w P A n c) (hm:m≤9223372036854775807):Calls Tryz.prog 72 #[.pointer (some ⟨P,0,none⟩), .int .i64 m] w (DrawnB w P A n c):=by
 go_enter Tryz.func72,Tryz.ntmps72
 go_wp2_with fail
 refine (c_l1Below P A n c m w hc hm).mono ?_
 rintro e w1 ⟨x,_,rfl,hc1,hg1⟩
 go_wp2
 go_ret
 exact ⟨_,rfl,hc1,hg1⟩
def OneOf (l:List Int) (x:Int):Prop:=x∈l
set_option maxRecDepth 100000 in
set_option maxHeartbeats 1000000 in
theorem c_l1PickInt (P:Nat) (A:Option Addr) (n c:Nat) (g:Nat) (l:List Int) (w:World) (hc:Cur w P A n c) (hl:0 < l.length) (hl2:l.length≤256) (hg:w.heap[g]?=some (.cells (l.map (Value.int .i64)).toArray 3 (0,0))) (hgP:g≠P) :
  Calls Tryz.prog 104 #[.pointer (some ⟨P,0,none⟩), .slice (some ⟨g,0,none⟩) l.length l.length] w (Drawn w P A n c (OneOf l)):=by
 go_enter Tryz.func104,Tryz.ntmps104
 go_wp2_with fail
 refine (c_l1Below P A n c l.length w hc (by omega)).mono ?_
 rintro e w1 ⟨x,⟨hx0,hx1⟩,rfl,hc1,hg1⟩
 obtain ⟨k,rfl⟩:∃ k:Nat,x=k:=⟨x.toNat,by omega⟩
 have hk:k < l.length:=by omega
 have hcell:w1.cell? ⟨g,k,none⟩=some (.int .i64 l[k]):=by
  rw [bx_cell (box_beside hg hg1 (by simp only [ne_eq,Option.some.injEq];omega)) k]
  simp [hk]
 clear hx1
 go_wp2
 go_ret
 exact drawn_mk (List.getElem_mem hk) hc1 hg1
set_option maxRecDepth 100000 in
set_option maxHeartbeats 1000000 in
theorem c_l1New (A:Option Addr) (n c:Nat) (w:World) (hc:CodeOk w A n w.heap.size) (hnc:n≤c) (hcm:c≤9223372036854775807):Calls Tryz.prog 37 #[.slice A n c] w fun e w'=>(∃ P,e = .returned (.pointer (some ⟨P,0,none⟩))∧w.heap.size≤P∧Cur w' P A n c)∧Ext w w':=by
 have hn20:=hc.1
 go_enter Tryz.func37,Tryz.ntmps37
 go_wp2
 go_loop [3,4] (fun h i=>∃ (k:Nat) (x:Int),k≤n∧i = .int .i64 k∧h = .int .i64 x) (fun _ i=>n - (intOf i).toNat)
 case atStart=>exact ⟨0,_,Nat.zero_le _,rfl,rfl⟩
 case round =>
  obtain ⟨k,x,hk,rfl,rfl⟩:=hrel
  by_cases hlt:k < n
  ·by_cases h4:k < 4000
   ·obtain ⟨b,o,rfl,hb,hcell⟩:=hc.2 (by omega)
    obtain ⟨y,hy,e0⟩:=hcell k hlt
    clear hcell
    go_wp2
    go_round
    case rel=>exact ⟨k+1,_,by omega,by go_num,rfl⟩
    case measure=>simp [intOf] <;> omega
   ·have h4':decide ((k:Int) < 4000)=false:=by simp;omega
    go_wp2
    go_ret
    exact ⟨⟨_,rfl,Nat.le_refl _,hnc,hcm,(hc.up (Nat.le_refl _)).grown (Nat.le_refl _) (grown_of_ext (row:=none) (ext_alloc _ _)) (fun g he=>by cases he),0,_,Nat.zero_le _,hNew rfl⟩,ext_alloc _ _⟩
  ·go_wp2
   go_ret
   exact ⟨⟨_,rfl,Nat.le_refl _,hnc,hcm,(hc.up (Nat.le_refl _)).grown (Nat.le_refl _) (grown_of_ext (row:=none) (ext_alloc _ _)) (fun g he=>by cases he),0,_,Nat.zero_le _,hNew rfl⟩,ext_alloc _ _⟩
theorem c_big_no (A:Option Addr) (n c:Nat) (w:World) (h:n≤1048576):Calls Tryz.prog 4 #[.slice A n c] w fun e w'=>e = .returned (.bool false)∧Ext w w':=by
 have h':decide ((1048576:Int) < (n:Int))=false:=by simp;omega
 go_enter Tryz.func4,Tryz.ntmps4
 go_wp2
 go_ret
 exact ⟨rfl,ext_refl _⟩
theorem c_big_yes (A:Option Addr) (n c:Nat) (w:World) (h:1048576 < n) (h2:n≤9223372036854775807):Calls Tryz.prog 4 #[.slice A n c] w fun e w'=>e = .returned (.bool true)∧Ext w w':=by
 have h':decide ((1048576:Int) < (n:Int))=true:=by simp;omega
 go_enter Tryz.func4,Tryz.ntmps4
 go_wp2
 go_ret
 exact ⟨rfl,ext_refl _⟩
theorem old_cell {w w':World} (hx:Ext w w') {b y:Nat} (hb:b < w.heap.size):w'.cell? ⟨b,y,none⟩=w.cell? ⟨b,y,none⟩:=hx.rules.1 b y hb
end Go.Proofs.YtikelfmmldafpaaGreat
namespace Go.Proofs.YtikelfmmldafpaaGreat.Ai
open Go.RowKit
set_option linter.unusedVariables false
set_option linter.unusedSimpArgs false
noncomputable def cx (K:Int) (Q:Nat) (A:Option Addr) (n c:Nat):Cx:=⟨Tryz.prog,tb K,Q+1,Q,fun w=>Cur w Q A n c⟩
theorem cur_keep {w w':World} {Q:Nat} {A:Option Addr} {n c:Nat} (h:Cur w Q A n c) (hp:w'.heap[Q]?=w.heap[Q]?) (hb:∀ g,g < Q+1→w'.heap[g]?=w.heap[g]?):Cur w' Q A n c:=by
 obtain ⟨h1,h2,⟨h3,h4⟩,i,x,h5,h6⟩:=h
 refine ⟨h1,h2,⟨h3,fun h0=>?_⟩,i,x,h5,by rw [hp];exact h6⟩
 obtain ⟨b,o,e,hlt,hc⟩:=h4 h0
 refine ⟨b,o,e,hlt,fun k hk=>?_⟩
 obtain ⟨y,hy,hcell⟩:=hc k hk
 exact ⟨y,hy,by rw [World.cell?_of_block (a:=⟨b,o+k,none⟩) (hb b (by omega))];exact hcell⟩
theorem fn_of {P:Program} {f:FuncId} {F:Func} (hf:P.funcs[f]?=some F) (hn:(F.name == "runtime.NumGoroutine")=false) (hb:F.body.isSome=true) (args:Array Value) (w:World):(callFunc f args).run P w = .ok (.enter f args) w:=by
 obtain ⟨b,hb⟩:=Option.isSome_iff_exists.1 hb
 have h1:F.name ≠ "runtime.NumGoroutine":=by simpa using hn
 simp [callFunc,hf,h1,hb]
theorem vals1 {C:Cx} {R:Nat→Prop} {w:World} {a:Bool×List Ck}:∀ {l:List Value},ValsOk C R w [a] l→∃ v,l=[v]∧ValOk C R w a v
 | [v],h=>⟨v,rfl,h.1⟩
 | [],h=>h.elim
 | _::_::_,h=>h.2.elim
theorem vals2 {C:Cx} {R:Nat→Prop} {w:World} {a b:Bool×List Ck}:∀ {l:List Value},ValsOk C R w [a,b] l→∃ v u,l=[v,u]∧ValOk C R w a v∧ValOk C R w b u
 | [v,u],h=>⟨v,u,rfl,h.1,h.2.1⟩
 | [],h=>h.elim
 | [_],h=>h.2.elim
 | _::_::_::_,h=>h.2.2.elim
section
variable {K:Int} {Q n c:Nat} {A:Option Addr}
theorem baseK (hK:K=1∨K=3∨K=5):Base (cx K Q A n c) (tb K) eqs where
 tb:=fun t T h=>h
 cur:=fun w w' h hp hb=>cur_keep h hp hb
 ty:=ty_all hK
 eq:=eq_all hK
 hm:=rfl
theorem base0 (hK:K=1∨K=3∨K=5):Base (cx K Q A n c) tb0 eqs where
 tb:=fun t T h=>look_app t (tbK K) h
 cur:=fun w w' h hp hb=>cur_keep h hp hb
 ty:=ty_all hK
 eq:=eq_all hK
 hm:=rfl
theorem draw_turn {C:Cx} {R:Nat→Prop} {w w':World} (h:Hp C R w) (hg:w.grownBy w' (some C.pc)) (hc:C.Cur w'):Gw C R R w w'∧Hp C R w':=by
 have same:∀ g,g < w.heap.size→g≠C.pc→w'.heap[g]?=w.heap[g]?:=fun g h1 h2=>hg.block g h1 fun e=>h2 (by cases e;rfl)
 have gw:Gw C R R w w':=⟨hg.os,hg.tape,hg.output,hg.size,fun _ _=>Iff.rfl,fun g h1 _ h3=>same g h1 h3,fun g hR cs T fz e=>⟨cs,fz,by rw [same g (h.lt hR) (h.rows g hR).2.1];exact e,rfl⟩⟩
 refine ⟨gw,fun g hR=>?_,hc,Nat.lt_of_lt_of_le h.pc hg.size,Nat.le_trans h.B hg.size⟩
 obtain ⟨h1,h2,cs,T,fz,h3,h4,h5,h6,h7⟩:=h.rows g hR
 refine ⟨h1,h2,cs,T,fz,by rw [same g (h.lt hR) h2];exact h3,h4,h5,h6,fun j v hj=>?_⟩
 obtain ⟨k,e1,e2⟩:=h7 j v hj
 exact ⟨k,e1,e2.gr (gw.gr fun g hg=>h.lt hg)⟩
theorem q_l1Below (hK:K=1∨K=3∨K=5):Kept (cx K Q A n c) 70 c_l1Below:=by
 refine ⟨fun w R args hhp hargs hpre=>?_,fun args w=>fn_of (P:=Tryz.prog) Tryz.func70 rfl rfl args w, ?_⟩
 ·obtain ⟨v1,v2,hl,h1,h2⟩:=vals2 hargs
  have hargs':args=#[v1,v2]:=by
   cases args
   simp only at hl
   rw [hl]
  have e1:v1 = .pointer (some ⟨Q,0,none⟩):=h1.1
  obtain ⟨⟨m,e2,m1,m2⟩,_⟩:=h2
  subst hargs'
  subst e1
  subst e2
  have hm2:m≤9223372036854775807:=m2
  refine Calls.mono (Go.Proofs.YtikelfmmldafpaaGreat.c_l1Below Q A n c m w hhp.cur hm2) ?_
  rintro e w' ⟨x,⟨x1,x2⟩,rfl,hc,hg⟩
  obtain ⟨gw,hp⟩:=draw_turn hhp hg hc
  have hx:i64lo≤x∧x≤i64hi:=by simp only [i64lo,i64hi] at *;omega
  refine ⟨_,[.int .i64 x],R,rfl,rfl,gw,hp,⟨⟨⟨x,rfl,hx.1,hx.2⟩,trivial⟩,trivial⟩,fun p hpm hq=>?_⟩
  have z1:ζ (nums [.pointer (some ⟨Q,0,none⟩), .int .i64 m]++nums [.int .i64 x]) 1=m:=rfl
  have z2:ζ (nums [.pointer (some ⟨Q,0,none⟩), .int .i64 m]++nums [.int .i64 x]) 2=x:=rfl
  simp only [c_l1Below,List.mem_cons,List.not_mem_nil,or_false] at hpm
  rcases hpm with rfl | rfl | rfl
  ·simp only [Lin.ev,tev,z2];omega
  ·have:=hq _ List.mem_cons_self
   simp only [Lin.ev,tev,z1,z2] at this ⊢;omega
  ·have:=hq _ List.mem_cons_self
   simp only [Lin.ev,tev,z1,z2] at this ⊢;omega
 ·intro o ho k hk
  simp only [c_l1Below,List.mem_cons,List.not_mem_nil,or_false] at ho
  subst ho
  simp only [List.mem_cons,List.not_mem_nil,or_false] at hk
  subst hk
  exact wfB_ok (by kernel_rfl)
end
structure Hand (K:Int) (Q:Nat) (A:Option Addr) (n c:Nat):Prop where
 look:Kept (cx K Q A n c) 52 (c_l7Look K)
end Go.Proofs.YtikelfmmldafpaaGreat.Ai
namespace Go.Proofs.YtikelfmmldafpaaGreat.Ai
open Go.RowKit
set_option linter.unusedVariables false
set_option linter.unusedSimpArgs false
def KPost (C:Cx) (c:Ctr) (R:Nat→Prop) (w:World) (args:List Value) (e:Ending) (w':World):Prop :=
 ∃ (v:Value) (outs:List Value) (R':Nat→Prop),e = .returned v∧v=(match outs with | [u]=>u | l => .tuple l.toArray)∧Gw C R R' w w'∧Hp C R' w'∧ValsOk C R' w' c.outs outs ∧
  ∀ p∈c.post,(∀ q∈p.1,0≤q.ev (ζ (nums args++nums outs)))→0≤p.2.ev (ζ (nums args++nums outs))
section
variable {C:Cx} {E:Env} {σ:Nat→Int} {bp:Nat→Nat} {R R1:Nat→Prop} {s t:AS} {a a':Act} {w w1 w':World} {f:Func} {c:Ctr} {ys:List Sy} {args:List Value}
theorem fin_of (hG:Good C E) (hz:∀ σ',Agr s.n σ' σ→ys.map (Sy.ev σ')=nums args) (nx:Nx C w R σ bp s t a' w') (he:endOk E f c ys t=true):a'.defers=[]∧∃ v,(Go.results f a'.tmps).run C.P w' = .ok v w'∧KPost C c R w args (.returned v) w':=by
 obtain ⟨σ2,bp2,R2,g1,g2,g3,g4,g5⟩:=nx
 unfold endOk at he
 split at he
 ·cases he
 ·rename_i outs hres
  simp only [Bool.and_eq_true] at he
  obtain ⟨us,u1,u2⟩:=results_ok hG g5 hres
  obtain ⟨v1,v2⟩:=valsR_ok g5.here.fs.fa u2 he.1
  refine ⟨g5.sw.df,_,run_results u1,outV us,us,R2,rfl,rfl,g5.sw.gw,g5.sw.hp,v1,fun p hp hq=>?_⟩
  have hz2:(ys++outs.flatMap fun l=>l.2.map (symR t)).map (Sy.ev σ2)=nums args++nums us:=by
   rw [List.map_append,v2,hz σ2 g1]
  exact postOk_ok hz2 (List.all_eq_true.1 he.2 p hp) g5.here.fs hq
def left (E:Env) (f:Func) (c:Ctr) (ys:List Sy) (code:Code) (s:AS) (h:List Hn):Bool:=match exec E code s h with
 | some (r,[])=>r.x.isEmpty && (r.n++r.r).all (endOk E f c ys)
 | _=>false
theorem left_ok (hG:Goods C E) (hm:C.P.follows .mixedOrders=true) (hB:C.B≤w.heap.size) {code:Code} {h:List Hn} (hl:left E f c ys code s h=true) (hz:∀ σ',Agr s.n σ' σ→ys.map (Sy.ev σ')=nums args) (st:Stt C w R σ bp R1 s a w1):code.wp C.P (bodyPost C.P f (KPost C c R w args)) a w1:=by
 unfold left at hl
 split at hl
 ·rename_i r hex
  simp only [Bool.and_eq_true] at hl
  refine wp_mono (exec_sound hG hB hm code s h _ r hex σ bp R1 a w1 st) fun e a' w' he=>?_
  cases e <;> simp only [Post,bodyPost] at he ⊢
  ·obtain ⟨t,ht,nx⟩:=he
   exact fin_of hG.toGood hz nx (List.all_eq_true.1 hl.2 t (List.mem_append_left _ ht))
  ·obtain ⟨p,hp,_⟩:=he
   rw [List.isEmpty_iff.1 hl.1] at hp
   cases hp
  ·obtain ⟨t,ht,nx⟩:=he
   exact fin_of hG.toGood hz nx (List.all_eq_true.1 hl.2 t (List.mem_append_right _ ht))
 ·cases hl
end
end Go.Proofs.YtikelfmmldafpaaGreat.Ai
