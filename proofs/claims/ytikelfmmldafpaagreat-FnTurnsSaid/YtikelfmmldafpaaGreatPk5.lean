/- Copies of images and logs, of the program. -/
import Derived.Test.YtikelfmmldafpaaGreatPk4
import Derived.Test.YtikelfmmldafpaaGreatPk3
import Derived.Laws.OwnMore
import Derived.Laws.AppendOwn
namespace Go.Proofs.YtikelfmmldafpaaGreat
open Go.ChangeShapes Go.WideShapes Go.ChangeAt Go.RowKit Go.Sort
set_option linter.unusedVariables false
set_option linter.unusedSimpArgs false
theorem c_cloneCellS (A:Option Addr) (c:Nat) (l:List Cel) (w:World) (ha:Rd Cel.enc 2 w A c l) (hn:l.length≤1048576) :
  Calls Tryz.prog 126 #[.slice A l.length c] w fun e w'=>∃ v,e = .returned v∧Ow Cel.enc 124 2 w' w.heap.size v l∧Ext w w':=by
 have q22:∀ (w:World) (a:Option Addr) (n c n' c':Nat),(binOp .eql 24 (.slice a n c) (.slice none n' c')).run Tryz.prog w = .ok (.bool a.isNone) w:=fun w a n c n' c'=>Lib.run_eql_slice_nil w _ _ a n c n' c' Tryz.underlying24
 cases A with
 | none =>
  have h0:=ha.none_len
  go_enter Tryz.func126,Tryz.ntmps126
  go_wp2
  go_ret
  refine ⟨_,rfl, ?_,ext_refl _⟩
  obtain rfl:l=[]:=List.eq_nil_of_length_eq_zero h0
  exact World.ownsRow_nil _ _ _ _
 | some a =>
  obtain ⟨i0,hi,hz0,hz1,hz2⟩:=info_parts Tryz.infoCel
  have HF:=Hd (ha.flat (by decide) Cel.enc_len)
  have hl:=flat_length Cel.enc_len l
  have HL:=Hd hl
  clear hl
  go_enter Tryz.func126,Tryz.ntmps126
  go_wp2_with (at_builtin;refine wpList_append_own _ rfl _ _ 24 rfl w.heap.size 124 i0 (.agg #[.int .i64 0, .int .i64 0]) 2 16 Tryz.underlying24 hi hz0 hz1 hz2 rfl (by decide) _ _ _ rfl (World.ownsRow_made w #[] 0 (Nat.le_refl _) (Nat.zero_le _) (by simp)) a l.length c (l.flatMap Cel.enc) rfl ?c1 ?c2 ?c3 ?c4 ?c5 ?c6 ?_)
  case c1=>exact HL.out
  case c2=>intro j u hj;exact Lib.cell?_alloc_some _ (HF.out j u hj)
  case c3=>exact flat_one (fun x u hu=>by simp [Cel.enc] at hu;rcases hu with rfl | rfl <;> rfl) l
  case c4=>unfold maxLen;omega
  case c5=>omega
  case c6=>simp
  intro v' w1 hown hgrow hnil
  have HN:=Hd hnil
  clear hnil hz0 hz1 hz2 hi
  go_wp2
  go_ret
  refine ⟨v',rfl, ?_, ?_⟩
  ·unfold Ow;simpa using hown
  ·exact ((Below.refl _ w).alloc (Nat.le_refl _) _).grown hgrow (by simp) (by intro k hk;simp [Value.ownBlock] at hk;omega)
theorem c_cloneSeatS (A:Option Addr) (c:Nat) (l:List Sea) (w:World) (ha:Rd Sea.enc 3 w A c l) (hn:l.length≤1048576) :
  Calls Tryz.prog 127 #[.slice A l.length c] w fun e w'=>∃ v,e = .returned v∧Ow Sea.enc 126 3 w' w.heap.size v l∧Ext w w':=by
 have q22:∀ (w:World) (a:Option Addr) (n c n' c':Nat),(binOp .eql 25 (.slice a n c) (.slice none n' c')).run Tryz.prog w = .ok (.bool a.isNone) w:=fun w a n c n' c'=>Lib.run_eql_slice_nil w _ _ a n c n' c' Tryz.underlying25
 cases A with
 | none =>
  have h0:=ha.none_len
  go_enter Tryz.func127,Tryz.ntmps127
  go_wp2
  go_ret
  refine ⟨_,rfl, ?_,ext_refl _⟩
  obtain rfl:l=[]:=List.eq_nil_of_length_eq_zero h0
  exact World.ownsRow_nil _ _ _ _
 | some a =>
  obtain ⟨i0,hi,hz0,hz1,hz2⟩:=info_parts Tryz.infoSea
  have HF:=Hd (ha.flat (by decide) Sea.enc_len)
  have hl:=flat_length Sea.enc_len l
  have HL:=Hd hl
  clear hl
  go_enter Tryz.func127,Tryz.ntmps127
  go_wp2_with (at_builtin;refine wpList_append_own _ rfl _ _ 25 rfl w.heap.size 126 i0 (.agg #[.int .i64 0, .int .i64 0, .int .i64 0]) 3 24 Tryz.underlying25 hi hz0 hz1 hz2 rfl (by decide) _ _ _ rfl (World.ownsRow_made w #[] 0 (Nat.le_refl _) (Nat.zero_le _) (by simp)) a l.length c (l.flatMap Sea.enc) rfl ?c1 ?c2 ?c3 ?c4 ?c5 ?c6 ?_)
  case c1=>exact HL.out
  case c2=>intro j u hj;exact Lib.cell?_alloc_some _ (HF.out j u hj)
  case c3=>exact flat_one (fun x u hu=>by simp [Sea.enc] at hu;rcases hu with rfl | rfl | rfl <;> rfl) l
  case c4=>unfold maxLen;omega
  case c5=>omega
  case c6=>simp
  intro v' w1 hown hgrow hnil
  have HN:=Hd hnil
  clear hnil hz0 hz1 hz2 hi
  go_wp2
  go_ret
  refine ⟨v',rfl, ?_, ?_⟩
  ·unfold Ow;simpa using hown
  ·exact ((Below.refl _ w).alloc (Nat.le_refl _) _).grown hgrow (by simp) (by intro k hk;simp [Value.ownBlock] at hk;omega)
theorem c_cloneEntryS (A:Option Addr) (c:Nat) (l:List Ent) (w:World) (ha:Rd Ent.enc 5 w A c l) (hn:l.length≤1048576) :
  Calls Tryz.prog 79 #[.slice A l.length c] w fun e w'=>∃ v,e = .returned v∧Ow Ent.enc 65 5 w' w.heap.size v l∧Ext w w':=by
 have q22:∀ (w:World) (a:Option Addr) (n c n' c':Nat),(binOp .eql 28 (.slice a n c) (.slice none n' c')).run Tryz.prog w = .ok (.bool a.isNone) w:=fun w a n c n' c'=>Lib.run_eql_slice_nil w _ _ a n c n' c' Tryz.underlying28
 cases A with
 | none =>
  have h0:=ha.none_len
  go_enter Tryz.func79,Tryz.ntmps79
  go_wp2
  go_ret
  refine ⟨_,rfl, ?_,ext_refl _⟩
  obtain rfl:l=[]:=List.eq_nil_of_length_eq_zero h0
  exact World.ownsRow_nil _ _ _ _
 | some a =>
  obtain ⟨i0,hi,hz0,hz1,hz2⟩:=info_parts Tryz.infoEnt
  have HF:=Hd (ha.flat (by decide) Ent.enc_len)
  have hl:=flat_length Ent.enc_len l
  have HL:=Hd hl
  clear hl
  go_enter Tryz.func79,Tryz.ntmps79
  go_wp2_with (at_builtin;refine wpList_append_own _ rfl _ _ 28 rfl w.heap.size 65 i0 (.agg #[.int .i64 0, .int .i64 0, .int .i64 0, .int .i64 0, .int .i64 0]) 5 40 Tryz.underlying28 hi hz0 hz1 hz2 rfl (by decide) _ _ _ rfl (World.ownsRow_made w #[] 0 (Nat.le_refl _) (Nat.zero_le _) (by simp)) a l.length c (l.flatMap Ent.enc) rfl ?c1 ?c2 ?c3 ?c4 ?c5 ?c6 ?_)
  case c1=>exact HL.out
  case c2=>intro j u hj;exact Lib.cell?_alloc_some _ (HF.out j u hj)
  case c3=>exact flat_one (fun x u hu=>by simp [Ent.enc] at hu;rcases hu with rfl | rfl | rfl | rfl | rfl <;> rfl) l
  case c4=>unfold maxLen;omega
  case c5=>omega
  case c6=>simp
  intro v' w1 hown hgrow hnil
  have HN:=Hd hnil
  clear hnil hz0 hz1 hz2 hi
  go_wp2
  go_ret
  refine ⟨v',rfl, ?_, ?_⟩
  ·unfold Ow;simpa using hown
  ·exact ((Below.refl _ w).alloc (Nat.le_refl _) _).grown hgrow (by simp) (by intro k hk;simp [Value.ownBlock] at hk;omega)
theorem Ow.apart {α β:Type} {eα:α→List Value} {eβ:β→List Value} {t u:TypeId} {sα sβ:Nat} {w:World} {B B':Nat} {A A':Option Addr} {n n' c c':Nat} {l:List α} {m:List β} (h:Ow eα t sα w B (.slice A n c) l) (k:Ow eβ u sβ w B' (.slice A' n' c') m) (hne:t≠u):∀ x∈blk A,x∉blk A':=fun x hx hy=>by
 have e1:=(ownBlock_blk A n c x).2 hx
 have e2:=(ownBlock_blk A' n' c' x).2 hy
 rcases h.2 with ⟨h2,_⟩ | ⟨g,cap,cur,hv,hb,hh,r⟩
 ·rw [h2] at e1;cases e1
 ·rcases k.2 with ⟨k2,_⟩ | ⟨g',cap',cur',kv,kb,kh,r'⟩
  ·rw [k2] at e2;cases e2
  ·rw [hv] at e1
   rw [kv] at e2
   simp only [Value.ownBlock,Option.some.injEq] at e1 e2
   subst e1
   subst e2
   rw [hh] at kh
   simp at kh
   exact hne kh.2
theorem Ow.nodup {α:Type} {eα:α→List Value} {t:TypeId} {sα:Nat} {w:World} {B:Nat} {A:Option Addr} {n c:Nat} {l:List α} (h:Ow eα t sα w B (.slice A n c) l):(blk A).Nodup:=by cases A <;> simp [blk]
theorem Ow.chg1 {α:Type} {enc:α→List Value} {e:TypeId} {sz:Nat} {w w':World} {B g:Nat} {A:Option Addr} {n c:Nat} {l:List α} (h:Ow enc e sz w B (.slice A n c) l) (hg:Chg w w' [g]) (hlt:g < B):Ow enc e sz w' B (.slice A n c) l :=
 h.chg hg (fun k hk hm=>by rw [Mi] at hm;have:=(h.inB k hk).1;omega)
theorem own_mono {α:Type} (enc:α→List Value) (t:TypeId) (sz B:Nat) (l:List α):Mono (fun v w=>Ow enc t sz w B v l):=fun _ _ _ h hx=>h.kept hx
set_option maxHeartbeats 2000000 in
theorem c_copyImage (cA:Option Addr) (cc:Nat) (cs:List Cel) (sA:Option Addr) (sc:Nat) (ss:List Sea) (w:World) (hc:Rd Cel.enc 2 w cA cc cs) (hs:Rd Sea.enc 3 w sA sc ss) (hn:cs.length≤1048576) (hm:ss.length≤1048576) :
  Calls Tryz.prog 78 #[.agg #[.slice cA cs.length cc, .slice sA ss.length sc]] w fun e w'=>∃ A c A' c',e = .returned (.agg #[.slice A cs.length c, .slice A' ss.length c']) ∧
   Ow Cel.enc 124 2 w' w.heap.size (.slice A cs.length c) cs∧Ow Sea.enc 126 3 w' w.heap.size (.slice A' ss.length c') ss∧Ext w w':=by
 have X0:Ext w ((w.alloc (.cells #[.slice cA cs.length cc, .slice sA ss.length sc] 27)).alloc (.cells #[.slice none 0 0, .slice none 0 0] 27)):=ext_to (ext_alloc _ _) _
 have HC:=Hd (fun W (h:Ext ((w.alloc (.cells #[.slice cA cs.length cc, .slice sA ss.length sc] 27)).alloc (.cells #[.slice none 0 0, .slice none 0 0] 27)) W)=>c_cloneCellS cA cc cs W (hc.keep (Ext.trans X0 h)) hn)
 have HS:=Hd (fun W (h:Ext ((w.alloc (.cells #[.slice cA cs.length cc, .slice sA ss.length sc] 27)).alloc (.cells #[.slice none 0 0, .slice none 0 0] 27)) W)=>c_cloneSeatS sA sc ss W (hs.keep (Ext.trans X0 h)) hm)
 clear hc hs
 go_enter Tryz.func78,Tryz.ntmps78
 go_wp2
 (refine wp_region_mix' (fun _ _ _ _ _ hq=>hq) 6 (by kernel_rfl) (by kernel_rfl) (fun hg=>?_);simp only [headOps,Tc,Tz,List.filter_cons,List.filter_nil,isAlloc,Bool.not_false,Bf,if_true,if_false,List.append_nil,Dc,Dz])
 (repeat (first | (refine wpMix_plain rfl rfl ?_;go_big_quiet_step (fail);refine wpQuiet_nil ?_) | (refine wpMix_skip rfl rfl ?_;simp only [Act.put,Sa,Sz,Ss])))
 refine wpMix_call (fun v W=>Ow Cel.enc 124 2 W (w.heap.size+1+1) v cs) rfl rfl rfl (enters Tryz.func126 (by kernel_rfl) rfl) (own_mono _ _ _ _ _) (fun W hW=>(HC.out W hW).mono fun e w' ⟨v,he,ho,hx⟩=>⟨v,he,ho.less (by have:=hW.size;simp at this;omega),hx⟩) rfl (fun v1 hv1=>?_)
 simp only [Act.put,Sa,Sz,Ss]
 (repeat (first | (refine wpMix_plain rfl rfl ?_;go_big_quiet_step (fail);refine wpQuiet_nil ?_) | (refine wpMix_skip rfl rfl ?_;simp only [Act.put,Sa,Sz,Ss])))
 refine wpMix_call (fun v W=>Ow Sea.enc 126 3 W (w.heap.size+1+1) v ss) rfl rfl rfl (enters Tryz.func127 (by kernel_rfl) rfl) (own_mono _ _ _ _ _) (fun W hW=>(HS.out W hW.1).mono fun e w' ⟨v,he,ho,hx⟩=>⟨v,he,ho.less (by have:=hW.1.size;simp at this;omega),hx⟩) rfl (fun v2 hv2=>?_)
 simp only [Act.put,Sa,Sz,Ss]
 (repeat (first | (refine wpMix_plain rfl rfl ?_;go_big_quiet_step (fail);refine wpQuiet_nil ?_) | (refine wpMix_skip rfl rfl ?_;simp only [Act.put,Sa,Sz,Ss])))
 refine wpMix_nil ?_
 rintro w2 ⟨⟨hw2,o1⟩,o2⟩
 obtain ⟨A,c,rfl⟩:=o1.form
 obtain ⟨A',c',rfl⟩:=o2.form
 have B2:=hw2.box (hNew (w:=w.alloc (.cells #[.slice cA cs.length cc, .slice sA ss.length sc] 27)) (o := .cells #[.slice none 0 0, .slice none 0 0] 27) rfl)
 rw [sz_alloc] at B2
 have HB:=Hd B2
 have O1:=Hd o1
 have O2:=Hd o2
 clear B2 o1 o2
 go_wp2_with (with_reducible refine wl_stopS 27 ?_)
 refine stop_store (w.heap.size+1) #[.slice A cs.length c, .slice A' ss.length c'] rfl rfl HB.out (by kernel_rfl) rfl (by simp [Value.oneCell']) ?_
 intro W4 E4 C4
 have hX4:=Hd (chg_new (Ext.trans X0 hw2) C4 (by omega))
 go_wp2
 refine bodyPost_ret (results_box Tryz.results78 rfl Tryz.underlying27 (by kernel_rfl) E4) rfl ⟨A,c,A',c',rfl, ?_, ?_,hX4.out⟩
 ·exact (O1.out.chg1 C4 (by omega)).less (by omega)
 ·exact (O2.out.chg1 C4 (by omega)).less (by omega)
def LgV (w:World) (B:Nat) (cs:List Cel) (ss:List Sea) (v:Value):Prop:=∃ A c A' c',v = .agg #[.slice A cs.length c, .slice A' ss.length c']∧Ow Cel.enc 124 2 w B (.slice A cs.length c) cs∧Ow Sea.enc 126 3 w B (.slice A' ss.length c') ss
theorem LgV.mono (B:Nat) (cs:List Cel) (ss:List Sea):Mono (fun v w=>LgV w B cs ss v):=fun v w w' ⟨A,c,A',c',hv,h1,h2⟩ hx=>⟨A,c,A',c',hv,h1.kept hx,h2.kept hx⟩
theorem lgO_of {w:World} {B:Nat} {cA sA eA:Option Addr} {cc sc ec:Nat} {l:Lg} (h1:Ow Cel.enc 124 2 w B (.slice cA l.cells.length cc) l.cells) (h2:Ow Sea.enc 126 3 w B (.slice sA l.seats.length sc) l.seats) (h3:Ow Ent.enc 65 5 w B (.slice eA l.ents.length ec) l.ents) :
  LgO w B w.heap.size ⟨cA,cc,sA,sc,eA,ec⟩ l:=by
 refine ⟨h1,h2,h3, ?_,fun k hk=>?_⟩
 ·unfold LAd.fp
  rw [List.nodup_append,List.nodup_append]
  refine ⟨⟨h1.nodup,h2.nodup,fun x hx y hy e=>?_⟩,h3.nodup,fun x hx y hy e=>?_⟩
  ·subst e;exact h1.apart h2 (by decide) x hx hy
  ·subst e
   rcases List.mem_append.1 hx with hx | hx
   ·exact h1.apart h3 (by decide) x hx hy
   ·exact h2.apart h3 (by decide) x hx hy
 ·unfold LAd.fp at hk
  rw [List.mem_append,List.mem_append] at hk
  rcases hk with (hk | hk) | hk
  ·exact (h1.inB k hk).2
  ·exact (h2.inB k hk).2
  ·exact (h3.inB k hk).2
set_option maxHeartbeats 2000000 in
theorem c_copyLog (a:LAd) (l:Lg) (hs:l.small) (w:World) (hr:LgR w a l) :
  Calls Tryz.prog 46 #[Lg.val a l] w fun e w'=>∃ a',e = .returned (Lg.val a' l)∧LgO w' w.heap.size w'.heap.size a' l∧Ext w w':=by
 have X0:Ext w ((w.alloc (Lg.obj a l)).alloc (.cells #[.int .i64 0, .slice none 0 0, .slice none 0 0, .slice none 0 0] 30)):=ext_to (ext_alloc _ _) _
 have HC:=Hd (fun W (h:Ext ((w.alloc (Lg.obj a l)).alloc (.cells #[.int .i64 0, .slice none 0 0, .slice none 0 0, .slice none 0 0] 30)) W)=>c_copyImage a.cA a.cc l.cells a.sA a.sc l.seats W (hr.1.keep (Ext.trans X0 h)) (hr.2.1.keep (Ext.trans X0 h)) hs.1 hs.2.1)
 have HE:=Hd (fun W (h:Ext ((w.alloc (Lg.obj a l)).alloc (.cells #[.int .i64 0, .slice none 0 0, .slice none 0 0, .slice none 0 0] 30)) W)=>c_cloneEntryS a.eA a.ec l.ents W (hr.2.2.keep (Ext.trans X0 h)) hs.2.2)
 clear hr hs
 go_enter Tryz.func46,Tryz.ntmps46
 go_wp2
 (refine wp_region_mix' (fun _ _ _ _ _ hq=>hq) 8 (by kernel_rfl) (by kernel_rfl) (fun hg=>?_);simp only [headOps,Tc,Tz,List.filter_cons,List.filter_nil,isAlloc,Bool.not_false,Bf,if_true,if_false,List.append_nil,Dc,Dz])
 (repeat (first | (refine wpMix_plain rfl rfl ?_;go_big_quiet_step (fail);refine wpQuiet_nil ?_) | (refine wpMix_skip rfl rfl ?_;simp only [Act.put,Sa,Sz,Ss])))
 refine wpMix_call (fun v W=>LgV W (w.heap.size+1+1) l.cells l.seats v) rfl rfl rfl (enters Tryz.func78 (by kernel_rfl) rfl) (LgV.mono _ _ _) (fun W hW=>(HC.out W hW).mono fun e w' ⟨A,c,A',c',he,h1,h2,hx⟩=>⟨_,he,⟨A,c,A',c',rfl,h1.less (by have:=hW.size;simp at this;omega),h2.less (by have:=hW.size;simp at this;omega)⟩,hx⟩) rfl (fun v1 hv1=>?_)
 obtain ⟨W1,_,A1,c1,A2,c2,rfl,_⟩:=hv1
 simp only [Act.put,Sa,Sz,Ss]
 (repeat (first | (refine wpMix_plain rfl rfl ?_;go_big_quiet_step (fail);refine wpQuiet_nil ?_) | (refine wpMix_skip rfl rfl ?_;simp only [Act.put,Sa,Sz,Ss])))
 refine wpMix_call (fun v W=>Ow Ent.enc 65 5 W (w.heap.size+1+1) v l.ents) rfl rfl rfl (enters Tryz.func79 (by kernel_rfl) rfl) (own_mono _ _ _ _ _) (fun W hW=>(HE.out W hW.1).mono fun e w' ⟨v,he,ho,hx⟩=>⟨v,he,ho.less (by have:=hW.1.size;simp at this;omega),hx⟩) rfl (fun v2 hv2=>?_)
 simp only [Act.put,Sa,Sz,Ss]
 (repeat (first | (refine wpMix_plain rfl rfl ?_;go_big_quiet_step (fail);refine wpQuiet_nil ?_) | (refine wpMix_skip rfl rfl ?_;simp only [Act.put,Sa,Sz,Ss])))
 refine wpMix_nil ?_
 rintro w2 ⟨⟨hw2,A1',c1',A2',c2',heq,o1,o2⟩,o3⟩
 simp only [Value.agg.injEq] at heq
 simp at heq
 obtain ⟨⟨rfl,rfl⟩,rfl,rfl⟩:=heq
 obtain ⟨A3,c3,rfl⟩:=o3.form
 have B2:=hw2.box (hNew (w:=w.alloc (Lg.obj a l)) (o := .cells #[.int .i64 0, .slice none 0 0, .slice none 0 0, .slice none 0 0] 30) rfl)
 rw [sz_alloc] at B2
 have HB:=Hd B2
 have O1:=Hd o1
 have O2:=Hd o2
 have O3:=Hd o3
 clear B2 o1 o2 o3
 go_wp2_with (with_reducible refine wl_stopS 30 ?_)
 refine stop_store (w.heap.size+1) #[.int .i64 l.base, .slice A1 l.cells.length c1, .slice A2 l.seats.length c2, .slice A3 l.ents.length c3] rfl rfl HB.out (by kernel_rfl) rfl (by simp [Value.oneCell']) ?_
 intro W4 E4 C4
 have hX4:=Hd (chg_new (Ext.trans X0 hw2) C4 (by omega))
 go_wp2
 exact bodyPost_ret (results_box Tryz.results46 rfl Tryz.underlying30 (by kernel_rfl) E4) rfl ⟨⟨A1,c1,A2,c2,A3,c3⟩,rfl,(lgO_of (O1.out.chg1 C4 (by omega)) (O2.out.chg1 C4 (by omega)) (O3.out.chg1 C4 (by omega))).wide (by omega) (Nat.le_refl _),hX4.out⟩
theorem run_append_none {P:Program} {w:World} {t ty e:TypeId} {i:TypeInfo} {size base c:Nat} (ht:P.underlying t=some (.slice e)) (hi:P.info? e=some i)
  (v:Value) (n:Nat) (xs:List Value) (hown:w.ownsRow base e size v n xs) :
  (Builtin.append_ #[t,t] ty #[v, .slice none 0 c]).run P w = .ok v w:=by
 rcases hown.2 with ⟨rfl,rfl⟩ | ⟨g,cap,cur,rfl,_,_,hnc,_⟩
 ·simp [Builtin.append_,run_underlying ht,sizeOf,typeInfo,hi,Builtin.lenOf,Builtin.firstCells]
 ·simp [Builtin.append_,run_underlying ht,sizeOf,typeInfo,hi,Builtin.lenOf,Builtin.firstCells,hnc,storeCells]
theorem wp_app {P:Program} {α:Type} {enc:α→List Value} {o:Oper} {a:Act} {w:World} {K:Act→World→Prop} {Q:Exit→Act→World→Prop} (s x:Operand) (t:TypeId)
  (ho:o.op = .call { callee := .builtin .append,args:=#[s,x],argTypes:=#[t,t] })
  (base:Nat) (e:TypeId) (i:TypeInfo) (z:Value) (size bytes:Nat) (ht:P.underlying t=some (.slice e)) (hi:P.info? e=some i) (hz:i.zero=some z)
  (hsize:i.size=size) (hby:i.bytes=bytes) (hzs:z.cells.size=size) (hsz:0 < size) (hlen:∀ x,(enc x).length=size) (hone:∀ x,∀ u∈enc x,u.oneCell'=true)
  (v:Value) (l0:List α) (hs:a.eval s=v) (hown:Ow enc e size w base v l0) (A:Option Addr) (c:Nat) (l:List α) (n:Nat) (hn:n=l.length) (hx:a.eval x = .slice A n c) (hr:Rd enc size w A c l)
  (h63:l0.length+l.length≤maxLen) (hbytes:(l0.length+l.length) * bytes≤140737488355328) (hbase:base≤w.heap.size)
  (h:∀ v' w',Ow enc e size w' base v' (l0++l)→w.grownBy w' v.ownBlock→K (a.put o.dst v') w'):o.wp P a w K Q:=by
 subst hn
 cases A with
 | none =>
  have h0:=hr.none_len
  obtain rfl:l=[]:=List.eq_nil_of_length_eq_zero h0
  have hrun:=run_append_none (P:=P) (w:=w) (ty:=o.type) (c:=c) ht hi v _ _ hown
  unfold Oper.wp execOp
  simp only [ho,resolve,invoke,builtin,Sem.run_bind,Sem.run_pure,Result.andThen_ok,List.map_toArray,List.map_cons,List.map_nil,hs,hx,List.length_nil,hrun]
  exact h v w (by simpa using hown) (World.grownBy.refl _ _)
 | some ad =>
  refine wp_append_own w s x t ho base e i z size bytes ht hi hz hsize hby hzs hsz v _ _ hs hown ad l.length c (l.flatMap enc) hx (flat_length hlen l) (hr.flat hsz hlen) (flat_one hone l) h63 hbytes hbase (fun v' w' ho' hg _=>h v' w' ?_ hg)
  unfold Ow
  rw [List.length_append,List.flatMap_append]
  exact ho'
theorem wl_app {P:Program} {α:Type} {enc:α→List Value} {ops:Array Oper} {rest:List Oper} {o:Oper} {a:Act} {w:World} {Q:Exit→Act→World→Prop} (hgd:o.guard=none) (s x:Operand) (t:TypeId)
  (ho:o.op = .call { callee := .builtin .append,args:=#[s,x],argTypes:=#[t,t] })
  (base:Nat) (e:TypeId) (i:TypeInfo) (z:Value) (size bytes:Nat) (ht:P.underlying t=some (.slice e)) (hi:P.info? e=some i) (hz:i.zero=some z)
  (hsize:i.size=size) (hby:i.bytes=bytes) (hzs:z.cells.size=size) (hsz:0 < size) (hlen:∀ x,(enc x).length=size) (hone:∀ x,∀ u∈enc x,u.oneCell'=true)
  (v:Value) (l0:List α) (hs:a.eval s=v) (hown:Ow enc e size w base v l0) (A:Option Addr) (c:Nat) (l:List α) (n:Nat) (hn:n=l.length) (hx:a.eval x = .slice A n c) (hr:Rd enc size w A c l)
  (h63:l0.length+l.length≤maxLen) (hbytes:(l0.length+l.length) * bytes≤140737488355328) (hbase:base≤w.heap.size)
  (h:∀ v' w',Ow enc e size w' base v' (l0++l)→w.grownBy w' v.ownBlock→wpList P ops Q rest (a.put o.dst v') w'):wpList P ops Q (o::rest) a w :=
 wpList_plain hgd fun _ hK=>wp_app s x t ho base e i z size bytes ht hi hz hsize hby hzs hsz hlen hone v l0 hs hown A c l n hn hx hr h63 hbytes hbase fun v' w' h2 h3=>hK _ _ (h v' w' h2 h3)
theorem own_empty {α:Type} {enc:α→List Value} {e:TypeId} {sz:Nat} {w:World} {p B:Nat} (h:w.heap[p]?=some (.cells #[] e (0,0))) (hB:B≤p):Ow enc e sz w B (.slice (some ⟨p,0,none⟩) 0 0) ([]:List α) :=
 ⟨by simp, .inr ⟨p,0,#[],rfl,hB,h,Nat.le_refl _,by unfold maxLen;omega,by simp,by simp⟩⟩
abbrev Vt.obj (a:LAd) (v:Vt):Obj := .cells #[.int .i64 v.kind, .int .i64 v.frm, .int .i64 v.view, .int .i64 v.normal, .int .i64 v.op, .int .i64 v.commit, .int .i64 v.log.base, .slice a.cA v.log.cells.length a.cc, .slice a.sA v.log.seats.length a.sc, .slice a.eA v.log.ents.length a.ec] 57
theorem logOk_b {l:Lg} (h:logOk l=true):0≤l.base∧l.base≤1000000000∧l.ents.length≤60:=by
 have h1:=of_decide_eq_true h
 have:=(inB_yes _ _ _).1 h1.1
 exact ⟨this.1,this.2,h1.2.2.1⟩
structure VsQ (w:World) (B:Nat) (qs:List VtE):Prop where
 l:∀ p∈qs,LgO w B w.heap.size p.1 p.2.log
 nd:(qs.flatMap (fun p=>p.1.fp)).Nodup
theorem VsQ.nil (w:World) (B:Nat):VsQ w B []:=⟨by simp,by simp⟩
theorem VsQ.step {w w':World} {B:Nat} {qs:List VtE} {a:LAd} {v:Vt} (h:VsQ w B qs) (hB:B≤w.heap.size) (ho:LgO w' w.heap.size w'.heap.size a v.log) (hx:Ext w w'):VsQ w' B (qs++[(a,v)]):=by
 refine ⟨fun p hp=>?_, ?_⟩
 ·rcases List.mem_append.1 hp with hp | hp
  ·exact ((h.l p hp).kept hx).wide (Nat.le_refl _) hx.size
  ·rw [Mi] at hp
   subst hp
   exact ho.wide hB (Nat.le_refl _)
 ·simp only [List.flatMap_append,List.flatMap_cons,List.flatMap_nil,List.append_nil]
  rw [List.nodup_append]
  refine ⟨h.nd,ho.nd,fun x hx1 y hy he=>?_⟩
  subst he
  obtain ⟨p,hp,hxp⟩:=List.mem_flatMap.1 hx1
  have h1:=(h.l p hp).lt x hxp
  have h2:=ho.low x hy
  omega
theorem VsQ.chg {w w':World} {B:Nat} {qs:List VtE} {S:List Nat} (h:VsQ w B qs) (hg:Chg w w' S) (hne:∀ p∈qs,∀ k∈p.1.fp,k∉S):VsQ w' B qs :=
 ⟨fun p hp=>((h.l p hp).chg hg (hne p hp)).wide (Nat.le_refl _) hg.size,h.nd⟩
theorem VsQ.kept {w w':World} {B:Nat} {qs:List VtE} (h:VsQ w B qs) (hx:Ext w w'):VsQ w' B qs:=⟨fun p hp=>((h.l p hp).kept hx).wide (Nat.le_refl _) hx.size,h.nd⟩
theorem lg_apart {w:World} {B B' T:Nat} {a:LAd} {l:Lg} {A:Option Addr} {n c:Nat} {qs:List VtE} (h:LgO w B T a l) (k:Ow VtE.enc 57 10 w B' (.slice A n c) qs):∀ x∈a.fp,x∉blk A:=fun x hx=>by
 unfold LAd.fp at hx
 rw [List.mem_append,List.mem_append] at hx
 rcases hx with (hx | hx) | hx
 ·exact h.c.apart k (by decide) x hx
 ·exact h.s.apart k (by decide) x hx
 ·exact h.e.apart k (by decide) x hx
theorem VsQ.own {w:World} {B:Nat} {A:Option Addr} {c:Nat} {qs:List VtE} (h:VsQ w B qs) (k:Ow VtE.enc 57 10 w B (.slice A qs.length c) qs):VsO w B w.heap.size A c qs:=by
 refine ⟨k,h.l, ?_,fun x hx=>?_⟩
 ·rw [List.nodup_append]
  refine ⟨k.nodup,h.nd,fun x hx y hy he=>?_⟩
  subst he
  obtain ⟨p,hp,hxp⟩:=List.mem_flatMap.1 hy
  exact lg_apart (h.l p hp) k x hxp hx
 ·rcases List.mem_append.1 hx with hx | hx
  ·exact (k.inB x hx).2
  ·obtain ⟨p,hp,hxp⟩:=List.mem_flatMap.1 hx
   exact (h.l p hp).lt x hxp
theorem RpO.fpIn {w:World} {B T:Nat} {a:LAd} {A:Option Addr} {c:Nat} {ps:List VtE} {r:Rp} (h:RpO w B T a A c ps r):∀ k∈a.fp++vsF A ps,B≤k∧k < T:=fun k hk=>by
 rcases List.mem_append.1 hk with hk | hk
 ·exact ⟨h.l.low k hk,h.l.top k hk⟩
 ·exact ⟨(h.v.low k hk).1,h.v.top k hk⟩
theorem chg_set {w w':World} {S:List Nat} (h:Chg w w' S) {p:Addr} (hp:p.block∈S) (u:Value):Chg w (w'.setCell p u) S :=
 ⟨h.os,h.tape,h.output,by simpa using h.size,fun k hk hn=>(Below.heap_setCell _ _ _ _ (fun he=>hn (by rw [he];exact hp))).trans (h.block k hk hn)⟩
theorem VtE.one (p:VtE):∀ u∈p.enc,u.oneCell'=true:=by
 intro u hu
 simp [VtE.enc] at hu
 rcases hu with rfl | rfl | rfl | rfl | rfl | rfl | rfl | rfl | rfl | rfl <;> rfl
theorem Rd.one {α:Type} {enc:α→List Value} {sz:Nat} {w:World} {p:Nat} {cs:Array Value} {T:TypeId} {x:α} (h:w.heap[p]?=some (.cells cs T (0,0))) (hx:cs.toList=enc x):Rd enc sz w (some ⟨p,0,none⟩) 1 [x]:=by
 refine ⟨Nat.le_refl _,by unfold maxLen;omega,fun _=>⟨p,0,rfl,bx_lt h,fun k hk j u hu=>?_⟩⟩
 simp only [List.length_singleton] at hk
 obtain rfl:k=0:=by omega
 rw [bx_cell h]
 simp only [List.getElem_cons_zero] at hu
 rw [←hx] at hu
 simpa using hu
set_option maxRecDepth 100000 in
set_option maxHeartbeats 4000000 in
theorem c_copyVotes (A:Option Addr) (c:Nat) (ps:List VtE) (w:World) (hr:VsR w A c ps) (hn:ps.length≤1048576) (hs:LgS ps) :
  Calls Tryz.prog 47 #[.slice A ps.length c] w fun e w'=>∃ A' c' qs,e = .returned (.slice A' ps.length c')∧List.length qs=ps.length∧List.map Prod.snd qs=ps.map Prod.snd∧VsO w' w.heap.size w'.heap.size A' c' qs∧Ext w w':=by
 obtain ⟨i0,hi,hz0,hz1,hz2⟩:=info_parts Tryz.infoVt
 have HS:=Hd hs
 have HR:=Hd hr
 have hL:=hr.len
 clear hs hr
 go_enter Tryz.func47,Tryz.ntmps47
 go_wp2
 go_loopw [3,9] (fun v i wr=>∃ (k:Nat) (qs:List VtE),k≤ps.length∧i = .int .i64 k∧VsS ps qs k∧Ow VtE.enc 57 10 wr w.heap.size v qs∧VsQ wr w.heap.size qs∧Ext w wr) (fun _ i _=>ps.length - (intOf i).toNat)
 case atStart=>exact ⟨0,[],Nat.zero_le _,rfl,rfl,own_empty (hNew rfl) (Nat.le_refl _),VsQ.nil _ _,ext_alloc _ _⟩
 case round =>
  obtain ⟨k,qs,hk,rfl,hq,ho,hQ,X⟩:=hrel
  obtain ⟨A1,c1,rfl⟩:=ho.form
  have hql:=hq.length hk
  have HO:=Hd ho
  have HQ:=Hd hQ
  have HVS:=Hd hq
  clear ho hQ hq
  by_cases hlt:k < ps.length
  ·obtain ⟨ab,ao,hA,hab,a0,a1,a2,a3,a4,a5,a6,a7,a8,a9⟩:=(HR.out.1.keep X).atVtE hlt
   subst hA
   have X1:=ext_alloc wr (Vt.obj ps[k].1 ps[k].2)
   have HCL:=Hd (c_copyLog ps[k].1 ps[k].2.log (HS.out _ (List.getElem_mem hlt)) (wr.alloc (Vt.obj ps[k].1 ps[k].2)) ((HR.out.2 _ (List.getElem_mem hlt)).keep (Ext.trans X X1)))
   have HQL:=Hd hql
   clear hql
   go_wp2_with fail
   refine HCL.out.mono ?_
   rintro e w2 ⟨a',rfl,o2,x2⟩
   have B2:=x2.box (hNew (w:=wr) (o:=Vt.obj ps[k].1 ps[k].2) rfl)
   have b2:=bx_cell B2
   have f2:=bx_frozen B2
   have z2:=bx_lt B2
   have P2:=box_put (box_put (box_put (box_put B2 6 (.int .i64 ps[k].2.log.base)) 7 (.slice a'.cA ps[k].2.log.cells.length a'.cc)) 8 (.slice a'.sA ps[k].2.log.seats.length a'.sc)) 9 (.slice a'.eA ps[k].2.log.ents.length a'.ec)
   simp only [Sa,Sz,Ss] at P2
   have HP2:=Hd P2
   simp only [sz_alloc] at o2
   have hnew:=o2.low
   have HOn:=Hd o2
   have HX:=Hd (Ext.trans X1 x2)
   have hws:=X.size
   clear B2 P2 o2
   go_wp2_with (with_reducible refine wl_stop 18 ?_)
   have hcs:=chg_set (chg_set (chg_set (chg_set (Chg.refl w2 [wr.heap.size]) (p:=⟨wr.heap.size,6,none⟩) (by simp) (.int .i64 ps[k].2.log.base)) (p:=⟨wr.heap.size,7,none⟩) (by simp) (.slice a'.cA ps[k].2.log.cells.length a'.cc)) (p:=⟨wr.heap.size,8,none⟩) (by simp) (.slice a'.sA ps[k].2.log.seats.length a'.sc)) (p:=⟨wr.heap.size,9,none⟩) (by simp) (.slice a'.eA ps[k].2.log.ents.length a'.ec)
   refine stop_go (F:=fun W=>W.heap[wr.heap.size]?=some (Vt.obj a' ps[k].2)∧VsQ W w.heap.size (qs++[(a',ps[k].2)])∧Ow VtE.enc 57 10 W w.heap.size (.slice A1 qs.length c1) qs∧Ext w W) ?_ ?_
   ·refine ⟨HP2.out, ?_, ?_, ?_⟩
    ·refine (HQ.out.step hws (HOn.out.wide (by omega) (Nat.le_refl _)) HX.out).chg hcs (fun p hp x hx hm=>?_)
     rw [Mi] at hm
     subst hm
     rcases List.mem_append.1 hp with hp | hp
     ·have:=(HQ.out.l p hp).lt _ hx;omega
     ·rw [Mi] at hp
      subst hp
      have:=hnew _ hx;omega
    ·refine (HO.out.kept HX.out).chg hcs (fun x hx hm=>?_)
     rw [Mi] at hm
     subst hm
     have:=(HO.out.inB _ hx).2
     omega
    ·exact chg_new (Ext.trans X HX.out) hcs hws
   intro W3 ⟨E3,q3,o3,X3⟩
   have e3:=bx_cell E3
   have g3:=bx_frozen E3
   have z3:=bx_lt E3
   have HQ3:=Hd q3
   have HO3:=Hd o3
   clear b2 f2 z2 E3 q3 o3 hcs hnew a0 a1 a2 a3 a4 a5 a6 a7 a8 a9
   have hgl:=HQL.out
   go_wp2_with (at_builtin;refine wl_app (enc:=VtE.enc) rfl _ _ 31 rfl w.heap.size 57 i0 Vt.zero 10 128 Tryz.underlying31 hi hz0 hz1 hz2 rfl (by decide) VtE.len VtE.one (.slice A1 qs.length c1) qs rfl (HO3.out.kept (ext_alloc _ _)) (some ⟨W3.heap.size,0,none⟩) 1 [(a',ps[k].2)] 1 rfl rfl (Rd.one (hNew rfl) rfl) ?c1 ?c2 ?c3 ?_)
   case c1=>unfold maxLen;simp;omega
   case c2=>simp;omega
   case c3=>have:=X3.size;simp;omega
   intro v' w4 ho4 hg4
   have c4:=chg_grown hg4
   have X4:=Hd (ext_chg (ext_to X3 (.cells #[.int .i64 ps[k].2.kind, .int .i64 ps[k].2.frm, .int .i64 ps[k].2.view, .int .i64 ps[k].2.normal, .int .i64 ps[k].2.op, .int .i64 ps[k].2.commit, .int .i64 ps[k].2.log.base, .slice a'.cA ps[k].2.log.cells.length a'.cc, .slice a'.sA ps[k].2.log.seats.length a'.sc, .slice a'.eA ps[k].2.log.ents.length a'.ec] 57)) c4 (fun g hg=>(HO3.out.inB g hg).1))
   have HQ4:=Hd ((HQ3.out.kept (ext_alloc W3 (.cells #[.int .i64 ps[k].2.kind, .int .i64 ps[k].2.frm, .int .i64 ps[k].2.view, .int .i64 ps[k].2.normal, .int .i64 ps[k].2.op, .int .i64 ps[k].2.commit, .int .i64 ps[k].2.log.base, .slice a'.cA ps[k].2.log.cells.length a'.cc, .slice a'.sA ps[k].2.log.seats.length a'.sc, .slice a'.eA ps[k].2.log.ents.length a'.ec] 57))).chg c4 (fun p hp x hx hm=>lg_apart (HQ3.out.l p hp) HO3.out x hx hm))
   have HO4:=Hd ho4
   clear ho4 hg4 c4
   go_wp2
   go_roundw
   case rel=>exact ⟨k+1,qs++[(a',ps[k].2)],by omega,by go_num,HVS.out.next hlt a',HO4.out,HQ4.out,X4.out⟩
   case measure=>simp [intOf] <;> omega
  ·obtain rfl:k=ps.length:=by omega
   have HQL:=Hd hql
   rw [hql]
   clear hql
   go_wp2
   go_ret
   have h1:=HVS.out
   unfold VsS at h1
   rw [List.take_length] at h1
   refine ⟨A1,c1,qs,rfl,HQL.out,h1,HQ.out.own HO.out,X⟩
set_option maxRecDepth 100000 in
set_option maxHeartbeats 4000000 in
theorem c_copyReplica (a:LAd) (A:Option Addr) (c:Nat) (ps:List VtE) (r:Rp) (w:World) (hr:RpR w a A c ps r) (hs:r.log.small) (hn:ps.length≤1048576) (hv:LgS ps) :
  Calls Tryz.prog 14 #[Rp.val a A ps.length c r] w fun e w'=>∃ (a':LAd) (A':Option Addr) (c':Nat) (qs:List VtE),e = .returned (Rp.val a' A' ps.length c' r)∧qs.length=ps.length∧RpO w' w.heap.size w'.heap.size a' A' c' qs r∧Ext w w':=by
 have HS:=Hd hs
 have HR:=Hd hr
 have HV:=Hd hv
 clear hs hr hv
 have X0:Ext w ((w.alloc (Rp.obj a A ps.length c r)).alloc Rp.zobj):=ext_to (ext_alloc _ _) _
 go_enter Tryz.func14,Tryz.ntmps14
 go_wp2_with fail
 refine (c_copyLog a r.log HS.out _ (HR.out.l.keep X0)).mono ?_
 rintro e w1 ⟨a',rfl,o1,x1⟩
 have B1:=x1.box (hOld (o:=Rp.zobj) (hNew (w:=w) (o:=Rp.obj a A ps.length c r) rfl))
 have B2:=x1.box (hNew (w:=w.alloc (Rp.obj a A ps.length c r)) (o:=Rp.zobj) rfl)
 rw [sz_alloc] at B2
 simp only [sz_alloc] at o1
 have X1:=Ext.trans X0 x1
 have b1:=bx_cell B1
 have f1:=bx_frozen B1
 have z1:=bx_lt B1
 have P1:=box_put (box_put (box_put (box_put B1 6 (.int .i64 r.log.base)) 7 (.slice a'.cA r.log.cells.length a'.cc)) 8 (.slice a'.sA r.log.seats.length a'.sc)) 9 (.slice a'.eA r.log.ents.length a'.ec)
 simp only [Sa,Sz,Ss] at P1
 have hcs:=chg_set (chg_set (chg_set (chg_set (Chg.refl w1 [w.heap.size]) (p:=⟨w.heap.size,6,none⟩) (by simp) (.int .i64 r.log.base)) (p:=⟨w.heap.size,7,none⟩) (by simp) (.slice a'.cA r.log.cells.length a'.cc)) (p:=⟨w.heap.size,8,none⟩) (by simp) (.slice a'.sA r.log.seats.length a'.sc)) (p:=⟨w.heap.size,9,none⟩) (by simp) (.slice a'.eA r.log.ents.length a'.ec)
 have HB2:=Hd (box_chg B2 hcs (by omega))
 have HP1:=Hd P1
 have HO1:=Hd (o1.chg1 hcs (by omega))
 have HX1:=Hd (chg_new X1 hcs (Nat.le_refl _))
 have HCS:=Hd hcs
 clear B1 B2 P1 o1 hcs
 go_wp2_with fail
 refine (c_copyVotes A c ps _ (HR.out.v.keep HX1.out) hn HV.out).mono ?_
 rintro e w2 ⟨A',c',qs,rfl,hql,hq,o2,x2⟩
 have D1:=x2.box HP1.out
 have D2:=x2.box HB2.out
 have HO1':=Hd (HO1.out.kept x2)
 have X2:=Ext.trans HX1.out x2
 have HX2:=Hd X2
 have HO2:=Hd o2
 clear b1 f1 z1 o2
 have d1:=bx_cell D1
 have g1:=bx_frozen D1
 have z1:=bx_lt D1
 have P1:=box_put D1 10 (.slice A' ps.length c')
 simp only [Sa,Sz,Ss] at P1
 have HP1:=Hd P1
 have HD2:=Hd D2
 have HQ:=Hd hq
 have hs12:=HCS.out.size
 have hsz:w.heap.size+1+1≤w1.heap.size:=by have:=x1.size;simp only [sz_alloc] at this;omega
 clear D1 D2 P1 hq
 go_wp2_with (with_reducible refine wl_stop 11 ?_)
 have hcs:=chg_set (Chg.refl w2 [w.heap.size]) (p:=⟨w.heap.size,10,none⟩) (by simp) (.slice A' ps.length c')
 refine stop_go (F:=fun W=>W.heap[w.heap.size]?=some (Rp.obj a' A' ps.length c' r)∧W.heap[w.heap.size+1]?=some Rp.zobj∧RpO W (w.heap.size+1+1) W.heap.size a' A' c' qs r∧Ext w W) ?_ ?_
 ·have hlow:∀ k∈vsF A' qs,w1.heap.size≤k:=fun k hk=>by have:=(HO2.out.low k hk).1;omega
  refine ⟨HP1.out,box_chg HD2.out hcs (by omega),⟨?_, ?_,by rw [HQ.out];exact HR.out.e,fun k hk hm=>?_⟩,chg_new HX2.out hcs (Nat.le_refl _)⟩
  ·refine ((HO1'.out.chg1 hcs (by omega)).wide (Nat.le_refl _) ?_)
   have:=x2.size
   have:=hcs.size
   omega
  ·refine (HO2.out.chg hcs (fun k hk hm=>?_)).wide (by omega) hcs.size
   rw [Mi] at hm
   have:=hlow k hk
   omega
  ·have h1:=HO1.out.top k hk
   have h2:=hlow k hm
   omega
 intro W3 ⟨E1,E2,o3,X3⟩
 clear d1 g1 z1 hcs hs12
 have d1:=bx_cell E1
 have g1:=bx_frozen E1
 have z1:=bx_lt E1
 have HE2:=Hd E2
 have HO3:=Hd o3
 clear E1 E2 o3
 go_wp2_with (with_reducible refine wl_stopS 33 ?_)
 refine stop_store (w.heap.size+1) #[.int .i64 r.me, .int .i64 r.of, .int .i64 r.mode, .int .i64 r.view, .int .i64 r.normal, .int .i64 r.commit, .int .i64 r.log.base, .slice a'.cA r.log.cells.length a'.cc, .slice a'.sA r.log.seats.length a'.sc, .slice a'.eA r.log.ents.length a'.ec, .slice A' ps.length c', .int .i64 r.cell, .int .i64 r.nonce] rfl rfl HE2.out (by kernel_rfl) rfl (by simp [Value.oneCell']) ?_
 intro W4 E4 C4
 have hX4:=Hd (chg_new X3 C4 (by omega))
 have hf:=HO3.out.fpIn
 have hO4:RpO W4 (w.heap.size+1+1) W3.heap.size a' A' c' qs r:=⟨HO3.out.l.chg1 C4 (by omega),HO3.out.v.chg C4 (fun k hk hm=>by rw [Mi] at hm;have:=(hf k (List.mem_append_right _ hk)).1;omega),HO3.out.e,HO3.out.d⟩
 have HO4:=Hd hO4
 have hs4:=C4.size
 clear C4 d1 g1 z1 hf hO4
 go_wp2
 exact bodyPost_ret (results_box Tryz.results14 rfl Tryz.underlying33 (by kernel_rfl) E4) rfl ⟨a',A',c',qs,rfl,hql,⟨HO4.out.l.wide (by omega) hs4,HO4.out.v.wide (by omega) hs4,HO4.out.e,HO4.out.d⟩,hX4.out⟩
end Go.Proofs.YtikelfmmldafpaaGreat
