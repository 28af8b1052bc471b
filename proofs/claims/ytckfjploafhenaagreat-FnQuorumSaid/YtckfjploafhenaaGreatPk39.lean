/- slices.Insert at cells and seats. -/
import Derived.Test.YtckfjploafhenaaGreatPk17
import Derived.Test.YtckfjploafhenaaGreatPk19
import Derived.Test.YtckfjploafhenaaGreatPk38
import Derived.Test.YtckfjploafhenaaGreatPk23
import Derived.Test.YtckfjploafhenaaGreatPk37
set_option maxRecDepth 100000
set_option maxHeartbeats 16000000
set_option linter.unusedVariables false
set_option linter.unusedSimpArgs false
namespace Go.Proofs.YtckfjploafhenaaGreat
open Go.ChangeShapes Go.WideShapes Go.ChangeAt Go.RowKit Go.Sort
theorem szCel:(Tryz.prog.info? 162).map (·.size)=some 2:=by kernel_rfl
theorem oneCel (x:Cel):∀ u∈x.enc,u.oneCell'=true:=by intro u hu;simp [Cel.enc] at hu;rcases hu with rfl | rfl <;> rfl
theorem boxCel {w:World} {p:Nat} {x0 x1:Int} (hv:w.heap[p]?=some (.cells #[.int .i64 x0, .int .i64 x1] 162 (0,0))):∀ (j:Nat) (u:Value),((⟨x0,x1⟩:Cel).enc)[j]?=some u->w.cell? ((⟨p,0,none⟩:Addr).add j)=some u:=fun j u hj=>by
 rw [Addr.add_lit,Nat.zero_add,za2 hv j];simpa [Cel.enc] using hj
theorem c_insCel (g c:Nat) (l:List Cel) (i:Nat) (x0 x1:Int) (p B:Nat) (w:World) (ho:Ow Cel.enc 162 2 w B (.slice (some ⟨g,0,none⟩) l.length c) l) (hv:w.heap[p]?=some (.cells #[.int .i64 x0, .int .i64 x1] 162 (0,0))) (hpg:p≠g) (hil:i<=l.length) (hn:l.length<=1048576) (hB:B<=w.heap.size) :
  Calls Tryz.prog 172 #[.slice (some ⟨g,0,none⟩) l.length c, .int .i64 i, .slice (some ⟨p,0,none⟩) 1 1] w fun e w'=>∃ v',e = .returned v'/\Ow Cel.enc 162 2 w' B v' (l.take i++⟨x0,x1⟩::l.drop i)/\w.grownBy w' (some g):=by
 obtain ⟨i0,hi,hz0,hz1,hz2⟩:=info_parts Tryz.infoCel;have hr:=(ho.rd Cel.enc_len).2;have hcl:=hr.1;have hcm:=hr.2.1;unfold maxLen at hcm;obtain ⟨n,hnn⟩:∃ n,l.length=n:=⟨_,rfl⟩;have HF:=Hd (zae Cel.enc_len l);have O0:=Hd (show w.ownsRow B 162 2 (.slice (some ⟨g,0,none⟩) n c) n (l.flatMap Cel.enc) by have:=ho;unfold Ow at this;rw [hnn] at this;exact this)
 have HV:=Hd hv;have hpl:=bx_lt hv;have hgl:g < w.heap.size:=(ho.lt g rfl).2;have HN:=Hd hnn;rw [hnn];rw [hnn] at hcl hil hn;clear ho hv hr hnn;rcases Nat.lt_or_ge i n with hlt | hge
 ·have q1:((i:Int) == (n:Int))=false:=by simp;omega
  have hci:¬ (c=i):=by omega
  rcases Nat.lt_or_ge c (n+1) with hroom | hroom
  ·have q2:decide ((c:Int) < (n:Int)+1)=true:=by simp;omega
   go_enter Tryz.func172,Tryz.ntmps172
   go_wp2_with (at_builtin;refine zgi rfl _ _ _ _ rfl g i c rfl .i64 _ rfl (n+1 - i) (by omega) O0.out i0 (.agg #[.int .i64 0, .int .i64 0]) .i64 Tryz.underlying24 Tryz.underlying3 hi hz0 hz1 rfl (by decide) (by omega) (by omega) (by omega) (by rw [hz2];omega) (by omega) hB (n+1) (by omega) ?_)
   intro w1 c1 ys hy o1 g1;have s1:=g1.size;have h1c:=(World.ownsRow.lt o1 _ rfl).2;have HV1:=Hd (zef HV.out g1 (by simp))
   have P1:=Hd (zds O0.out g1 (by simp))
   have HY:=Hd hy;have O1:=Hd o1;have hc1:=(own_cap o1).1;have hc2:=(own_cap o1).2;have hci1:¬ (c1=i):=by omega
   have hci2:¬ (c1=i+1):=by omega
   have g1':w.grownBy w1 none:=g1;clear hy o1 hz0 hz1 hz2 hi;clear g1;obtain ⟨w2,r2,o2,g2⟩:=zet O1.out 24 24 3 (i * 2) (n+1 - i) (c1 - i) ⟨p,0,none⟩ 1 1 ((⟨x0,x1⟩:Cel).enc) Tryz.underlying24 szCel (by rw [Cel.enc_len,show Nat.min 1 (n+1 - i)=1 from Nat.min_eq_left (by omega)]) (boxCel HV1.out) (by rw [Cel.enc_len];omega) (oneCel _)
   have s2:=g2.size;have P2:=Hd (zds P1.out g2 (fun k hk=>by (have h:g=k:=(by simpa [Value.ownBlock] using hk));simp only [ne_eq,Option.some.injEq];omega))
   have O2:=Hd o2;have G2:=Hd g2;have G1:=Hd g1';clear o2 g2 g1';go_wp2
   (refine mrx (fun _ _ _=>True) 8 (fun hg=>?_);simp only [Tc,Tz,Dc,Dz])
   (repeat (refine mqu ?_;go_big_quiet_step (fail);refine mnil ?_))
   (refine Rm.wpMix_nil ?_;intro w3 hw3)
   have s3:=hw3.size;have P3:=Hd (zdk P2.out hw3);have O3:=Hd (zdk O2.out hw3);obtain ⟨w4,r4,o4,g4⟩:=zet O3.out 24 24 3 ((i+1) * 2) (n - i) (c1 - (i+1)) ⟨g,i * 2,none⟩ (n - i) (c - i) ((l.flatMap Cel.enc).drop (i * 2)) Tryz.underlying24 szCel (by rw [List.length_drop,HF.out,HN.out,show Nat.min (n - i) (n - i)=n - i from Nat.min_self _];omega) (fun j v hj=>by rw [Addr.add_lit,World.ownsRow.cellAt P3.out _ (by have:=(List.getElem?_eq_some_iff.1 hj).1;rw [List.length_drop,HF.out,HN.out] at this;omega)];rwa [List.getElem?_drop] at hj) (by rw [List.length_drop,HF.out,HN.out];omega) (fun v hv=>zdr oneCel l v (List.mem_of_mem_drop hv))
   have O4:=Hd o4;have G4:=Hd g4;clear o4 g4;go_wp2
   go_ret
   refine ⟨_,rfl, ?_, ?_⟩
   ·have h:=ins_new Cel.enc_len l i (by rw [HN.out];exact hlt) ⟨x0,x1⟩ _ (by rw [HN.out];exact HY.out)
    have h2:=O4.out;rw [Cel.enc_len] at h2;rw [Cel.enc_len] at h;rw [h] at h2;exact own_of h2 (by simp;have:=HN.out;omega)
   ·have x1:Ext w w1:=zfj (za4 _) G1.out (fun k hk=>by cases hk)
    have x2:Ext w w2:=zfj x1 G2.out (fun k hk=>by simp only [Option.some.injEq] at hk;omega)
    have x4:Ext w w4:=zfj (Ext.trans x2 hw3) G4.out (fun k hk=>by simp only [Option.some.injEq] at hk;omega)
    exact zbe x4
  ·have q2:decide ((c:Int) < (n:Int)+1)=false:=by simp;omega
   have hci2:¬ (c=i+1):=by omega
   obtain ⟨ys,hy,o1⟩:=own_room O0.out hroom;obtain ⟨cur,hgc,hcur⟩:=own_heap O0.out
   have hov:∀ lb cb,(callFunc 194 #[.slice (some ⟨p,0,none⟩) 1 1, .slice (some ⟨g,(i+1) * 2,none⟩) lb cb]).run Tryz.prog w = .ok (.value (.bool false)) w:=fun lb cb=>by
    rw [run_callFunc_extern Tryz.func194 (by kernel_rfl) (by kernel_rfl) (by kernel_rfl) (e:=Extern.SlicesOverlaps.overlaps #[24,24] #[4]) (by kernel_rfl),
     own_apart (P:=Tryz.prog) (tR:=4) Tryz.underlying24 Tryz.sizeOf162 HV.out hgc hpg (by rw [hcur];omega)]
    rfl
   have HC:=Hd hgc;have HY:=Hd hy;have O1:=Hd o1;clear hgc hy o1 hz0 hz1 hz2 hi hcur
   go_enter Tryz.func172,Tryz.ntmps172
   go_wp2
   clear hov
   (refine mrx (fun _ _ _=>True) 8 (fun hg=>?_);simp only [Tc,Tz,Dc,Dz])
   (repeat (refine mqu ?_;go_big_quiet_step (fail);refine mnil ?_))
   (refine Rm.wpMix_nil ?_;intro w3 hw3)
   have s3:=hw3.size;have O3:=Hd (zdk O1.out hw3);have HV3:=Hd (hw3.box HV.out)
   obtain ⟨w4,r4,o4,g4⟩:=zet O3.out 24 24 3 ((i+1) * 2) (n - i) (c - (i+1)) ⟨g,i * 2,none⟩ (n+1 - i) (c - i) ((l.flatMap Cel.enc).drop (i * 2)) Tryz.underlying24 szCel (by rw [List.length_drop,HF.out,HN.out,show Nat.min (n+1 - i) (n - i)=n - i from Nat.min_eq_right (by omega)];omega) (fun j v hj=>by
    have hjl:=(List.getElem?_eq_some_iff.1 hj).1;rw [List.length_drop,HF.out,HN.out] at hjl;rw [Addr.add_lit,World.ownsRow.cellAt O3.out _ (by omega),List.getElem?_append_left (by rw [HF.out,HN.out];omega)]
    rwa [List.getElem?_drop] at hj) (by rw [List.length_drop,HF.out,HN.out];omega) (fun v hv=>zdr oneCel l v (List.mem_of_mem_drop hv))
   have O4:=Hd o4;have G4:=Hd g4;have HV4:=Hd (zef HV3.out g4 (by simp only [ne_eq,Option.some.injEq];omega))
   clear o4 g4;obtain ⟨w5,r5,o5,g5⟩:=zet O4.out 24 24 3 (i * 2) (n+1 - i) (c - i) ⟨p,0,none⟩ 1 1 ((⟨x0,x1⟩:Cel).enc) Tryz.underlying24 szCel (by rw [Cel.enc_len,show Nat.min 1 (n+1 - i)=1 from Nat.min_eq_left (by omega)]) (boxCel HV4.out) (by rw [Cel.enc_len];omega) (oneCel _)
   have O5:=Hd o5;have G5:=Hd g5;clear o5 g5;go_wp2
   go_ret
   refine ⟨_,rfl, ?_, ?_⟩
   ·have h:=ins_room Cel.enc_len l i (by rw [HN.out];exact hlt) ⟨x0,x1⟩ _ HY.out
    have h2:=O5.out;rw [Cel.enc_len] at h2;rw [Cel.enc_len] at h;rw [h] at h2;exact own_of h2 (by simp;have:=HN.out;omega)
   ·exact zcv (zcv (zbe hw3) G4.out) G5.out
 ·obtain rfl:i=n:=by omega
  have q1:((i:Int) == (i:Int))=true:=by simp
  have hnil:∀ {v':Value},True:=fun {_}=>trivial
  go_enter Tryz.func172,Tryz.ntmps172
  by_cases hci:c=i
  all_goals
   go_wp2_with (at_builtin;refine wpList_append_own _ rfl _ _ 24 rfl B 162 i0 (.agg #[.int .i64 0, .int .i64 0]) 2 16 Tryz.underlying24 hi hz0 hz1 hz2 rfl (by decide) _ _ _ rfl O0.out ⟨p,0,none⟩ 1 1 ((⟨x0,x1⟩:Cel).enc) rfl rfl (boxCel HV.out) (oneCel _) (by unfold maxLen;omega) (by omega) hB ?_)
   intro v2 w2 o2 g2 _;have O2:=Hd o2;have G2:=Hd g2;clear o2 g2;go_wp2
   go_ret
   refine ⟨_,rfl, ?_,G2.out⟩;have hl:l.length=i:=HN.out;rw [List.take_of_length_le (by omega),List.drop_of_length_le (by omega)]
   exact own_snoc O2.out (by rw [hl]) rfl
theorem szSea:(Tryz.prog.info? 111).map (·.size)=some 3:=by kernel_rfl
theorem oneSea (x:Sea):∀ u∈x.enc,u.oneCell'=true:=by intro u hu;simp [Sea.enc] at hu;rcases hu with rfl | rfl | rfl <;> rfl
theorem boxSea {w:World} {p:Nat} {x0 x1 x2:Int} (hv:w.heap[p]?=some (.cells #[.int .i64 x0, .int .i64 x1, .int .i64 x2] 111 (0,0))):∀ (j:Nat) (u:Value),((⟨x0,x1,x2⟩:Sea).enc)[j]?=some u->w.cell? ((⟨p,0,none⟩:Addr).add j)=some u:=fun j u hj=>by
 rw [Addr.add_lit,Nat.zero_add,za2 hv j];simpa [Sea.enc] using hj
theorem c_insSea (g c:Nat) (l:List Sea) (i:Nat) (x0 x1 x2:Int) (p B:Nat) (w:World) (ho:Ow Sea.enc 111 3 w B (.slice (some ⟨g,0,none⟩) l.length c) l) (hv:w.heap[p]?=some (.cells #[.int .i64 x0, .int .i64 x1, .int .i64 x2] 111 (0,0))) (hpg:p≠g) (hil:i<=l.length) (hn:l.length<=1048576) (hB:B<=w.heap.size) :
  Calls Tryz.prog 109 #[.slice (some ⟨g,0,none⟩) l.length c, .int .i64 i, .slice (some ⟨p,0,none⟩) 1 1] w fun e w'=>∃ v',e = .returned v'/\Ow Sea.enc 111 3 w' B v' (l.take i++⟨x0,x1,x2⟩::l.drop i)/\w.grownBy w' (some g):=by
 obtain ⟨i0,hi,hz0,hz1,hz2⟩:=info_parts Tryz.infoSea;have hr:=(ho.rd Sea.enc_len).2;have hcl:=hr.1;have hcm:=hr.2.1;unfold maxLen at hcm;obtain ⟨n,hnn⟩:∃ n,l.length=n:=⟨_,rfl⟩;have HF:=Hd (zae Sea.enc_len l);have O0:=Hd (show w.ownsRow B 111 3 (.slice (some ⟨g,0,none⟩) n c) n (l.flatMap Sea.enc) by have:=ho;unfold Ow at this;rw [hnn] at this;exact this)
 have HV:=Hd hv;have hpl:=bx_lt hv;have hgl:g < w.heap.size:=(ho.lt g rfl).2;have HN:=Hd hnn;rw [hnn];rw [hnn] at hcl hil hn;clear ho hv hr hnn;rcases Nat.lt_or_ge i n with hlt | hge
 ·have q1:((i:Int) == (n:Int))=false:=by simp;omega
  have hci:¬ (c=i):=by omega
  rcases Nat.lt_or_ge c (n+1) with hroom | hroom
  ·have q2:decide ((c:Int) < (n:Int)+1)=true:=by simp;omega
   go_enter Tryz.func109,Tryz.ntmps109
   go_wp2_with (at_builtin;refine zgi rfl _ _ _ _ rfl g i c rfl .i64 _ rfl (n+1 - i) (by omega) O0.out i0 (.agg #[.int .i64 0, .int .i64 0, .int .i64 0]) .i64 Tryz.underlying25 Tryz.underlying3 hi hz0 hz1 rfl (by decide) (by omega) (by omega) (by omega) (by rw [hz2];omega) (by omega) hB (n+1) (by omega) ?_)
   intro w1 c1 ys hy o1 g1;have s1:=g1.size;have h1c:=(World.ownsRow.lt o1 _ rfl).2;have HV1:=Hd (zef HV.out g1 (by simp))
   have P1:=Hd (zds O0.out g1 (by simp))
   have HY:=Hd hy;have O1:=Hd o1;have hc1:=(own_cap o1).1;have hc2:=(own_cap o1).2;have hci1:¬ (c1=i):=by omega
   have hci2:¬ (c1=i+1):=by omega
   have g1':w.grownBy w1 none:=g1;clear hy o1 hz0 hz1 hz2 hi;clear g1;obtain ⟨w2,r2,o2,g2⟩:=zet O1.out 25 25 3 (i * 3) (n+1 - i) (c1 - i) ⟨p,0,none⟩ 1 1 ((⟨x0,x1,x2⟩:Sea).enc) Tryz.underlying25 szSea (by rw [Sea.enc_len,show Nat.min 1 (n+1 - i)=1 from Nat.min_eq_left (by omega)]) (boxSea HV1.out) (by rw [Sea.enc_len];omega) (oneSea _)
   have s2:=g2.size;have P2:=Hd (zds P1.out g2 (fun k hk=>by (have h:g=k:=(by simpa [Value.ownBlock] using hk));simp only [ne_eq,Option.some.injEq];omega))
   have O2:=Hd o2;have G2:=Hd g2;have G1:=Hd g1';clear o2 g2 g1';go_wp2
   (refine mrx (fun _ _ _=>True) 8 (fun hg=>?_);simp only [Tc,Tz,Dc,Dz])
   (repeat (refine mqu ?_;go_big_quiet_step (fail);refine mnil ?_))
   (refine Rm.wpMix_nil ?_;intro w3 hw3)
   have s3:=hw3.size;have P3:=Hd (zdk P2.out hw3);have O3:=Hd (zdk O2.out hw3);obtain ⟨w4,r4,o4,g4⟩:=zet O3.out 25 25 3 ((i+1) * 3) (n - i) (c1 - (i+1)) ⟨g,i * 3,none⟩ (n - i) (c - i) ((l.flatMap Sea.enc).drop (i * 3)) Tryz.underlying25 szSea (by rw [List.length_drop,HF.out,HN.out,show Nat.min (n - i) (n - i)=n - i from Nat.min_self _];omega) (fun j v hj=>by rw [Addr.add_lit,World.ownsRow.cellAt P3.out _ (by have:=(List.getElem?_eq_some_iff.1 hj).1;rw [List.length_drop,HF.out,HN.out] at this;omega)];rwa [List.getElem?_drop] at hj) (by rw [List.length_drop,HF.out,HN.out];omega) (fun v hv=>zdr oneSea l v (List.mem_of_mem_drop hv))
   have O4:=Hd o4;have G4:=Hd g4;clear o4 g4;go_wp2
   go_ret
   refine ⟨_,rfl, ?_, ?_⟩
   ·have h:=ins_new Sea.enc_len l i (by rw [HN.out];exact hlt) ⟨x0,x1,x2⟩ _ (by rw [HN.out];exact HY.out)
    have h2:=O4.out;rw [Sea.enc_len] at h2;rw [Sea.enc_len] at h;rw [h] at h2;exact own_of h2 (by simp;have:=HN.out;omega)
   ·have x1:Ext w w1:=zfj (za4 _) G1.out (fun k hk=>by cases hk)
    have x2:Ext w w2:=zfj x1 G2.out (fun k hk=>by simp only [Option.some.injEq] at hk;omega)
    have x4:Ext w w4:=zfj (Ext.trans x2 hw3) G4.out (fun k hk=>by simp only [Option.some.injEq] at hk;omega)
    exact zbe x4
  ·have q2:decide ((c:Int) < (n:Int)+1)=false:=by simp;omega
   have hci2:¬ (c=i+1):=by omega
   obtain ⟨ys,hy,o1⟩:=own_room O0.out hroom;obtain ⟨cur,hgc,hcur⟩:=own_heap O0.out
   have hov:∀ lb cb,(callFunc 151 #[.slice (some ⟨p,0,none⟩) 1 1, .slice (some ⟨g,(i+1) * 3,none⟩) lb cb]).run Tryz.prog w = .ok (.value (.bool false)) w:=fun lb cb=>by
    rw [run_callFunc_extern Tryz.func151 (by kernel_rfl) (by kernel_rfl) (by kernel_rfl) (e:=Extern.SlicesOverlaps.overlaps #[25,25] #[4]) (by kernel_rfl),
     own_apart (P:=Tryz.prog) (tR:=4) Tryz.underlying25 Tryz.sizeOf111 HV.out hgc hpg (by rw [hcur];omega)]
    rfl
   have HC:=Hd hgc;have HY:=Hd hy;have O1:=Hd o1;clear hgc hy o1 hz0 hz1 hz2 hi hcur
   go_enter Tryz.func109,Tryz.ntmps109
   go_wp2
   clear hov
   (refine mrx (fun _ _ _=>True) 8 (fun hg=>?_);simp only [Tc,Tz,Dc,Dz])
   (repeat (refine mqu ?_;go_big_quiet_step (fail);refine mnil ?_))
   (refine Rm.wpMix_nil ?_;intro w3 hw3)
   have s3:=hw3.size;have O3:=Hd (zdk O1.out hw3);have HV3:=Hd (hw3.box HV.out)
   obtain ⟨w4,r4,o4,g4⟩:=zet O3.out 25 25 3 ((i+1) * 3) (n - i) (c - (i+1)) ⟨g,i * 3,none⟩ (n+1 - i) (c - i) ((l.flatMap Sea.enc).drop (i * 3)) Tryz.underlying25 szSea (by rw [List.length_drop,HF.out,HN.out,show Nat.min (n+1 - i) (n - i)=n - i from Nat.min_eq_right (by omega)];omega) (fun j v hj=>by
    have hjl:=(List.getElem?_eq_some_iff.1 hj).1;rw [List.length_drop,HF.out,HN.out] at hjl;rw [Addr.add_lit,World.ownsRow.cellAt O3.out _ (by omega),List.getElem?_append_left (by rw [HF.out,HN.out];omega)]
    rwa [List.getElem?_drop] at hj) (by rw [List.length_drop,HF.out,HN.out];omega) (fun v hv=>zdr oneSea l v (List.mem_of_mem_drop hv))
   have O4:=Hd o4;have G4:=Hd g4;have HV4:=Hd (zef HV3.out g4 (by simp only [ne_eq,Option.some.injEq];omega))
   clear o4 g4;obtain ⟨w5,r5,o5,g5⟩:=zet O4.out 25 25 3 (i * 3) (n+1 - i) (c - i) ⟨p,0,none⟩ 1 1 ((⟨x0,x1,x2⟩:Sea).enc) Tryz.underlying25 szSea (by rw [Sea.enc_len,show Nat.min 1 (n+1 - i)=1 from Nat.min_eq_left (by omega)]) (boxSea HV4.out) (by rw [Sea.enc_len];omega) (oneSea _)
   have O5:=Hd o5;have G5:=Hd g5;clear o5 g5;go_wp2
   go_ret
   refine ⟨_,rfl, ?_, ?_⟩
   ·have h:=ins_room Sea.enc_len l i (by rw [HN.out];exact hlt) ⟨x0,x1,x2⟩ _ HY.out
    have h2:=O5.out;rw [Sea.enc_len] at h2;rw [Sea.enc_len] at h;rw [h] at h2;exact own_of h2 (by simp;have:=HN.out;omega)
   ·exact zcv (zcv (zbe hw3) G4.out) G5.out
 ·obtain rfl:i=n:=by omega
  have q1:((i:Int) == (i:Int))=true:=by simp
  have hnil:∀ {v':Value},True:=fun {_}=>trivial
  go_enter Tryz.func109,Tryz.ntmps109
  by_cases hci:c=i
  all_goals
   go_wp2_with (at_builtin;refine wpList_append_own _ rfl _ _ 25 rfl B 111 i0 (.agg #[.int .i64 0, .int .i64 0, .int .i64 0]) 3 24 Tryz.underlying25 hi hz0 hz1 hz2 rfl (by decide) _ _ _ rfl O0.out ⟨p,0,none⟩ 1 1 ((⟨x0,x1,x2⟩:Sea).enc) rfl rfl (boxSea HV.out) (oneSea _) (by unfold maxLen;omega) (by omega) hB ?_)
   intro v2 w2 o2 g2 _;have O2:=Hd o2;have G2:=Hd g2;clear o2 g2;go_wp2
   go_ret
   refine ⟨_,rfl, ?_,G2.out⟩;have hl:l.length=i:=HN.out;rw [List.take_of_length_le (by omega),List.drop_of_length_le (by omega)]
   exact own_snoc O2.out (by rw [hl]) rfl
def DelAt (ado:Option Addr) (m g off:Nat):Prop:=∃ ad,ado=some ad/\(m=0\/ad=⟨g,off,none⟩)
section
variable {P:Program} {α:Type} {enc:α->List Value} {ops:Array Oper} {rest:List Oper} {o:Oper} {a:Act} {w:World} {Q:Exit->Act->World->Prop}
theorem wl_appDel (hgd:o.guard=none) (s x:Operand) (t e:TypeId) (i:TypeInfo) (size:Nat) (ho:o.op = .call { callee := .builtin .append,args:=#[s,x],argTypes:=#[t,t] })
  (ht:P.underlying t=some (.slice e)) (hi:P.info? e=some i) (hsize:i.size=size) (hsz:0 < size) (hlen:∀ x,(enc x).length=size) (hone:∀ x,∀ u∈enc x,u.oneCell'=true)
  (B g c:Nat) (l:List α) (k:Nat) (hk:k < l.length) (hown:Ow enc e size w B (.slice (some ⟨g,0,none⟩) l.length c) l) (hs:a.eval s = .slice (some ⟨g,0,none⟩) k c)
  (ado:Option Addr) (m c2:Nat) (hx:a.eval x = .slice ado m c2) (hado:DelAt ado m g ((k+1) * size)) (hm:m=l.length - (k+1))
  (h:∀ W cur,W.heap[g]?=some (.cells cur e (0,0))->cur.size=c * size->cur.toList.take ((l.length - 1) * size)=(l.take k++l.drop (k+1)).flatMap enc->Chg w W [g]->wpList P ops Q rest (a.put o.dst (.slice (some ⟨g,0,none⟩) (l.length - 1) c)) W):wpList P ops Q (o::rest) a w:=by
 subst hsize hm;obtain ⟨ad,rfl,had⟩:=hado;rcases hown.2 with ⟨he,_⟩ | ⟨g',cap,cur,he,hbg,hgg,hnc,hcm,hcs,htake⟩
 ·simp at he
 simp only [Value.slice.injEq,Option.some.injEq,Addr.mk.injEq,and_true,true_and] at he;obtain ⟨rfl,rfl⟩:=he;have hfl:(l.flatMap enc).length=l.length * i.size:=hown.1;have hD:((l.drop (k+1)).flatMap enc).length=(l.length - (k+1)) * i.size:=by rw [zae hlen,List.length_drop]
 have hT:((l.take k).flatMap enc).length=k * i.size:=by rw [zae hlen,List.length_take,Nat.min_eq_left (by omega)]
 have hT1:((l.take (k+1)).flatMap enc).length=(k+1) * i.size:=by rw [zae hlen,List.length_take,Nat.min_eq_left (by omega)]
 have hsplit:l.flatMap enc=(l.take k).flatMap enc++(l.drop k).flatMap enc:=by rw [<-List.flatMap_append,List.take_append_drop]
 have hsplit1:l.flatMap enc=(l.take (k+1)).flatMap enc++(l.drop (k+1)).flatMap enc:=by rw [<-List.flatMap_append,List.take_append_drop]
 have hcells:∀ j u,(l.flatMap enc)[j]?=some u->w.cell? ((⟨g,0,none⟩:Addr).add j)=some u:=World.ownsRow.cells hown rfl
 have hnews:∀ j u,((l.drop (k+1)).flatMap enc)[j]?=some u->w.cell? (ad.add j)=some u:=fun j u hu=>by
  rcases had with h0 | rfl
  ·have:=(List.getElem?_eq_some_iff.1 hu).1
   rw [hD,h0,Nat.zero_mul] at this;omega
  have h1:=hcells ((k+1) * i.size+j) u (by rw [hsplit1,List.getElem?_append_right (by omega),hT1];simpa using hu)
  rw [Addr.add_lit] at h1 ⊢;rw [Nat.zero_add] at h1;exact h1
 have hmul:k * i.size+(l.length - (k+1)) * i.size=(l.length - 1) * i.size:=by rw [<-Nat.add_mul];congr 1;omega
 have hle:(l.length - 1) * i.size<=c * i.size:=Nat.mul_le_mul_right _ (by omega)
 have hrun:=run_append_room (P:=P) (w:=w) t o.type e i ht hi g k c cur hgg ad (l.length - (k+1)) c2 ((l.drop (k+1)).flatMap enc) hD hnews (zdr hone _) (by omega) (by rw [hD,hcs,hmul];exact hle)
 refine wpList_plain hgd fun K hK=>?_
 unfold Oper.wp execOp;rw [show k+(l.length - (k+1))=l.length - 1 by omega] at hrun
 simp only [ho,resolve,invoke,builtin,Sem.run_bind,Sem.run_pure,Result.andThen_ok,List.map_toArray,List.map_cons,List.map_nil,hs,hx,hrun]
 have htk:cur.toList.take (k * i.size)=(l.take k).flatMap enc:=by
  have h1:cur.toList.take (k * i.size)=(cur.toList.take (l.length * i.size)).take (k * i.size):=by rw [List.take_take,Nat.min_eq_left (Nat.mul_le_mul_right _ (by omega))]
  rw [h1,htake,hsplit,<-hT];exact List.take_left
 refine hK _ _ (h _ _ (setRow_heap w g cur _ e (0,0) hgg) ?_ ?_ (zcy w g _))
 ·simp only [List.size_toArray,List.length_append,List.length_take,List.length_drop,Array.length_toList,hD,hcs]
  have:k * i.size<=c * i.size:=Nat.mul_le_mul_right _ (by omega)
  omega
 ·rw [htk,<-List.flatMap_append];have hl:((l.take k++l.drop (k+1)).flatMap enc).length=(l.length - 1) * i.size:=by rw [List.flatMap_append,List.length_append,hT,hD,hmul]
  rw [<-hl];show ((l.take k++l.drop (k+1)).flatMap enc++_).take _=_;exact List.take_left
theorem run_clear1 (t e:TypeId) (i:TypeInfo) (z:Value) (size:Nat) (ht:P.underlying t=some (.slice e)) (hi:P.info? e=some i) (hz:i.zero=some z) (hzc:(Builtin.zeroCells z.cells 1).toList.length=size) (hzo:∀ u∈(Builtin.zeroCells z.cells 1).toList,u.oneCell'=true)
  (g q:Nat) (cur:Array Value) (hg:w.heap[g]?=some (.cells cur e (0,0))) (hfit:q * size+size<=cur.size) :
  ∃ W cur',(∀ ty c,(Builtin.clear_ #[t] ty #[.slice (some ⟨g,q * size,none⟩) 1 c]).run P w = .ok (.tuple #[]) W)/\W.heap[g]?=some (.cells cur' e (0,0))/\cur'.size=cur.size/\cur'.toList.take (q * size)=cur.toList.take (q * size)/\Chg w W [g]:=by
 have hst:=run_storeCells_at P g (q * size) e (Builtin.zeroCells z.cells 1).toList 0 cur w hg (by rw [hzc];omega) hzo
 have hv:(zeroValue e).run P w = .ok z w:=by simp [zeroValue,typeInfo,hi,hz,go_sem]
 have h1:(cur.toList.take (q * size)).length=q * size:=by rw [List.length_take,Array.length_toList];omega
 refine ⟨w.setRow g (cur.toList.take (q * size+0)++(Builtin.zeroCells z.cells 1).toList++cur.toList.drop (q * size+0+(Builtin.zeroCells z.cells 1).toList.length)).toArray,_,fun ty c=>?_,setRow_heap w g cur _ e (0,0) hg, ?_, ?_,zcy w g _⟩
 ·simp only [Builtin.clear_,List.getElem?_toArray,List.getElem?_cons_zero,Sem.run_bind,run_underlying ht,Result.andThen_ok,hv,hst];rfl
 ·simp only [List.size_toArray,List.length_append,List.length_take,List.length_drop,Array.length_toList,hzc,Nat.add_zero];omega
 ·rw [Nat.add_zero]
  have h2:(cur.toList.take (q * size)++(Builtin.zeroCells z.cells 1).toList++cur.toList.drop (q * size+(Builtin.zeroCells z.cells 1).toList.length)).take (q * size)=cur.toList.take (q * size):=by
   rw [List.append_assoc];have h3:=List.take_left (l₁:=cur.toList.take (q * size)) (l₂:=(Builtin.zeroCells z.cells 1).toList++cur.toList.drop (q * size+(Builtin.zeroCells z.cells 1).toList.length));rw [h1] at h3;exact h3
  exact h2
end
theorem c_delCell (g c:Nat) (l:List Cel) (k B:Nat) (w:World) (ho:Ow Cel.enc 162 2 w B (.slice (some ⟨g,0,none⟩) l.length c) l) (hk:k < l.length) (hn:l.length<=1000) :
  Calls Tryz.prog 171 #[.slice (some ⟨g,0,none⟩) l.length c, .int .i64 k, .int .i64 (k+1)] w fun e w'=>e = .returned (.slice (some ⟨g,0,none⟩) (l.take k++l.drop (k+1)).length c)/\Ow Cel.enc 162 2 w' B (.slice (some ⟨g,0,none⟩) (l.take k++l.drop (k+1)).length c) (l.take k++l.drop (k+1))/\Chg w w' [g]:=by
 obtain ⟨i0,hi,hz0,hz1,hz2⟩:=info_parts Tryz.infoCel
 obtain ⟨g',cap,cur0,he,hbg,hgg,hnc,hcm,hcs,htake⟩:∃ (g' cap:Nat) (cur:Array Value),Value.slice (some ⟨g,0,none⟩) l.length c = .slice (some ⟨g',0,none⟩) l.length cap/\B<=g'/\w.heap[g']?=some (.cells cur 162 (0,0))/\l.length<=cap/\cap<=maxLen/\cur.size=cap * 2/\cur.toList.take (l.length * 2)=l.flatMap Cel.enc:=by
  rcases ho.2 with ⟨he,_⟩ | h
  ·simp at he
  ·exact h
 simp only [Value.slice.injEq,Option.some.injEq,Addr.mk.injEq,and_true,true_and] at he;obtain ⟨rfl,rfl⟩:=he;unfold maxLen at hcm;have q1:((k:Int) == (k:Int)+1)=false:=by simp;omega
 have HO:=Hd ho;have HL:=Hd (show (l.take k++l.drop (k+1)).length=l.length - 1 by simp;omega)
 have hlt:=bx_lt hgg;clear ho hcs htake;by_cases hck:c=k+1
 ·subst hck;have HAd:=Hd (show DelAt (some ⟨g,0,none⟩) 0 g ((k+1) * 2) from ⟨_,rfl, .inl rfl⟩)
  have HM:=Hd (show 0=l.length - (k+1) by omega)
  go_enter Tryz.func171,Tryz.ntmps171
  go_wp2
  (refine mrg (relE w.heap.size) (fun _ _ _=>True) 6 ?_;simp only [Tc,Tz,Dc,Dz])
  (iterate 6 (refine mpl ?_;go_big_quiet_step (fail);refine mnil ?_))
  refine Rm.wpMix_nil ?_;rintro w2 hW;have x:Ext w w2:=hW;have HO2:=Hd (HO.out.kept x);have HX:=Hd x;clear x hW HO;go_wp2_with (at_builtin;refine wl_appDel (enc:=Cel.enc) rfl _ _ 24 162 i0 2 rfl Tryz.underlying24 hi hz1 (by decide) Cel.enc_len Cel.one B g _ l k hk HO2.out rfl _ _ _ rfl HAd.out HM.out ?_)
  intro w3 cur hg3 hs3 ht3 hc3;have HG3:=Hd hg3;have HT3:=Hd (show cur.toList.take ((l.length - 1) * 2)=(l.take k++l.drop (k+1)).flatMap Cel.enc from by first | exact ht3 | (rw [List.flatMap_append];exact ht3))
  have HS3:=Hd hs3;have HC3:=Hd hc3;have hlt3:=bx_lt hg3;clear hg3 ht3 hs3 hc3;obtain ⟨w4,cur',hrun,hg4,hs4,ht4,hc4⟩:=run_clear1 (P:=Tryz.prog) (w:=w3) 24 162 i0 (.agg #[.int .i64 0, .int .i64 0]) 2 Tryz.underlying24 hi hz0 (by decide +kernel) (by decide +kernel) g (l.length - 1) cur HG3.out (by rw [HS3.out];omega)
  have HG4:=Hd hg4;have HT4:=Hd (ht4.trans HT3.out);have HS4:=Hd (hs4.trans HS3.out);have HC4:=Hd ((zez [g] HX.out).trans (HC3.out.trans hc4));have hcne:¬ k+1=l.length - 1:=by omega
  have h1:l.length - (l.length - 1)=1:=by omega
  clear hg4 ht4 hs4 hc4;go_wp2
  go_ret
  refine ⟨?_, ?_,HC4.out⟩
  ·rw [HL.out];rfl
  ·refine ⟨?_, .inr ⟨g,_,cur',rfl,hbg,HG4.out,by rw [HL.out];omega,by unfold maxLen;omega,HS4.out, ?_⟩⟩
   ·rw [zae Cel.enc_len]
   ·rw [HL.out];exact HT4.out
 ·have HAd:=Hd (show DelAt (some ⟨g,(k+1) * 2,none⟩) (l.length - (k+1)) g ((k+1) * 2) from ⟨_,rfl, .inr rfl⟩)
  go_enter Tryz.func171,Tryz.ntmps171
  go_wp2
  (refine mrg (relE w.heap.size) (fun _ _ _=>True) 6 ?_;simp only [Tc,Tz,Dc,Dz])
  (iterate 6 (refine mpl ?_;go_big_quiet_step (fail);refine mnil ?_))
  refine Rm.wpMix_nil ?_;rintro w2 hW;have x:Ext w w2:=hW;have HO2:=Hd (HO.out.kept x);have HX:=Hd x;clear x hW HO;go_wp2_with (at_builtin;refine wl_appDel (enc:=Cel.enc) rfl _ _ 24 162 i0 2 rfl Tryz.underlying24 hi hz1 (by decide) Cel.enc_len Cel.one B g _ l k hk HO2.out rfl _ _ _ rfl HAd.out rfl ?_)
  intro w3 cur hg3 hs3 ht3 hc3;have HG3:=Hd hg3;have HT3:=Hd (show cur.toList.take ((l.length - 1) * 2)=(l.take k++l.drop (k+1)).flatMap Cel.enc from by first | exact ht3 | (rw [List.flatMap_append];exact ht3))
  have HS3:=Hd hs3;have HC3:=Hd hc3;have hlt3:=bx_lt hg3;clear hg3 ht3 hs3 hc3;obtain ⟨w4,cur',hrun,hg4,hs4,ht4,hc4⟩:=run_clear1 (P:=Tryz.prog) (w:=w3) 24 162 i0 (.agg #[.int .i64 0, .int .i64 0]) 2 Tryz.underlying24 hi hz0 (by decide +kernel) (by decide +kernel) g (l.length - 1) cur HG3.out (by rw [HS3.out];omega)
  have HG4:=Hd hg4;have HT4:=Hd (ht4.trans HT3.out);have HS4:=Hd (hs4.trans HS3.out);have HC4:=Hd ((zez [g] HX.out).trans (HC3.out.trans hc4));have hcne:¬ c=l.length - 1:=by omega
  have h1:l.length - (l.length - 1)=1:=by omega
  clear hg4 ht4 hs4 hc4;go_wp2
  go_ret
  refine ⟨?_, ?_,HC4.out⟩
  ·rw [HL.out];rfl
  ·refine ⟨?_, .inr ⟨g,_,cur',rfl,hbg,HG4.out,by rw [HL.out];omega,by unfold maxLen;omega,HS4.out, ?_⟩⟩
   ·rw [zae Cel.enc_len]
   ·rw [HL.out];exact HT4.out
theorem c_insNilCel (x0 x1:Int) (p B:Nat) (w:World) (hv:w.heap[p]?=some (.cells #[.int .i64 x0, .int .i64 x1] 162 (0,0))) (hB:B<=w.heap.size) :
  Calls Tryz.prog 172 #[.slice none 0 0, .int .i64 0, .slice (some ⟨p,0,none⟩) 1 1] w fun e w'=>∃ v',e = .returned v'/\Ow Cel.enc 162 2 w' B v' [⟨x0,x1⟩]/\Ext w w':=by
 obtain ⟨i0,hi,hz0,hz1,hz2⟩:=info_parts Tryz.infoCel;have HV:=Hd hv;clear hv
 go_enter Tryz.func172,Tryz.ntmps172
 go_wp2_with (at_builtin;refine zcn (enc:=Cel.enc) rfl _ _ 24 rfl B 162 i0 (.agg #[.int .i64 0, .int .i64 0]) 2 16 Tryz.underlying24 hi hz0 hz1 hz2 rfl (by decide) Cel.enc_len Cel.one (.slice none 0 0) [] rfl (World.ownsRow_nil _ _ _ _) (some ⟨p,0,none⟩) 1 [⟨x0,x1⟩] 1 rfl rfl (Rd.one HV.out rfl) ?c1 ?c2 ?c3 ?_)
 case c1=>unfold maxLen;simp
 case c2=>simp
 case c3=>exact hB
 intro v' w7 ho7 hg7;have HO:=Hd ho7;have HX:=Hd (show Ext w w7 from zaf (za4 w) (S:=[]) ⟨hg7.os,hg7.tape,hg7.output,hg7.size,fun k hk _=>hg7.block k hk (by simp [Value.ownBlock])⟩ (fun g hg=>(List.not_mem_nil hg).elim))
 clear ho7 hg7;go_wp2
 go_ret
 exact ⟨_,rfl,HO.out,HX.out⟩
theorem c_insAnyCel (A:Option Addr) (c:Nat) (l:List Cel) (i:Nat) (x0 x1:Int) (p B:Nat) (w:World) (ho:Ow Cel.enc 162 2 w B (.slice A l.length c) l) (hv:w.heap[p]?=some (.cells #[.int .i64 x0, .int .i64 x1] 162 (0,0))) (hp:p∉blk A) (hil:i<=l.length) (hn:l.length<=1048576) (hB:B<=w.heap.size) :
  Calls Tryz.prog 172 #[.slice A l.length c, .int .i64 i, .slice (some ⟨p,0,none⟩) 1 1] w fun e w'=>∃ A' c',e = .returned (.slice A' (l.take i++([(⟨x0,x1⟩:Cel)]++l.drop i)).length c')/\Ow Cel.enc 162 2 w' B (.slice A' (l.take i++([(⟨x0,x1⟩:Cel)]++l.drop i)).length c') (l.take i++([(⟨x0,x1⟩:Cel)]++l.drop i))/\Chg w w' (blk A):=by
 rcases ho.2 with ⟨he,hl⟩ | ⟨g,cap,cur,he,hk⟩
 ·simp only [Value.slice.injEq] at he;obtain ⟨rfl,_,rfl⟩:=he;obtain rfl:l=[]:=List.eq_nil_of_length_eq_zero hl;obtain rfl:i=0:=by simpa using hil
  refine (c_insNilCel x0 x1 p B w hv hB).mono fun e w' ⟨v',h1,h2,h3⟩=>?_
  obtain ⟨A',c',rfl⟩:=h2.form;exact ⟨A',c',h1,h2,zez _ h3⟩
 ·simp only [Value.slice.injEq] at he;obtain ⟨rfl,_,rfl⟩:=he;refine (c_insCel g c l i x0 x1 p B w ho hv (fun e=>hp (by simp [blk,e])) hil hn hB).mono fun e w' ⟨v',h1,h2,h3⟩=>?_
  obtain ⟨A',c',rfl⟩:=h2.form;exact ⟨A',c',h1,h2,zaz (A:=some ⟨g,0,none⟩) (n:=l.length) (c:=c) h3⟩
theorem c_insNilSea (x0 x1 x2:Int) (p B:Nat) (w:World) (hv:w.heap[p]?=some (.cells #[.int .i64 x0, .int .i64 x1, .int .i64 x2] 111 (0,0))) (hB:B<=w.heap.size) :
  Calls Tryz.prog 109 #[.slice none 0 0, .int .i64 0, .slice (some ⟨p,0,none⟩) 1 1] w fun e w'=>∃ v',e = .returned v'/\Ow Sea.enc 111 3 w' B v' [⟨x0,x1,x2⟩]/\Ext w w':=by
 obtain ⟨i0,hi,hz0,hz1,hz2⟩:=info_parts Tryz.infoSea;have HV:=Hd hv;clear hv
 go_enter Tryz.func109,Tryz.ntmps109
 go_wp2_with (at_builtin;refine zcn (enc:=Sea.enc) rfl _ _ 25 rfl B 111 i0 (.agg #[.int .i64 0, .int .i64 0, .int .i64 0]) 3 24 Tryz.underlying25 hi hz0 hz1 hz2 rfl (by decide) Sea.enc_len Sea.one (.slice none 0 0) [] rfl (World.ownsRow_nil _ _ _ _) (some ⟨p,0,none⟩) 1 [⟨x0,x1,x2⟩] 1 rfl rfl (Rd.one HV.out rfl) ?c1 ?c2 ?c3 ?_)
 case c1=>unfold maxLen;simp
 case c2=>simp
 case c3=>exact hB
 intro v' w7 ho7 hg7;have HO:=Hd ho7;have HX:=Hd (show Ext w w7 from zaf (za4 w) (S:=[]) ⟨hg7.os,hg7.tape,hg7.output,hg7.size,fun k hk _=>hg7.block k hk (by simp [Value.ownBlock])⟩ (fun g hg=>(List.not_mem_nil hg).elim))
 clear ho7 hg7;go_wp2
 go_ret
 exact ⟨_,rfl,HO.out,HX.out⟩
theorem c_insAnySea (A:Option Addr) (c:Nat) (l:List Sea) (i:Nat) (x0 x1 x2:Int) (p B:Nat) (w:World) (ho:Ow Sea.enc 111 3 w B (.slice A l.length c) l) (hv:w.heap[p]?=some (.cells #[.int .i64 x0, .int .i64 x1, .int .i64 x2] 111 (0,0))) (hp:p∉blk A) (hil:i<=l.length) (hn:l.length<=1048576) (hB:B<=w.heap.size) :
  Calls Tryz.prog 109 #[.slice A l.length c, .int .i64 i, .slice (some ⟨p,0,none⟩) 1 1] w fun e w'=>∃ A' c',e = .returned (.slice A' (l.take i++([(⟨x0,x1,x2⟩:Sea)]++l.drop i)).length c')/\Ow Sea.enc 111 3 w' B (.slice A' (l.take i++([(⟨x0,x1,x2⟩:Sea)]++l.drop i)).length c') (l.take i++([(⟨x0,x1,x2⟩:Sea)]++l.drop i))/\Chg w w' (blk A):=by
 rcases ho.2 with ⟨he,hl⟩ | ⟨g,cap,cur,he,hk⟩
 ·simp only [Value.slice.injEq] at he;obtain ⟨rfl,_,rfl⟩:=he;obtain rfl:l=[]:=List.eq_nil_of_length_eq_zero hl;obtain rfl:i=0:=by simpa using hil
  refine (c_insNilSea x0 x1 x2 p B w hv hB).mono fun e w' ⟨v',h1,h2,h3⟩=>?_
  obtain ⟨A',c',rfl⟩:=h2.form;exact ⟨A',c',h1,h2,zez _ h3⟩
 ·simp only [Value.slice.injEq] at he;obtain ⟨rfl,_,rfl⟩:=he;refine (c_insSea g c l i x0 x1 x2 p B w ho hv (fun e=>hp (by simp [blk,e])) hil hn hB).mono fun e w' ⟨v',h1,h2,h3⟩=>?_
  obtain ⟨A',c',rfl⟩:=h2.form;exact ⟨A',c',h1,h2,zaz (A:=some ⟨g,0,none⟩) (n:=l.length) (c:=c) h3⟩
theorem put_set {l:List Cel} {t v:Int} (h:hasC l t=true):∃ h:lbC l t < l.length,l[lbC l t].key=t/\putC l t v=l.set (lbC l t) ⟨t,v⟩:=by
 have hl:lbC l t < l.length:=by
  rcases Nat.lt_or_ge (lbC l t) l.length with h3 | h3
  ·exact h3
  ·unfold hasC at h;rw [List.getElem?_eq_none h3] at h;simp at h
 refine ⟨hl, ?_, ?_⟩
 ·unfold hasC at h;rw [List.getElem?_eq_getElem hl] at h;simp only [beq_iff_eq] at h;omega
 ·unfold putC;rw [if_pos h,List.set_eq_take_append_cons_drop,if_pos hl];rfl
theorem val_row (l:List Cel) (k:Nat) (hk:k < l.length) (t v:Int) (ht:l[k].key=t):(l.flatMap Cel.enc).set (k * 2+1) (.int .i64 v)=(l.set k ⟨t,v⟩).flatMap Cel.enc:=by
 have h:=setAll_one Cel.enc_len l k hk ⟨t,v⟩;rw [<-h];have g0:=ze4 Cel.enc_len l k hk 0 (by omega)
 have e0:(l.flatMap Cel.enc).set (k * 2) (.int .i64 t)=l.flatMap Cel.enc:=list_set_self (by simpa [hk,Cel.enc,ht] using g0)
 simp only [Cel.enc,setAll];rw [e0]
theorem c_putDel (A:Option Addr) (c:Nat) (l:List Cel) (t:Int) (w:World) (ha:Rd Cel.enc 2 w A c l) (hok:CsOk l) (h2:0<=t) (h3:t<=1000000000) :
  Calls Tryz.prog 150 #[.slice A l.length c, .int .i64 t, .int .i64 (-1)] w fun e w'=>∃ A' c',e = .returned (.slice A' (delC l t).length c')/\Ow Cel.enc 162 2 w' w.heap.size (.slice A' (delC l t).length c') (delC l t)/\Ext w w':=by
 have hl:=hok.len;have hcon:=c_cellFor A c l t w ha hok h2 h3;have hle:=lbC_le l t;obtain ⟨n,hn⟩:∃ n,lbC l t=n:=⟨_,rfl⟩;obtain ⟨b,hb⟩:∃ b,hasC l t=b:=⟨_,rfl⟩;have hin:b=true->n < l.length:=fun h=>by rw [<-hn];exact (put_set (v:=0) (hb.trans h)).1
 have HD:=Hd (show delC l t=if b=true then l.take n++l.drop (n+1) else l by unfold delC;rw [hb,hn])
 rw [hn,hb] at hcon;rw [hn] at hle;have HA:=Hd ha;have HC:=Hd hcon;clear ha hok hcon hn hb;cases b
 ·have HD2:=Hd (HD.out.trans (if_neg (by simp)))
  clear hin
  go_enter Tryz.func150,Tryz.ntmps150
  go_wp2_with fail
  refine HC.out.mono ?_;rintro e w1 ⟨rfl,x1⟩;have HX:=Hd x1;clear x1;go_wp2_with fail
  refine (zdz A c l w1 (HA.out.keep HX.out) (by omega)).mono ?_
  rintro e w2 ⟨v,rfl,o2,x2⟩;obtain ⟨A2,c2,rfl⟩:=o2.form;have HO:=Hd (o2.less HX.out.size);have HX2:=Hd (Ext.trans HX.out x2);clear o2 x2;go_wp2
  go_ret
  rw [HD2.out];exact ⟨A2,c2,rfl,HO.out,HX2.out⟩
 ·have HD2:=Hd (HD.out.trans (if_pos rfl));have hnl:=hin rfl;clear hin
  go_enter Tryz.func150,Tryz.ntmps150
  go_wp2_with fail
  refine HC.out.mono ?_;rintro e w1 ⟨rfl,x1⟩;have HX:=Hd x1;clear x1;go_wp2_with fail
  refine (zdz A c l w1 (HA.out.keep HX.out) (by omega)).mono ?_
  rintro e w2 ⟨v,rfl,o2,x2⟩;obtain ⟨g,c2,rfl,hgB,hgl⟩:=o2.base (by omega)
  have HO:=Hd o2;have HX2:=Hd (Ext.trans HX.out x2);have hsz:=HX.out.size;clear o2 x2;go_wp2_with fail
  refine (c_delCell g c2 l n w1.heap.size w2 HO.out hnl (by omega)).mono ?_
  rintro e w3 ⟨rfl,o3,c3⟩;have HO3:=Hd (o3.less hsz);have HX3:=Hd (zaf HX2.out c3 (fun k hk=>by rw [Mi] at hk;omega))
  obtain ⟨L,hL⟩:∃ L,l.take n++l.drop (n+1)=L:=⟨_,rfl⟩;rw [hL] at HO3 HD2;rw [hL];clear o3 c3 hL;go_wp2
  go_ret
  rw [HD2.out];exact ⟨_,_,rfl,HO3.out,HX3.out⟩
theorem c_putSet (A:Option Addr) (c:Nat) (l:List Cel) (t v:Int) (w:World) (ha:Rd Cel.enc 2 w A c l) (hok:CsOk l) (h2:0<=t) (h3:t<=1000000000) (hv:0<=v) :
  Calls Tryz.prog 150 #[.slice A l.length c, .int .i64 t, .int .i64 v] w fun e w'=>∃ A' c',e = .returned (.slice A' (putC l t v).length c')/\Ow Cel.enc 162 2 w' w.heap.size (.slice A' (putC l t v).length c') (putC l t v)/\Ext w w':=by
 have hl:=hok.len;have hcon:=c_cellFor A c l t w ha hok h2 h3;have hle:=lbC_le l t;have q1:(v == (-1:Int))=false:=by simp;omega
 obtain ⟨n,hn⟩:∃ n,lbC l t=n:=⟨_,rfl⟩;cases hb:hasC l t
 ·have HD:=Hd (show putC l t v=l.take n++([⟨t,v⟩]++l.drop n) by unfold putC;rw [hb,hn];rfl)
  rw [hn,hb] at hcon;rw [hn] at hle;have HA:=Hd ha;have HC:=Hd hcon;clear ha hok hcon hn hb
  go_enter Tryz.func150,Tryz.ntmps150
  go_wp2_with fail
  refine HC.out.mono ?_;rintro e w1 ⟨rfl,x1⟩;have HX:=Hd x1;clear x1;go_wp2_with fail
  refine (zdz A c l w1 (HA.out.keep HX.out) (by omega)).mono ?_
  rintro e w2 ⟨u,rfl,o2,x2⟩;obtain ⟨A2,c2,rfl⟩:=o2.form;have XA:=za1 w2 (.cells #[.int .i64 t, .int .i64 v] 162);have HP:=Hd (hNew (w:=w2) (o := .cells #[.int .i64 t, .int .i64 v] 162) rfl);have hnp:w2.heap.size∉blk A2:=fun hm=>by have:=(o2.inB _ hm).2;omega
  have HB:=Hd (fun k (hk:k∈blk A2)=>(o2.inB k hk).1)
  have HO:=Hd (o2.kept XA);have HX2:=Hd (Ext.trans HX.out (Ext.trans x2 XA));have hsz:=HX.out.size;have hsz2:=x2.size;have HIns:=Hd (c_insAnyCel A2 c2 l n t v w2.heap.size w1.heap.size _ HO.out HP.out hnp hle (by omega) (by simp;omega))
  clear o2 x2 XA hnp HP;go_wp2_with fail
  refine HIns.out.mono ?_;rintro e w3 ⟨A3,c3,rfl,o3,k3⟩;have HO3:=Hd (o3.less hsz);have HX3:=Hd (zaf HX2.out k3 (fun k hk=>by have:=HB.out k hk;omega))
  obtain ⟨L,hL⟩:∃ L,l.take n++([(⟨t,v⟩:Cel)]++l.drop n)=L:=⟨_,rfl⟩;rw [hL] at HO3 HD;rw [hL];clear o3 k3 hL HIns;go_wp2
  go_ret
  rw [HD.out];exact ⟨_,_,rfl,HO3.out,HX3.out⟩
 ·obtain ⟨hin,hkey,hset⟩:=put_set (v:=v) hb;have HD:=Hd (show putC l t v=l.set n ⟨t,v⟩ by rw [hset,hn])
  have hnl:n < l.length:=by rw [<-hn];exact hin
  have HK:=Hd (show l[n].key=t by simp only [hn] at hkey;exact hkey)
  rw [hn,hb] at hcon;have HA:=Hd ha;have HC:=Hd hcon;clear ha hok hcon hb hin hkey hset;clear hn
  go_enter Tryz.func150,Tryz.ntmps150
  go_wp2_with fail
  refine HC.out.mono ?_;rintro e w1 ⟨rfl,x1⟩;have HX:=Hd x1;clear x1;go_wp2_with fail
  refine (zdz A c l w1 (HA.out.keep HX.out) (by omega)).mono ?_
  rintro e w2 ⟨u,rfl,o2,x2⟩;obtain ⟨g,c2,rfl,hgB,hgl⟩:=o2.base (by omega)
  obtain ⟨x,e2⟩:∃ x,w2.cell? ⟨g,n * 2+1,none⟩=some x:=⟨_,(World.ownsRow.cellAt o2 (n * 2+1) (by omega)).trans (List.getElem?_eq_getElem (by rw [zae Cel.enc_len];omega))⟩
  have hfz:=World.ownsRow.frozenAt o2;have HO:=Hd o2;have HX2:=Hd (Ext.trans HX.out x2);have hsz:=HX.out.size;clear o2 x2;go_wp2
  have s2:=World.ownsRow.stored HO.out (n * 2+1) (.int .i64 v);go_ret
  rw [HD.out];refine ⟨some ⟨g,0,none⟩,c2,by rw [List.length_set];rfl, ?_,zak HX2.out (by show w.heap.size<=g;omega) _⟩
  refine Ow.less ?_ hsz;have h5:=s2.1;rw [val_row l n hnl t v HK.out] at h5;unfold Ow;rw [List.length_set];exact h5
end Go.Proofs.YtckfjploafhenaaGreat
