/- Copies of replicas, of the reference. -/
import Derived.Test.YtckfjploafhenaaGreatPk25
import Derived.Test.YtckfjploafhenaaGreatPk24
import Derived.Test.YtckfjploafhenaaGreatPk27
set_option maxRecDepth 100000
set_option maxHeartbeats 16000000
set_option linter.unusedVariables false
set_option linter.unusedSimpArgs false
namespace Go.Proofs.YtckfjploafhenaaGreat
open Go.ChangeShapes Go.WideShapes Go.ChangeAt Go.RowKit Go.Sort
structure RpF (w:World) (B:Nat) (a:LAd) (A:Option Addr) (c:Nat) (ps:List VtE) (r:Rp):Prop where
 l:LgF w B a r.log
 v:RdF VtE.enc 45 10 w B A c ps
 vl:∀ p∈ps,LgF w B p.1 p.2.log
 e:ps.map Prod.snd=r.votes
theorem RpF.rd {w:World} {B:Nat} {a:LAd} {A:Option Addr} {c:Nat} {ps:List VtE} {r:Rp} (h:RpF w B a A c ps r):RpR w a A c ps r:=⟨h.l.rd,⟨h.v.1,fun p hp=>(h.vl p hp).rd⟩,h.e⟩
theorem RpF.keep {w w':World} {B:Nat} {a:LAd} {A:Option Addr} {c:Nat} {ps:List VtE} {r:Rp} (h:RpF w B a A c ps r) (hx:Ext w w'):RpF w' B a A c ps r:=⟨h.l.keep hx,h.v.keep hx,fun p hp=>(h.vl p hp).keep hx,h.e⟩
theorem RpF.chg {w w':World} {B:Nat} {a:LAd} {A:Option Addr} {c:Nat} {ps:List VtE} {r:Rp} {S:List Nat} (h:RpF w B a A c ps r) (hg:Chg w w' S) (hS:∀ k∈S,k < B):RpF w' B a A c ps r:=⟨h.l.chg hg hS,h.v.chg VtE.len hg (zeq h.v hS),fun p hp=>(h.vl p hp).chg hg hS,h.e⟩
theorem RpF.less {w:World} {B B':Nat} {a:LAd} {A:Option Addr} {c:Nat} {ps:List VtE} {r:Rp} (h:RpF w B a A c ps r) (hB:B'<=B):RpF w B' a A c ps r:=⟨h.l.less hB,h.v.less hB,fun p hp=>(h.vl p hp).less hB,h.e⟩
theorem LgF.zero (w:World) (B:Nat):LgF w B LAd.none Lg.none:=⟨RdF.nil _ _ _ _ _,RdF.nil _ _ _ _ _,RdF.nil _ _ _ _ _⟩
theorem LgF.beside {w w':World} {B B':Nat} {a:LAd} {l:Lg} {A:Option Addr} {n c:Nat} {qs:List VtE} (h:LgF w B a l) (k:Ow VtE.enc 45 10 w B' (.slice A n c) qs) (hg:Chg w w' (blk A)):LgF w' B a l :=
 ⟨h.c.chg Cel.len hg (fun hl=>(h.c.2 hl).apart k (by decide)),h.s.chg Sea.len hg (fun hl=>(h.s.2 hl).apart k (by decide)),h.e.chg Ent.len hg (fun hl=>(h.e.2 hl).apart k (by decide))⟩
theorem ze5 (a:LAd) (A:Option Addr) (c:Nat) (ps:List VtE) (r:Rp) (w:World) (hr:RpR w a A c ps r) (hs:r.log.small) (hn:ps.length<=1048576) (hv:LgS ps) :
  Calls Tryz.prog 63 #[Rp.val a A ps.length c r] w fun e w'=>∃ (a':LAd) (A':Option Addr) (c':Nat) (qs:List VtE),e = .returned (Rp.val a' A' ps.length c' r)/\qs.length=ps.length/\RpF w' w.heap.size a' A' c' qs r/\Ext w w':=by
 obtain ⟨i0,hi,hz0,hz1,hz2⟩:=info_parts Tryz.infoVt;have HS:=Hd hs;have HR:=Hd hr;have HV:=Hd hv;have hL:=hr.v.len;clear hs hr hv;have X0:Ext w (((w.alloc (Rp.obj a A ps.length c r)).alloc Rp.zobj).alloc (Rp.obj a A ps.length c r)):=za9 (za9 (za1 _ _) _) _
 go_enter Tryz.func63,Tryz.ntmps63
 go_wp2_with fail
 refine (zbt a r.log HS.out _ (HR.out.l.keep X0)).mono ?_;rintro e w1 ⟨a',rfl,o1,x1⟩;have B1:=x1.box (hOld (o:=Rp.obj a A ps.length c r) (hOld (o:=Rp.zobj) (hNew (w:=w) (o:=Rp.obj a A ps.length c r) rfl)));have B2:=x1.box (hOld (o:=Rp.obj a A ps.length c r) (hNew (w:=w.alloc (Rp.obj a A ps.length c r)) (o:=Rp.zobj) rfl));have B3:=x1.box (hNew (w:=(w.alloc (Rp.obj a A ps.length c r)).alloc Rp.zobj) (o:=Rp.obj a A ps.length c r) rfl);rw [zag] at B2;rw [zag,zag] at B3;simp only [zag] at o1;have X1:=Ext.trans X0 x1;have b3:=za2 B3;have f3:=zad B3;have z3:=bx_lt B3;have P3:=zar (zar (zar (zar B3 6 (.int .i64 r.log.base)) 7 (.slice a'.cA r.log.cells.length a'.cc)) 8 (.slice a'.sA r.log.seats.length a'.sc)) 9 (.slice a'.eA r.log.ents.length a'.ec);simp only [Sa,Sz,Ss] at P3;have hcs:=zaq (zaq (zaq (zaq (Chg.refl w1 [w.heap.size+1+1]) (p:=⟨w.heap.size+1+1,6,none⟩) (by simp) (.int .i64 r.log.base)) (p:=⟨w.heap.size+1+1,7,none⟩) (by simp) (.slice a'.cA r.log.cells.length a'.cc)) (p:=⟨w.heap.size+1+1,8,none⟩) (by simp) (.slice a'.sA r.log.seats.length a'.sc)) (p:=⟨w.heap.size+1+1,9,none⟩) (by simp) (.slice a'.eA r.log.ents.length a'.ec)
 have HB1:=Hd (zap B1 hcs (by omega))
 have HB2:=Hd (zap B2 hcs (by omega))
 have HP3:=Hd P3;have HO1:=Hd (o1.chg hcs (fun k hk=>by simp only [Mi] at hk;omega))
 have HX1:=Hd (zac X1 hcs (by omega))
 have hsz1:w.heap.size+1+1+1<=w1.heap.size:=by have:=x1.size;simp only [zag] at this;omega
 clear B1 B2 B3 P3 o1 hcs;have hsz:=zag;go_wp2
 have Q3:=zar HP3.out 10 (.slice (some ⟨w1.heap.size,0,none⟩) 0 0);simp only [Sa,Sz,Ss] at Q3;have HQ3:=Hd Q3;clear Q3 b3 f3 z3;have HLow:w.heap.size+1+1 < w1.heap.size:=by omega
 go_loopw [4] (fun i wr=>∃ (k:Nat) (qs:List VtE) (A1:Option Addr) (c1:Nat),k<=ps.length/\i = .int .i64 k/\VsS ps qs k/\wr.heap[w.heap.size]?=some (Rp.obj a A ps.length c r)/\wr.heap[w.heap.size+1]?=some Rp.zobj/\wr.heap[w.heap.size+1+1]?=some (Rp.obj a' A1 qs.length c1 r)/\Ow VtE.enc 45 10 wr (w.heap.size+1+1+1) (.slice A1 qs.length c1) qs/\(∀ p∈qs,LgF wr (w.heap.size+1+1+1) p.1 p.2.log)/\LgF wr (w.heap.size+1+1+1) a' r.log/\Ext w wr) (fun i _=>ps.length - (intOf i).toNat)
 case atStart =>
  refine ⟨0,[],some ⟨w1.heap.size,0,none⟩,0,Nat.zero_le _,rfl,rfl, ?_, ?_,hOld HQ3.out, ?_,by simp, ?_, ?_⟩
  ·exact hOld (box_set HB1.out (show w.heap.size+1+1≠w.heap.size by omega))
  ·exact hOld (box_set HB2.out (show w.heap.size+1+1≠w.heap.size+1 by omega))
  ·exact zd3 (hNew (by simp only [sz_set])) (by omega)
  ·exact (HO1.out.chg (zaq (Chg.refl _ [w.heap.size+1+1]) (p:=⟨w.heap.size+1+1,10,none⟩) (by simp) _) (fun k hk=>by simp only [Mi] at hk;omega)).keep (za1 _ _)
  ·exact za9 (zak HX1.out (p:=⟨w.heap.size+1+1,10,none⟩) (show w.heap.size<=w.heap.size+1+1 by omega) _) _
 case round =>
  obtain ⟨k,qs,A1,c1,hk,rfl,hq,E1,E2,E3,ho,hl,hla,X⟩:=hrel;have hql:=hq.length hk;have e1:=za2 E1;have e3:=za2 E3;have f3:=zad E3;have z3:=bx_lt E3;have HE1:=Hd E1;have HE2:=Hd E2;have HE3:=Hd E3;have HO:=Hd ho;have HLs:=Hd hl;have HLa:=Hd hla;have HVS:=Hd hq;have HQL:=Hd hql;clear E1 E2 E3 ho hl hla hq hql HX1 HO1 HP3 HB1 HB2 HQ3;by_cases hlt:k < ps.length
  ·obtain ⟨ab,ao,hA,hab,a0,a1,a2,a3,a4,a5,a6,a7,a8,a9⟩:=(HR.out.v.1.keep X).atVtE hlt;subst hA;have X2:=za1 wr (Vt.obj ps[k].1 ps[k].2);have HCL:=Hd (zbt ps[k].1 ps[k].2.log (HV.out _ (List.getElem_mem hlt)) (wr.alloc (Vt.obj ps[k].1 ps[k].2)) ((HR.out.v.2 _ (List.getElem_mem hlt)).keep (Ext.trans X X2)));go_wp2_with fail
   refine HCL.out.mono ?_;rintro e w2 ⟨a2',rfl,o2,x2⟩;have B2:=x2.box (hNew (w:=wr) (o:=Vt.obj ps[k].1 ps[k].2) rfl);have P2:=zar (zar (zar (zar B2 6 (.int .i64 ps[k].2.log.base)) 7 (.slice a2'.cA ps[k].2.log.cells.length a2'.cc)) 8 (.slice a2'.sA ps[k].2.log.seats.length a2'.sc)) 9 (.slice a2'.eA ps[k].2.log.ents.length a2'.ec);simp only [Sa,Sz,Ss] at P2;have b2:=za2 B2;have f2:=zad B2;have z2:=bx_lt B2;have HP2:=Hd P2;simp only [zag] at o2;have HOn:=Hd o2;have HX:=Hd (Ext.trans X2 x2);have hws:=X.size;clear B2 P2 o2;go_wp2_with (with_reducible refine za5 29 ?_)
   have hcs:=zaq (zaq (zaq (zaq (Chg.refl w2 [wr.heap.size]) (p:=⟨wr.heap.size,6,none⟩) (by simp) (.int .i64 ps[k].2.log.base)) (p:=⟨wr.heap.size,7,none⟩) (by simp) (.slice a2'.cA ps[k].2.log.cells.length a2'.cc)) (p:=⟨wr.heap.size,8,none⟩) (by simp) (.slice a2'.sA ps[k].2.log.seats.length a2'.sc)) (p:=⟨wr.heap.size,9,none⟩) (by simp) (.slice a2'.eA ps[k].2.log.ents.length a2'.ec)
   refine zb2 (F:=fun W=>W.heap[wr.heap.size]?=some (Vt.obj a2' ps[k].2)/\W.heap[w.heap.size]?=some (Rp.obj a (some ⟨ab,ao,none⟩) ps.length c r)/\W.heap[w.heap.size+1]?=some Rp.zobj/\W.heap[w.heap.size+1+1]?=some (Rp.obj a' A1 qs.length c1 r)/\Ow VtE.enc 45 10 W (w.heap.size+1+1+1) (.slice A1 qs.length c1) qs/\(∀ p∈qs++[(a2',ps[k].2)],LgF W (w.heap.size+1+1+1) p.1 p.2.log)/\LgF W (w.heap.size+1+1+1) a' r.log/\Ext w W) ?_ ?_
   ·have X23:=zac HX.out hcs (Nat.le_refl _);refine ⟨HP2.out,X23.box HE1.out,X23.box HE2.out,X23.box HE3.out,HO.out.kept X23,fun p hp=>?_,HLa.out.keep X23,Ext.trans X X23⟩
    rcases List.mem_append.1 hp with hp | hp
    ·exact (HLs.out p hp).keep X23
    ·rw [Mi] at hp;subst hp
     have:=bx_lt HE3.out
     exact (HOn.out.chg hcs (fun k hk=>by simp only [Mi] at hk;omega)).less (by omega)
   intro W3 ⟨E4,E1,E2,E3,o3,l3,la3,X3⟩;clear b2 f2 z2 e1 e3 f3 z3 hcs a0 a1 a2 a3 a4 a5 a6 a7 a8 a9;have e4:=za2 E4;have g4:=zad E4;have z4:=bx_lt E4;have e3:=za2 E3;have f3:=zad E3;have z3:=bx_lt E3;have HE1:=Hd E1;have HE2:=Hd E2;have HE3:=Hd E3;have HO3:=Hd o3;have HL3:=Hd l3;have HLa3:=Hd la3;clear E4 E1 E2 E3 o3 l3 la3;go_wp2_with (at_builtin;refine zcn (enc:=VtE.enc) rfl _ _ 31 rfl (w.heap.size+1+1+1) 45 i0 Vt.zero 10 128 Tryz.underlying31 hi hz0 hz1 hz2 rfl (by decide) VtE.len VtE.one (.slice A1 qs.length c1) qs rfl (HO3.out.kept (za1 _ _)) (some ⟨W3.heap.size,0,none⟩) 1 [(a2',ps[k].2)] 1 rfl rfl (Rd.one (hNew rfl) rfl) ?c1 ?c2 ?c3 ?_)
   case c1=>have:=HQL.out;unfold maxLen;simp;omega
   case c2=>have:=HQL.out;simp;omega
   case c3=>simp;omega
   intro v' w4 ho4 hg4;obtain ⟨A4,c4',rfl⟩:=ho4.form;have hlen4:(qs++[(a2',ps[k].2)]).length=qs.length+1:=by simp
   rw [hlen4];rw [hlen4] at ho4;have c4:=zaz hg4;have hout:∀ x,x < w.heap.size+1+1+1->x∉blk A1:=fun x hx hm=>by have:=(HO3.out.inB x hm).1;omega
   have Y:=za1 W3 (.cells #[.int .i64 ps[k].2.kind, .int .i64 ps[k].2.frm, .int .i64 ps[k].2.view, .int .i64 ps[k].2.normal, .int .i64 ps[k].2.op, .int .i64 ps[k].2.commit, .int .i64 ps[k].2.log.base, .slice a2'.cA ps[k].2.log.cells.length a2'.cc, .slice a2'.sA ps[k].2.log.seats.length a2'.sc, .slice a2'.eA ps[k].2.log.ents.length a2'.ec] 45);have hup:W3.heap.size < (W3.alloc (.cells #[.int .i64 ps[k].2.kind, .int .i64 ps[k].2.frm, .int .i64 ps[k].2.view, .int .i64 ps[k].2.normal, .int .i64 ps[k].2.op, .int .i64 ps[k].2.commit, .int .i64 ps[k].2.log.base, .slice a2'.cA ps[k].2.log.cells.length a2'.cc, .slice a2'.sA ps[k].2.log.seats.length a2'.sc, .slice a2'.eA ps[k].2.log.ents.length a2'.ec] 45)).heap.size:=by simp
   have F1:=Hd ((c4.block w.heap.size (by omega) (hout _ (by omega))).trans (Y.box HE1.out))
   have F2:=Hd ((c4.block (w.heap.size+1) (by omega) (hout _ (by omega))).trans (Y.box HE2.out))
   have F3:=Hd ((c4.block (w.heap.size+1+1) (by omega) (hout _ (by omega))).trans (Y.box HE3.out))
   have XX:=Hd (zaf (Ext.trans X3 Y) c4 (fun g hg=>by have:=(HO3.out.inB g hg).1;omega))
   have L4:=Hd (show ∀ p∈qs++[(a2',ps[k].2)],LgF w4 (w.heap.size+1+1+1) p.1 p.2.log from fun p hp=>((HL3.out p hp).keep Y).beside (HO3.out.kept Y) c4)
   have La4:=Hd ((HLa3.out.keep Y).beside (HO3.out.kept Y) c4);have HO4:=Hd ho4;clear ho4 hg4 c4 hout Y hup e4 g4 z4 e3 f3 z3;have e3:=za2 F3.out;have f3:=zad F3.out;have z3:=bx_lt F3.out;have Q4:=zar F3.out 10 (.slice A4 (qs.length+1) c4');simp only [Sa,Sz,Ss] at Q4;have HQ4:=Hd Q4;clear Q4;go_wp2
   have hcs:=zaq (Chg.refl w4 [w.heap.size+1+1]) (p:=⟨w.heap.size+1+1,10,none⟩) (by simp) (.slice A4 (qs.length+1) c4')
   have HCS:=Hd hcs;clear hcs;go_roundw
   case rel =>
    refine ⟨k+1,qs++[(a2',ps[k].2)],A4,c4',by omega,by go_num,HVS.out.next hlt a2',zap F1.out HCS.out (by omega),zap F2.out HCS.out (by omega), ?_, ?_,fun p hp=>(L4.out p hp).chg HCS.out (fun k hk=>by simp only [Mi] at hk;omega),La4.out.chg HCS.out (fun k hk=>by simp only [Mi] at hk;omega),zaf XX.out HCS.out (fun g hg=>by simp only [Mi] at hg;omega)⟩
    ·rw [hlen4];exact HQ4.out
    ·rw [hlen4];exact HO4.out.chg HCS.out (fun k hk hm=>by simp only [Mi] at hm;have:=(HO4.out.inB k hk).1;omega)
   case measure=>simp [intOf] <;> omega
  ·obtain rfl:k=ps.length:=by omega
   have E3:=HE3.out;rw [HQL.out] at E3;clear e3 f3 z3;have e3:=za2 E3;have f3:=zad E3;have z3:=bx_lt E3;clear E3;go_wp2_with (with_reducible refine za8 33 ?_)
   refine za3 (w.heap.size+1) #[.int .i64 r.me, .int .i64 r.of, .int .i64 r.mode, .int .i64 r.view, .int .i64 r.normal, .int .i64 r.commit, .int .i64 r.log.base, .slice a'.cA r.log.cells.length a'.cc, .slice a'.sA r.log.seats.length a'.sc, .slice a'.eA r.log.ents.length a'.ec, .slice A1 ps.length c1, .int .i64 r.cell, .int .i64 r.nonce] rfl rfl HE2.out (by kernel_rfl) rfl (by simp [Value.oneCell']) ?_
   intro W4 E4 C4;have hX4:=Hd (zac X C4 (by omega))
   have hlow:∀ k∈[w.heap.size+1],k < w.heap.size+1+1+1:=fun k hk=>by simp only [Mi] at hk;omega
   have h1:=HVS.out;unfold VsS at h1;rw [List.take_length] at h1;have hR:=Hd (show RpF W4 w.heap.size a' A1 c1 qs r from (show RpF W4 (w.heap.size+1+1+1) a' A1 c1 qs r from ⟨HLa.out.chg C4 hlow,(Ow.rdF VtE.len HO.out).chg VtE.len C4 (zeq (Ow.rdF VtE.len HO.out) hlow),fun p hp=>(HLs.out p hp).chg C4 hlow,by rw [h1];exact HR.out.e⟩).less (by omega))
   clear C4 h1 hlow e3 f3 z3;go_wp2
   exact bodyPost_ret (zbm Tryz.results63 rfl Tryz.underlying33 (by kernel_rfl) E4) rfl ⟨a',A1,c1,qs,rfl,HQL.out,hR.out,hX4.out⟩
abbrev Ot.zero:Value := .agg #[.int .i64 0, .int .i64 0, .int .i64 0, .int .i64 0, .int .i64 0, .int .i64 0, .int .i64 0, .int .i64 0, .int .i64 0, .int .i64 0, .int .i64 0, .int .i64 0, .int .i64 0, .int .i64 0, .int .i64 0, .slice none 0 0, .slice none 0 0, .slice none 0 0]
theorem Tryz.infoOt:(Tryz.prog.info? 47).map (fun i=>(i.zero,i.size,i.bytes))=some (some Ot.zero,18,192):=by kernel_rfl
theorem OtE.one (p:OtE):∀ u∈p.enc,u.oneCell'=true:=by
 intro u hu;simp [OtE.enc] at hu;rcases hu with rfl | rfl | rfl | rfl | rfl | rfl | rfl | rfl | rfl | rfl | rfl | rfl | rfl | rfl | rfl | rfl | rfl | rfl <;> rfl
structure OsQ (w:World) (B:Nat) (qs:List OtE):Prop where
 l:∀ p∈qs,LgO w B w.heap.size p.1 p.2.msg.log
 nd:(qs.flatMap (fun p=>p.1.fp)).Nodup
theorem OsQ.nil (w:World) (B:Nat):OsQ w B []:=⟨by simp,by simp⟩
theorem OsQ.step {w w':World} {B:Nat} {qs:List OtE} {a:LAd} {v:Ot} (h:OsQ w B qs) (hB:B<=w.heap.size) (ho:LgO w' w.heap.size w'.heap.size a v.msg.log) (hx:Ext w w'):OsQ w' B (qs++[(a,v)]):=by
 refine ⟨fun p hp=>?_, ?_⟩
 ·rcases List.mem_append.1 hp with hp | hp
  ·exact ((h.l p hp).kept hx).wide (Nat.le_refl _) hx.size
  ·rw [Mi] at hp;subst hp;exact ho.wide hB (Nat.le_refl _)
 ·simp only [List.flatMap_append,List.flatMap_cons,List.flatMap_nil,List.append_nil];rw [List.nodup_append];refine ⟨h.nd,ho.nd,fun x hx1 y hy he=>?_⟩
  subst he;obtain ⟨p,hp,hxp⟩:=List.mem_flatMap.1 hx1;have h1:=(h.l p hp).lt x hxp;have h2:=ho.low x hy;omega
theorem OsQ.chg {w w':World} {B:Nat} {qs:List OtE} {S:List Nat} (h:OsQ w B qs) (hg:Chg w w' S) (hne:∀ p∈qs,∀ k∈p.1.fp,k∉S):OsQ w' B qs :=
 ⟨fun p hp=>((h.l p hp).chg hg (hne p hp)).wide (Nat.le_refl _) hg.size,h.nd⟩
theorem OsQ.kept {w w':World} {B:Nat} {qs:List OtE} (h:OsQ w B qs) (hx:Ext w w'):OsQ w' B qs:=⟨fun p hp=>((h.l p hp).kept hx).wide (Nat.le_refl _) hx.size,h.nd⟩
theorem lg_apartO {w:World} {B B' T:Nat} {a:LAd} {l:Lg} {A:Option Addr} {n c:Nat} {qs:List OtE} (h:LgO w B T a l) (k:Ow OtE.enc 47 18 w B' (.slice A n c) qs):∀ x∈a.fp,x∉blk A:=fun x hx=>by
 unfold LAd.fp at hx;rw [List.mem_append,List.mem_append] at hx;rcases hx with (hx | hx) | hx
 ·exact h.c.apart k (by decide) x hx
 ·exact h.s.apart k (by decide) x hx
 ·exact h.e.apart k (by decide) x hx
theorem OsQ.own {w:World} {B:Nat} {A:Option Addr} {c:Nat} {qs:List OtE} (h:OsQ w B qs) (k:Ow OtE.enc 47 18 w B (.slice A qs.length c) qs):OsO w B w.heap.size A c qs:=by
 refine ⟨k,h.l, ?_,fun x hx=>?_⟩
 ·rw [List.nodup_append];refine ⟨k.nodup,h.nd,fun x hx y hy he=>?_⟩
  subst he;obtain ⟨p,hp,hxp⟩:=List.mem_flatMap.1 hy;exact lg_apartO (h.l p hp) k x hxp hx
 ·rcases List.mem_append.1 hx with hx | hx
  ·exact (k.inB x hx).2
  ·obtain ⟨p,hp,hxp⟩:=List.mem_flatMap.1 hx;exact (h.l p hp).lt x hxp
abbrev Kp.obj (a:LAd) (A:Option Addr) (n c:Nat) (r:Rp) (O:Value):Obj := .cells #[.int .i64 r.me, .int .i64 r.of, .int .i64 r.mode, .int .i64 r.view, .int .i64 r.normal, .int .i64 r.commit, .int .i64 r.log.base, .slice a.cA r.log.cells.length a.cc, .slice a.sA r.log.seats.length a.sc, .slice a.eA r.log.ents.length a.ec, .slice A n c, .int .i64 r.cell, .int .i64 r.nonce,O] 55
theorem zbx {w w':World} {S:List Nat} {P:Nat} {o:Obj} (h:w.heap[P]?=some o) (hg:Chg w w' S) (hn:P∉S):w'.heap[P]?=some o:=(hg.block P (bx_lt h) hn).trans h
theorem LgF.sent {w w':World} {B B':Nat} {a:LAd} {l:Lg} {p:Nat} {cs:Array Value} {t:TypeId} {A:Option Addr} {n c:Nat} {qs:List OtE} (h:LgF w B a l) (hb:w.heap[p]?=some (.cells cs t (0,0))) (h1:t≠162) (h2:t≠111) (h3:t≠104)
  (k:Ow OtE.enc 47 18 w B' (.slice A n c) qs) (hg:Chg w w' (p::blk A)):LgF w' B a l:=by
 refine ⟨h.c.chg Cel.len hg (fun hl x hx hm=>?_),h.s.chg Sea.len hg (fun hl x hx hm=>?_),h.e.chg Ent.len hg (fun hl x hx hm=>?_)⟩
 ·rcases List.mem_cons.1 hm with e | hm
  ·rw [e] at hx;exact zam hb (h.c.2 hl) h1 hx
  ·exact (h.c.2 hl).apart k (by decide) x hx hm
 ·rcases List.mem_cons.1 hm with e | hm
  ·rw [e] at hx;exact zam hb (h.s.2 hl) h2 hx
  ·exact (h.s.2 hl).apart k (by decide) x hx hm
 ·rcases List.mem_cons.1 hm with e | hm
  ·rw [e] at hx;exact zam hb (h.e.2 hl) h3 hx
  ·exact (h.e.2 hl).apart k (by decide) x hx hm
def allTo (me:Int) (m:Mg):Nat->List Ot
 | 0=>[]
 | k+1=>allTo me m k++if ((k:Int) != me)=true then [⟨k,m⟩] else []
theorem allTo_len (me:Int) (m:Mg):∀ k,(allTo me m k).length<=k
 | 0=>Nat.le_refl _
 | k+1=>by
  have:=allTo_len me m k
  unfold allTo;rw [List.length_append];split <;> simp <;> omega
theorem zhz (me:Int) (m:Mg) (k:Nat):allTo me m (k+1)=allTo me m k++if ((k:Int) != me)=true then [⟨k,m⟩] else []:=rfl
theorem allTo_yes {me:Int} {m:Mg} {k:Nat} (h:((k:Int) != me)=true):allTo me m (k+1)=allTo me m k++[⟨k,m⟩]:=by rw [zhz,if_pos h]
theorem allTo_no {me:Int} {m:Mg} {k:Nat} (h:((k:Int) != me)=false):allTo me m (k+1)=allTo me m k:=by rw [zhz,h];simp
def Rp.zero:Rp:=⟨0,0,0,0,0,0,Lg.none,[],0,0⟩
def sameR (r:Rp):Rp:=if rpOk r=true then r else Rp.zero
def RpW (w:World) (B:Nat) (R:Rp) (v:Value):Prop:=∃ a A c qs,v=Rp.val a A (List.length qs) c R/\RpF w B a A c qs R
theorem RpF.none (w:World) (B:Nat) (R:Rp) (hl:R.log=Lg.none) (hv:R.votes=[]):RpF w B LAd.none Option.none 0 [] R:=⟨by rw [hl];exact LgF.zero _ _,RdF.nil _ _ _ _ _,by simp,by rw [hv];rfl⟩
theorem LgO.none (w:World) (B T:Nat):LgO w B T LAd.none Lg.none:=⟨World.ownsRow_nil _ _ _ _,World.ownsRow_nil _ _ _ _,World.ownsRow_nil _ _ _ _,by simp [LAd.fp,LAd.none,blk],by simp [LAd.fp,LAd.none,blk]⟩
theorem RpO.none (w:World) (B T:Nat) (R:Rp) (hl:R.log=Lg.none) (hv:R.votes=[]):RpO w B T LAd.none Option.none 0 [] R:=⟨by rw [hl];exact LgO.none _ _ _,⟨World.ownsRow_nil _ _ _ _,by simp,by simp [blk],by simp [blk]⟩,by rw [hv];rfl,by simp [LAd.fp,LAd.none,blk]⟩
theorem RpO.wide {w:World} {B B' T T':Nat} {a:LAd} {A:Option Addr} {c:Nat} {ps:List VtE} {r:Rp} (h:RpO w B T a A c ps r) (hB:B'<=B) (hT:T<=T'):RpO w B' T' a A c ps r:=⟨h.l.wide hB hT,h.v.wide hB hT,h.e,h.d⟩
theorem zbi (a:LAd) (A:Option Addr) (c:Nat) (ps:List VtE) (r:Rp) (w:World) (hr:RpR w a A c ps r) (hs:r.log.small) (hn:ps.length<=1048576) (hv:LgS ps) :
  Calls Tryz.prog 21 #[Rp.val a A ps.length c r] w fun e w'=>∃ v,e = .returned v/\RpW w' w.heap.size (sameR r) v/\Ext w w':=by
 have X0:Ext w ((w.alloc (Rp.obj a A ps.length c r)).alloc Rp.zobj):=za9 (za1 _ _) _;have hcon:=zh3 a A c ps r _ (hr.keep X0) hs hn hv;have HCp:=Hd (fun W (h:Ext w W)=>ze5 a A c ps r W (hr.keep h) hs hn hv)
 cases q:rpOk r
 ·rw [q] at hcon;have HC:=Hd hcon;have HR:=Hd (show sameR r=Rp.zero by simp [sameR,q])
  clear q hcon hr hs hv
  go_enter Tryz.func21,Tryz.ntmps21
  go_wp2_with fail
  refine HC.out.mono ?_;rintro e w1 ⟨rfl,x1⟩;have B2:=x1.box (hNew (w:=w.alloc (Rp.obj a A ps.length c r)) (o:=Rp.zobj) rfl);rw [zag] at B2;have HB:=Hd B2;clear B2;go_wp2_with (with_reducible refine za8 33 ?_)
  refine za3 (w.heap.size+1) #[.int .i64 0, .int .i64 0, .int .i64 0, .int .i64 0, .int .i64 0, .int .i64 0, .int .i64 0, .slice none 0 0, .slice none 0 0, .slice none 0 0, .slice none 0 0, .int .i64 0, .int .i64 0] rfl rfl HB.out (by kernel_rfl) rfl (by simp [Value.oneCell']) ?_
  intro W4 E4 C4;have hX4:=Hd (zac (Ext.trans X0 x1) C4 (by omega))
  go_wp2
  refine bodyPost_ret (zbm Tryz.results21 rfl Tryz.underlying33 (by kernel_rfl) E4) rfl ⟨_,rfl, ?_,hX4.out⟩
  rw [HR.out];exact ⟨LAd.none,none,0,[],rfl,RpF.none _ _ _ rfl rfl⟩
 ·rw [q] at hcon;have HC:=Hd hcon;have HR:=Hd (show sameR r=r by simp [sameR,q])
  clear q hcon hr hs hv
  go_enter Tryz.func21,Tryz.ntmps21
  go_wp2_with fail
  refine HC.out.mono ?_;rintro e w1 ⟨rfl,x1⟩;have b1:=za2 (x1.box (hOld (o:=Rp.zobj) (hNew (w:=w) (o:=Rp.obj a A ps.length c r) rfl)));go_wp2_with fail
  refine (HCp.out _ (Ext.trans X0 x1)).mono ?_;rintro e w2 ⟨a',A',c',qs,rfl,hl,hF,x2⟩;have B2:=x2.box (x1.box (hNew (w:=w.alloc (Rp.obj a A ps.length c r)) (o:=Rp.zobj) rfl));rw [zag] at B2;have HB:=Hd B2;have HF:=Hd hF;have hsz:w.heap.size+1+1<=w1.heap.size:=by have:=x1.size;simp only [zag] at this;omega
  have HX:=Hd (Ext.trans (Ext.trans X0 x1) x2);clear B2 hF b1;go_wp2_with (with_reducible refine za8 33 ?_)
  refine za3 (w.heap.size+1) #[.int .i64 r.me, .int .i64 r.of, .int .i64 r.mode, .int .i64 r.view, .int .i64 r.normal, .int .i64 r.commit, .int .i64 r.log.base, .slice a'.cA r.log.cells.length a'.cc, .slice a'.sA r.log.seats.length a'.sc, .slice a'.eA r.log.ents.length a'.ec, .slice A' ps.length c', .int .i64 r.cell, .int .i64 r.nonce] rfl rfl HB.out (by kernel_rfl) rfl (by simp [Value.oneCell']) ?_
  intro W4 E4 C4;have hX4:=Hd (zac HX.out C4 (by omega))
  have hF4:=Hd ((HF.out.chg C4 (fun k hk=>by simp only [Mi] at hk;omega)).less (show w.heap.size<=w1.heap.size by omega))
  clear C4;go_wp2
  refine bodyPost_ret (zbm Tryz.results21 rfl Tryz.underlying33 (by kernel_rfl) E4) rfl ⟨_,rfl, ?_,hX4.out⟩
  rw [HR.out];exact ⟨a',A',c',qs,by rw [hl],hF4.out⟩
theorem rpOk_facts {r:Rp} (h:rpOk r=true):(r.of=1\/r.of=3\/r.of=5)/\0<=r.nonce/\r.nonce<=1000000000/\0<=r.me/\r.me < r.of:=by
 unfold rpOk inB ofB at h;simp only [Bool.and_eq_true,Bool.or_eq_true,decide_eq_true_eq,beq_iff_eq] at h;omega
theorem OsO.chg {w w':World} {B T:Nat} {A:Option Addr} {c:Nat} {ps:List OtE} {S:List Nat} (h:OsO w B T A c ps) (hg:Chg w w' S) (hne:∀ k,k∈blk A++ps.flatMap (fun p=>p.1.fp)->k∉S):OsO w' B T A c ps :=
 ⟨h.r.chg hg (fun k hk=>hne k (List.mem_append_left _ hk)),fun p hp=>(h.l p hp).chg hg (fun k hk=>hne k (List.mem_append_right _ (List.mem_flatMap.2 ⟨p,hp,hk⟩))),h.nd,h.top⟩
theorem OsO.low {w:World} {B T:Nat} {A:Option Addr} {c:Nat} {ps:List OtE} (h:OsO w B T A c ps):∀ k∈blk A++ps.flatMap (fun p=>p.1.fp),B<=k:=fun k hk=>by
 rcases List.mem_append.1 hk with hk | hk
 ·exact (h.r.inB k hk).1
 ·obtain ⟨p,hp,hk⟩:=List.mem_flatMap.1 hk;exact (h.l p hp).low k hk
theorem OsO.wide {w:World} {B B' T T':Nat} {A:Option Addr} {c:Nat} {ps:List OtE} (h:OsO w B T A c ps) (hB:B'<=B) (hT:T<=T'):OsO w B' T' A c ps :=
 ⟨h.r.less hB,fun p hp=>(h.l p hp).wide hB hT,h.nd,fun k hk=>by have:=h.top k hk;omega⟩
theorem OsO.nil (w:World) (B T:Nat):OsO w B T none 0 []:=⟨World.ownsRow_nil _ _ _ _,by simp,by simp [blk],by simp [blk]⟩
theorem RpO.chgAny {w w':World} {B T:Nat} {a:LAd} {A:Option Addr} {c:Nat} {ps:List VtE} {r:Rp} {S:List Nat} (h:RpO w B T a A c ps r) (hg:Chg w w' S) (hne:∀ k,B<=k->k < T->k∉S):RpO w' B T a A c ps r :=
 ⟨h.l.chg hg (fun k hk=>hne k (h.fpIn k (List.mem_append_left _ hk)).1 (h.fpIn k (List.mem_append_left _ hk)).2),h.v.chg hg (fun k hk=>hne k (h.fpIn k (List.mem_append_right _ hk)).1 (h.fpIn k (List.mem_append_right _ hk)).2),h.e,h.d⟩
theorem zax {P:Program} {fn:Func} {tmps:Array Value} {w:World} {p k j:Nat} {v:Value} {cs:Array Value} {t T:TypeId} {fs:Array Field} (hr:fn.results=#[.cell k t, .tmp j]) (ht:tmps[k]?=some (.pointer (some ⟨p,0,none⟩))) (hj:tmps[j]?=some v)
  (hu:P.underlying t=some (.struct fs)) (hie:(P.info? t).map (·.size)=some cs.size) (hb:w.heap[p]?=some (.cells cs T (0,0))):(results fn tmps).run P w = .ok (.tuple #[.agg cs,v]) w:=by
 have h1:=run_loadCells_list (P:=P) w ⟨p,0,none⟩ cs.toList (fun j v h=>by rw [Addr.add_lit,Nat.zero_add,za2 hb j];simpa using h)
 obtain ⟨ie,hie,hs⟩:=Option.map_eq_some_iff.1 hie;rw [Array.length_toList] at h1;have hagg:=zev hu w;have hti:(typeInfo t).run P w = .ok ie w:=by simp [typeInfo,hie,go_sem]
 have hload:(loadVar t ⟨p,0,none⟩).run P w = .ok (.agg cs) w:=by
  simp [loadVar,hagg,sizeOf,hti,hs,h1,Result.andThen]
 simp [results,hr,ht,hj,asAddr,hload]
abbrev Rp.cs (a:LAd) (A:Option Addr) (n c:Nat) (r:Rp):Array Value:=#[.int .i64 r.me, .int .i64 r.of, .int .i64 r.mode, .int .i64 r.view, .int .i64 r.normal, .int .i64 r.commit, .int .i64 r.log.base, .slice a.cA r.log.cells.length a.cc, .slice a.sA r.log.seats.length a.sc, .slice a.eA r.log.ents.length a.ec, .slice A n c, .int .i64 r.cell, .int .i64 r.nonce]
theorem LgF.besideO {w w':World} {B B':Nat} {a:LAd} {l:Lg} {A:Option Addr} {n c:Nat} {qs:List OtE} (h:LgF w B a l) (k:Ow OtE.enc 47 18 w B' (.slice A n c) qs) (hg:Chg w w' (blk A)):LgF w' B a l :=
 ⟨h.c.chg Cel.len hg (fun hl x hx=>(h.c.2 hl).apart k (by decide) x hx),h.s.chg Sea.len hg (fun hl x hx=>(h.s.2 hl).apart k (by decide) x hx),h.e.chg Ent.len hg (fun hl x hx=>(h.e.2 hl).apart k (by decide) x hx)⟩
theorem LgF.chg1 {w w':World} {B g:Nat} {a:LAd} {l:Lg} (h:LgF w B a l) (hg:Chg w w' [g]) (hlt:g < B):LgF w' B a l:=h.chg hg (fun k hk=>by rw [Mi] at hk;omega)
def OsF (w:World) (B:Nat) (os:List OtE):Prop:=∀ p∈os,LgF w B p.1 p.2.msg.log
theorem zdg (a:LAd) (A:Option Addr) (n c:Nat) (r:Rp) (am:LAd) (m:Mg) (w:World) (N:Nat) (hN:r.of=(N:Int)) (hN10:N<=10) (hm:LgR w am m.log) (hs:m.log.small) :
  Calls Tryz.prog 30 #[Rp.val a A n c r,Mg.val am m] w fun e w'=>∃ A' c' os,e = .returned (.slice A' (List.length os) c')/\List.map Prod.snd os=allTo r.me m N/\Ow OtE.enc 47 18 w' w.heap.size (.slice A' (List.length os) c') os/\OsF w' w.heap.size os/\Ext w w':=by
 obtain ⟨i0,hi,hz0,hz1,hz2⟩:=info_parts Tryz.infoOt;have X0:Ext w ((w.alloc (Rp.obj a A n c r)).alloc (Mg.obj am m)):=za9 (za1 _ _) _;have HX0:=Hd X0;have HM:=Hd hm;have HN:=Hd hN;have D1:=Hd (hOld (o:=Mg.obj am m) (hNew (w:=w) (o:=Rp.obj a A n c r) rfl));have D2:=hNew (w:=w.alloc (Rp.obj a A n c r)) (o:=Mg.obj am m) rfl;rw [zag] at D2;have HD2:=Hd D2;clear X0 hm hN D2
 go_enter Tryz.func30,Tryz.ntmps30
 go_wp2
 go_loopw [5,6] (fun v i wr=>∃ (k:Nat) (os:List OtE),k<=N/\i = .int .i64 k/\List.map Prod.snd os=allTo r.me m k/\Ow OtE.enc 47 18 wr (w.heap.size+1+1) v os/\OsF wr (w.heap.size+1+1) os/\Ext ((w.alloc (Rp.obj a A n c r)).alloc (Mg.obj am m)) wr) (fun _ i _=>N - (intOf i).toNat)
 case atStart=>exact ⟨0,[],Nat.zero_le _,rfl,rfl,zd3 (hNew (by simp)) (by simp),fun p hp=>(List.not_mem_nil hp).elim,za1 _ _⟩
 case round =>
  obtain ⟨k,os,hkN,rfl,hos,ho,hF,X⟩:=hrel;obtain ⟨A1,c1,rfl⟩:=ho.form;have HOS:=Hd hos;have HO:=Hd ho;have HF:=Hd hF
  have hl':os.length<=k:=by
   have h1:=congrArg List.length hos;rw [List.length_map] at h1
   have:=allTo_len r.me m k
   omega
  have E1:=Hd (X.box D1.out);have E2:=Hd (X.box HD2.out);have b1:=za2 E1.out;have z1:=bx_lt E1.out;have hsz:=X.size;simp only [zag] at hsz;have HX:=Hd X;clear ho hF hos X;by_cases hlt:k < N
  ·have hg:decide ((k:Int) < r.of)=true:=by have:=HN.out;simp;omega
   cases hb:((k:Int) != r.me)
   ·have HN':=Hd (HOS.out.trans (allTo_no hb).symm);go_wp2
    go_roundw
    case rel=>exact ⟨k+1,os,by omega,by go_num,HN'.out,HO.out,HF.out,HX.out⟩
    case measure=>simp [intOf] <;> omega
   ·(go_wp2_with (with_reducible refine za5 19 ?_);refine za6 (E2.out) rfl Tryz.underlying37 (by kernel_rfl) ?_;simp only [Act.put,Sa,Sz,Ss])
    have Z:=Hd (hNew (w:=wr) (o:=Mg.zobj) rfl)
    (go_wp2_with (with_reducible refine za8 37 ?_);refine za3 (wr.heap.size) (Mg.cs am m) rfl rfl (Z.out) (by kernel_rfl) rfl (by simp [Value.oneCell']) ?_)
    intro W3 e3 k3;have x3:=zac (za1 wr Mg.zobj) k3 (Nat.le_refl _);have E3:=Hd e3;have F2:=Hd (x3.box E2.out);have HX3:=Hd x3;have hs3:=bx_lt e3;clear b1 z1 e3 k3 x3 Z;have f2:=za2 F2.out;have y2:=bx_lt F2.out;go_wp2_with fail
    refine (zbt am m.log hs W3 (HM.out.keep (Ext.trans HX0.out (Ext.trans HX.out HX3.out)))).mono ?_;rintro e w4 ⟨a4,rfl,o4,x4⟩;have G3:=x4.box E3.out;have g3:=za2 G3;have h3:=zad G3;have y3:=bx_lt G3;have P3:=zar (zar (zar (zar G3 13 (.int .i64 m.log.base)) 14 (.slice a4.cA m.log.cells.length a4.cc)) 15 (.slice a4.sA m.log.seats.length a4.sc)) 16 (.slice a4.eA m.log.ents.length a4.ec);simp only [Sa,Sz,Ss] at P3;have hcs:=zaq (zaq (zaq (zaq (Chg.refl w4 [wr.heap.size]) (p:=⟨wr.heap.size,13,none⟩) (by simp) (.int .i64 m.log.base)) (p:=⟨wr.heap.size,14,none⟩) (by simp) (.slice a4.cA m.log.cells.length a4.cc)) (p:=⟨wr.heap.size,15,none⟩) (by simp) (.slice a4.sA m.log.seats.length a4.sc)) (p:=⟨wr.heap.size,16,none⟩) (by simp) (.slice a4.eA m.log.ents.length a4.ec)
    have x34:=Ext.trans HX3.out x4;have HP3:=Hd P3;have HL4:=Hd ((o4.less (B':=wr.heap.size+1) (by omega)).chg1 hcs (by omega))
    have HX5:=Hd (zac x34 hcs (Nat.le_refl _));clear f2 y2 G3 P3 hcs x34 x4 o4;go_wp2_with (with_reducible refine za5 26 ?_)
    refine zb2 (F:=fun W=>W.heap[wr.heap.size]?=some (Mg.obj a4 m)/\LgF W (wr.heap.size+1) a4 m.log/\Ext wr W) ⟨HP3.out,HL4.out,HX5.out⟩ ?_
    intro W6 ⟨E6,L6,X6⟩;have HE6:=Hd E6;have HR6:=Hd (HO.out.kept X6)
    have HF6:=Hd (show OsF W6 (w.heap.size+1+1) (os++[(a4,(⟨k,m⟩:Ot))]) from fun p hp=>by
     rcases List.mem_append.1 hp with hp | hp
     ·exact (HF.out p hp).keep X6
     ·rw [Mi] at hp;subst hp
      exact L6.less (by omega))
    have HX6:=Hd (Ext.trans HX.out X6);have hs6:=X6.size;clear g3 h3 y3 E6 L6 X6 HL4 HP3 HX5;refine za6 (HE6.out) rfl Tryz.underlying37 (by kernel_rfl) ?_
    simp only [Act.put,Sa,Sz,Ss];go_wp2_with (at_builtin;refine zcn (enc:=OtE.enc) rfl _ _ 40 rfl (w.heap.size+1+1) 47 i0 Ot.zero 18 192 Tryz.underlying40 hi hz0 hz1 hz2 rfl (by decide) OtE.len OtE.one (.slice A1 os.length c1) os rfl (HR6.out.kept (za1 _ _)) (some ⟨W6.heap.size,0,none⟩) 1 [(a4,(⟨k,m⟩:Ot))] 1 rfl rfl (Rd.one (hNew rfl) rfl) ?c1 ?c2 ?c3 ?_)
    case c1=>unfold maxLen;simp;omega
    case c2=>simp;omega
    case c3=>simp;omega
    intro v' w7 ho7 hg7;have c7:=zaz hg7;have HX7:=Hd (zaf (za9 HX6.out (.cells (OtE.cells a4 ⟨k,m⟩) 47)) c7 (fun g hg=>by have:=(HR6.out.inB g hg).1;simp only [zag];omega))
    have HF7:=Hd (show OsF w7 (w.heap.size+1+1) (os++[(a4,(⟨k,m⟩:Ot))]) from fun p hp=>((HF6.out p hp).keep (za1 _ (.cells (OtE.cells a4 ⟨k,m⟩) 47))).besideO (HR6.out.kept (za1 _ _)) c7)
    have HO7:=Hd ho7;have HN':=Hd (show List.map Prod.snd (os++[(a4,(⟨k,m⟩:Ot))])=allTo r.me m (k+1) by rw [allTo_yes hb,<-HOS.out];simp)
    clear ho7 hg7 c7;go_wp2
    go_roundw
    case rel=>exact ⟨k+1,_,by omega,by go_num,HN'.out,HO7.out,HF7.out,HX7.out⟩
    case measure=>simp [intOf] <;> omega
  ·obtain rfl:k=N:=by omega
   have hg:decide ((k:Int) < r.of)=false:=by have:=HN.out;simp;omega
   go_wp2
   go_ret
   exact ⟨A1,c1,os,rfl,HOS.out,HO.out.less (by omega),fun p hp=>(HF.out p hp).less (by omega),Ext.trans HX0.out HX.out⟩
theorem LgF.boxed {w w':World} {B:Nat} {a:LAd} {l:Lg} {p:Nat} {cs:Array Value} {t:TypeId} (h:LgF w B a l) (hb:w.heap[p]?=some (.cells cs t (0,0))) (h1:t≠162) (h2:t≠111) (h3:t≠104) (hg:Chg w w' [p]):LgF w' B a l :=
 ⟨h.c.chg Cel.len hg (fun hl x hx hm=>by rw [Mi] at hm;rw [hm] at hx;exact zam hb (h.c.2 hl) h1 hx),
  h.s.chg Sea.len hg (fun hl x hx hm=>by rw [Mi] at hm;rw [hm] at hx;exact zam hb (h.s.2 hl) h2 hx),
  h.e.chg Ent.len hg (fun hl x hx hm=>by rw [Mi] at hm;rw [hm] at hx;exact zam hb (h.e.2 hl) h3 hx)⟩
theorem RpF.boxed {w w':World} {B:Nat} {a:LAd} {A:Option Addr} {c:Nat} {ps:List VtE} {r:Rp} {p:Nat} {cs:Array Value} (h:RpF w B a A c ps r) (hb:w.heap[p]?=some (.cells cs 33 (0,0))) (hg:Chg w w' [p]):RpF w' B a A c ps r :=
 ⟨h.l.boxed hb (by decide) (by decide) (by decide) hg,h.v.chg VtE.len hg (fun hl x hx hm=>by rw [Mi] at hm;rw [hm] at hx;exact zam hb (h.v.2 hl) (by decide) hx),fun q hq=>(h.vl q hq).boxed hb (by decide) (by decide) (by decide) hg,h.e⟩
end Go.Proofs.YtckfjploafhenaaGreat
