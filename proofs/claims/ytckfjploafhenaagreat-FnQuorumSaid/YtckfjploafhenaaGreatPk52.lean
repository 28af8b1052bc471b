/- Contracts of the functions on one range. -/
import Derived.Test.YtckfjploafhenaaGreatProg
import Derived.Test.YtckfjploafhenaaGreatPk16
import Derived.Test.YtckfjploafhenaaGreatPk30
import Derived.Test.YtckfjploafhenaaGreatPk17
import Derived.Test.YtckfjploafhenaaGreatPk36
import Derived.Test.YtckfjploafhenaaGreatPk47
import Derived.Test.YtckfjploafhenaaGreatPk48
import Derived.Test.YtckfjploafhenaaGreatPk51
set_option maxRecDepth 100000
set_option maxHeartbeats 16000000
set_option linter.unusedVariables false
set_option linter.unusedSimpArgs false
namespace Go.Proofs.YtckfjploafhenaaGreat
open Go.ChangeShapes Go.WideShapes Go.ChangeAt Go.RowKit Go.Sort
end Go.Proofs.YtckfjploafhenaaGreat
namespace Go.Proofs.YtckfjploafhenaaGreat
open Go.ChangeShapes Go.WideShapes Go.ChangeAt Go.RowKit Go.Joins Go.Deep
def BytesR (w:World) (A:Option Addr) (n:Nat):Prop:=0 < n->∃ b o,A=some ⟨b,o,none⟩/\b < w.heap.size/\∀ k,k < n->∃ y:Nat,y<=255/\w.cell? ⟨b,o+k,none⟩=some (.int .u8 y)
theorem Tryz.cellsU8:Tryz.prog.cellsOf 5=1:=by kernel_rfl
theorem open_code {H:Type} {enc:TypeId×Value->H} {W:World} {base b0:Nat} {sp:Nat->Bool} {held:Bool} {v:Value} {d:DataW H} {p:List MemPlace}
  (hv:Value.okWide Tryz.prog W .any base 22 v) (h:DataW.Trod enc Tryz.prog W b0 sp held 22 v d p):∃ A n c,v = .slice A n c/\n<=c/\c<=maxLen/\BytesR W A n:=by
 obtain ⟨a0,len,cap,rfl⟩:=okWide_slice Tryz.underlying22 hv;obtain ⟨fuel,hf⟩:=h;rcases open_slice Tryz.underlying22 hf with ⟨hcs,hx⟩ | ⟨a,len',cap',m,n,D,Pl,hcs,hb,hl,hm,hmm,hx,hi⟩
 ·simp only [Value.cells,List.cons.injEq,and_true,Value.slice.injEq] at hcs;obtain ⟨rfl,rfl,rfl⟩:=hcs;exact ⟨none,0,0,rfl,Nat.le_refl _,by unfold maxLen;omega,fun h=>absurd h (by simp)⟩
 ·simp only [Value.cells,List.cons.injEq,and_true,Value.slice.injEq] at hcs;obtain ⟨rfl,rfl,rfl⟩:=hcs;have hlm:len<=m:=by rw [hmm];split <;> omega
  refine ⟨some a,len,cap,rfl,hl,hm,fun hpos=>?_⟩
  have each:∀ i,i < len->∃ y:Nat,y<=255/\W.cell? (a.add i)=some (.int .u8 y):=by
   intro i hin;obtain ⟨cs',hc,ht'⟩:=hi i (by omega)
   rw [Tryz.cellsU8,Nat.mul_one] at hc;obtain ⟨_,hcl,hat⟩:=World.cells?_some hc;obtain ⟨z,hz,_,hwf⟩:=DataW.trod_int Tryz.underlying5 ht';have h0:=hat 0 (by omega)
   rw [hz] at h0;have hb2:0<=z/\z<=255:=by simpa [Lit.wf,IntKind.min,IntKind.max,IntKind.signed,IntKind.bits] using hwf
   refine ⟨z.toNat,by omega, ?_⟩
   rw [show ((z.toNat:Nat):Int)=z by omega]
   simpa [Addr.add] using h0
  obtain ⟨b,o,s⟩:=a;obtain ⟨y0,_,hc0⟩:=each 0 hpos
  have hs:s=none:=by
   cases s with
   | none=>rfl
   | some q =>
    exfalso;simp [Addr.add,World.cell?] at hc0;split at hc0 <;> simp at hc0
  subst hs
  have hlt:b < W.heap.size:=by
   have:=block_lt_of_cell hc0
   simpa [Addr.add] using this
  refine ⟨b,o,rfl,hlt,fun k hk=>?_⟩
  obtain ⟨y,hy,hc⟩:=each k hk;refine ⟨y,hy, ?_⟩
  rwa [Addr.add_lit] at hc
end Go.Proofs.YtckfjploafhenaaGreat
namespace Go.Proofs.YtckfjploafhenaaGreat.l12
open Go.ChangeShapes Go.WideShapes Go.ChangeAt Go.RowKit Go.Joins Go.Deep Go.Sort
theorem c_iPrimaryOf (view n:Int) (w:World) (h:inB view 0 1000000000=true) (h2:ofB n=true):Calls Tryz.prog 9 #[.int .i64 view, .int .i64 n] w fun e w'=>e = .returned (.int .i64 (view % n))/\Ext w w':=by
 have hv:=(zcu _ _ _).1 h;have ho:=ofB_b h2;have ho':n≠0:=by omega
 have ho2:(n == 0)=false:=by simpa using ho'
 have HC:=Hd (fun W=>h▸zas view W)
 have HD:=Hd (fun W=>h2▸zgv n W)
 clear h h2
 go_enter Tryz.func9,Tryz.ntmps9
 go_wp2_with fail
 refine (HC.out _).mono ?_;rintro e w1 ⟨rfl,x1⟩;go_wp2_with fail
 refine (HD.out _).mono ?_;rintro e w2 ⟨rfl,x2⟩;go_wp2
 go_ret
 exact ⟨zc0 (by first | rfl | (simp;done) | omega),Ext.trans x1 x2⟩
theorem ot_at {w:World} {A:Option Addr} {c:Nat} {l:List OtE} (h:Rd OtE.enc 18 w A c l) {k:Nat} (hk:k < l.length):∃ b o,A=some ⟨b,o,none⟩/\b < w.heap.size /\
  w.cell? ⟨b,o+k * 18,none⟩=some (.int .i64 l[k].2.to)/\w.cell? ⟨b,o+k * 18+1,none⟩=some (.int .i64 l[k].2.msg.kind)/\w.cell? ⟨b,o+k * 18+5,none⟩=some (.int .i64 l[k].2.msg.commit):=by
 obtain ⟨b,o,e,hlt,hc⟩:=h.2.2 (by omega)
 exact ⟨b,o,e,hlt,hc k hk 0 _ rfl,hc k hk 1 _ rfl,hc k hk 5 _ rfl⟩
theorem at_snd {qs:List VtE} {L:List Vt} (h:qs.map Prod.snd=L) {k:Nat} (hk:k < qs.length):∃ h2:k < L.length,L[k]=qs[k].2:=by subst h;exact ⟨by simpa using hk,by simp⟩
theorem at_ot {os:List OtE} {O:List Ot} (h:os.map Prod.snd=O) {k:Nat} (hk:k < os.length):∃ h2:k < O.length,O[k]=os[k].2:=by subst h;exact ⟨by simpa using hk,by simp⟩
theorem walk (A:Option Addr) (n c:Nat) (w:World) (hb:BytesR w A n) (hnc:n<=c) (hcm:c<=9223372036854775807):Calls Tryz.prog 3 #[.slice A n c] w fun e w'=>e = .returned (.bool true)/\Ext w w':=by
 by_cases hn:n<=1048576
 ·go_enter Tryz.func3,Tryz.ntmps3
  go_wp2_with fail
  refine (c_big_no A n c w hn).mono ?_;rintro e w0 ⟨rfl,x0⟩
  have hc:CodeOk w0 A n w0.heap.size:=⟨hn,fun h0=>by
   obtain ⟨b,o,e,hbl,hcell⟩:=hb h0
   exact ⟨b,o,e,Nat.lt_of_lt_of_le hbl x0.size,fun k hk=>by
    obtain ⟨y,hy,hy2⟩:=hcell k hk
    exact ⟨y,hy,(old_cell x0 hbl).trans hy2⟩⟩⟩
  go_wp2_with fail
  refine (Ai.ok_draw hc hnc hcm).mono ?_;rintro e w1 ⟨a,V,d,ps,r,am,m,rfl,hr,hl,hpl,hs,hm,hml,x1⟩;have HR:=Hd hr;have HM:=Hd hm;have HS:=Hd hs;have HL:=Hd hl;have HML:=Hd hml;have X1:=Hd (Ext.trans x0 x1);have Z1:=Hd (hOld (o:=Mg.zobj) (hNew (w:=w1) (o:=Rp.zobj) rfl));have Y1:=Hd (hNew (w:=w1.alloc Rp.zobj) (o:=Mg.zobj) (k:=w1.heap.size+1) (by simp))
  clear hc hb x0 x1 hr hl hs hm hml
  (go_wp2_with (with_reducible refine za8 33 ?_);refine za3 (w1.heap.size) (Rp.cs a V ps.length d r) rfl rfl (Z1.out) (by kernel_rfl) rfl (by simp [Value.oneCell']) ?_)
  intro v2 e2 k2;have E2:=Hd e2;have Y2:=Hd (zbx Y1.out k2 (by simp))
  have C2:=Hd (zac (za9 (za1 w1 Rp.zobj) Mg.zobj) k2 (Nat.le_refl _));have s2:=bx_lt e2;clear e2 k2 Z1 Y1
  (go_wp2_with (with_reducible refine za8 37 ?_);refine za3 ((w1.heap.size+1)) (#[.int .i64 m.kind, .int .i64 m.frm, .int .i64 m.view, .int .i64 m.op, .int .i64 m.commit, .int .i64 m.normal, .int .i64 m.nonce, .int .i64 m.client, .int .i64 m.req, .int .i64 m.answer, .int .i64 m.ck, .int .i64 m.cx, .int .i64 m.cv, .int .i64 m.log.base, .slice am.cA m.log.cells.length am.cc, .slice am.sA m.log.seats.length am.sc, .slice am.eA m.log.ents.length am.ec]) rfl rfl (Y2.out) (by kernel_rfl) rfl (by simp [Value.oneCell']) ?_)
  intro w2 e2 k2;have x2:=zac C2.out k2 (by omega)
  have M2:=Hd (show w2.heap[w1.heap.size+1]?=some (Mg.obj am m) from e2)
  have F2:=Hd (zbx E2.out k2 (by simp))
  have R2:=Hd (HR.out.keep x2);have N2:=Hd (HM.out.keep x2);have X2:=Hd (Ext.trans X1.out x2);clear e2 k2 x2 E2 Y2 C2 HR HM X1 s2;obtain ⟨R,hRR⟩:∃ R,zbu r m 3 (okR r m)=R:=⟨_,rfl⟩;obtain ⟨O,hOO⟩:∃ O,hearO r m 3 (okO r m)=O:=⟨_,rfl⟩;have HI:=c_iOnOk a V d ps r am m w2 R2.out HL.out hpl HS.out N2.out HML.out;have HT:=fun W h k=>c_sOnOk a V d ps r am m W h HL.out hpl HS.out k HML.out
  have HK:=Hd (fun W h=>zh3 a V d ps r W h HL.out hpl HS.out)
  simp only [hRR,hOO] at HI HT;have HI:=Hd HI;have HT:=Hd HT;have HRR:=Hd hRR;have HOO:=Hd hOO;clear hRR hOO
  (go_wp2_with (with_reducible refine za5 22 ?_);refine za6 (F2.out) rfl Tryz.underlying33 (by kernel_rfl) ?_;simp only [Act.put,Sa,Sz,Ss])
  (go_wp2_with (with_reducible refine za5 23 ?_);refine za6 (M2.out) rfl Tryz.underlying37 (by kernel_rfl) ?_;simp only [Act.put,Sa,Sz,Ss])
  go_wp2_with fail
  refine HI.out.mono ?_;rintro e w3 ⟨v3,rfl,⟨a3,A3,c3,qs3,Ao,co,os,rfl,o3,oo3,hm3,_⟩,x3⟩;have E3:=Hd (x3.box F2.out);have M3:=Hd (x3.box M2.out);have R3:=Hd (R2.out.keep x3);have N3:=Hd (N2.out.keep x3);have X3:=Hd (Ext.trans X2.out x3);have O3:=Hd o3.rd;have Q3:=Hd oo3.rd;have HM3:=Hd hm3;have Z3:=Hd (hNew (w:=w3) (o:=Rp.zobj) rfl);have s3:=bx_lt E3.out;have t3:=bx_lt M3.out;clear o3 oo3 hm3 x3 F2 M2 R2 N2 X2 HI
  (go_wp2_with (with_reducible refine za8 33 ?_);refine za3 (w3.heap.size) (Rp.cs a3 A3 qs3.length c3 R) rfl rfl (Z3.out) (by kernel_rfl) rfl (by simp [Value.oneCell']) ?_)
  intro w4 e4 k4;have x4:=zac (za1 w3 Rp.zobj) k4 (Nat.le_refl _);have F4:=Hd e4;have E4:=Hd (x4.box E3.out);have M4:=Hd (x4.box M3.out);have R4:=Hd (R3.out.keep x4);have N4:=Hd (N3.out.keep x4);have O4:=Hd (O3.out.keep x4);have Q4:=Hd (Q3.out.keep x4);have X4:=Hd (Ext.trans X3.out x4);clear e4 k4 x4 Z3 E3 M3 R3 N3 O3 Q3 X3
  (go_wp2_with (with_reducible refine za5 28 ?_);refine za6 (E4.out) rfl Tryz.underlying33 (by kernel_rfl) ?_;simp only [Act.put,Sa,Sz,Ss])
  (go_wp2_with (with_reducible refine za5 29 ?_);refine za6 (M4.out) rfl Tryz.underlying37 (by kernel_rfl) ?_;simp only [Act.put,Sa,Sz,Ss])
  go_wp2_with fail
  refine (HT.out _ R4.out N4.out).mono ?_;rintro e w5 ⟨v5,rfl,⟨a5,A5,c5,qs5,Ap,cp,op,rfl,o5,_,hm5,_⟩,x5⟩;have E5:=Hd (x5.box E4.out);have F5:=Hd (x5.box F4.out);have R5:=Hd (R4.out.keep x5);have O5:=Hd (O4.out.keep x5);have Q5:=Hd (Q4.out.keep x5);have X5:=Hd (Ext.trans X4.out x5);have Z5:=Hd (hNew (w:=w5) (o:=Rp.zobj) rfl)
  have hlen:(((os.length:Nat):Int) != ((op.length:Nat):Int))=false:=by
   have:os.length=op.length:=by
    have h1:=congrArg List.length (HM3.out.trans hm5.symm);simpa using h1
   simp [this]
  have hlen2:(((qs3.length:Nat):Int) != ((qs5.length:Nat):Int))=false:=by
   have:qs3.length=qs5.length:=by
    have h1:=congrArg List.length (O5.out.e.trans o5.e.symm);simpa using h1
   simp [this]
  have s5:=bx_lt E5.out;have t5:=bx_lt F5.out;clear hm5 o5 x5 E4 F4 M4 R4 N4 O4 Q4 X4 HT
  (go_wp2_with (with_reducible refine za8 33 ?_);refine za3 (w5.heap.size) (Rp.cs a5 A5 qs5.length c5 R) rfl rfl (Z5.out) (by kernel_rfl) rfl (by simp [Value.oneCell']) ?_)
  intro w6 e6 k6;have x6:=zac (za1 w5 Rp.zobj) k6 (Nat.le_refl _);have G6:=Hd e6;have E6:=Hd (x6.box E5.out);have F6:=Hd (x6.box F5.out);have R6:=Hd (R5.out.keep x6);have O6:=Hd (O5.out.keep x6);have Q6:=Hd (Q5.out.keep x6);have X6:=Hd (Ext.trans X5.out x6);clear e6 k6 x6 Z5 E5 F5 R5 O5 Q5 X5;have dB:=za2 F6.out;have dC:=za2 G6.out;have v1:(R.commit != R.commit)=false:=by simp
  (go_wp2_with (with_reducible refine za5 54 ?_);refine za6 (E6.out) rfl Tryz.underlying33 (by kernel_rfl) ?_;simp only [Act.put,Sa,Sz,Ss])
  go_wp2_with fail
  refine (HK.out _ R6.out).mono ?_;rintro e w7 ⟨rfl,x7⟩;have E7:=Hd (x7.box E6.out);have F7:=Hd (x7.box F6.out);have O7:=Hd (O6.out.keep x7);have Q7:=Hd (Q6.out.keep x7);have X7:=Hd (Ext.trans X6.out x7);clear x7 E6 F6 G6 R6 O6 Q6 X6 HK dB dC v1 hlen hlen2;cases q:rpOk r
  ·have hO:O=[]:=by rw [<-HOO.out];unfold hearO;rw [q];rfl
   obtain rfl:os=[]:=by have:=HM3.out;rw [hO] at this;simpa using this
   clear hO q;go_wp2
   go_ret
   exact ⟨rfl,X7.out⟩
  ·rcases quorum (m:=m) q with ⟨h1,h2⟩ | N
   ·rw [HRR.out] at h1;rw [HOO.out] at h2;obtain rfl:os=[]:=by have:=HM3.out;rw [h2] at this;simpa using this
    have c1:(R.commit == r.commit)=true:=by simp [h1]
    have dA:=za2 E7.out;have dB:=za2 F7.out;clear h1 h2 q;go_wp2
    go_ret
    exact ⟨rfl,X7.out⟩
   ·rw [HRR.out,HOO.out] at N;have HN:=Hd N;have c1:(R.commit == r.commit)=false:=by have:=N.up;simp;omega
    have HQ:=Hd q;have dA:=za2 E7.out;have dB:=za2 F7.out
    have lq:qs3.length<=20:=by
     have h1:=votes_len (m:=m) q;rw [HRR.out,<-O7.out.e,List.length_map] at h1;exact h1
    have g:=zf9 q;have hview:inB r.view 0 1000000000=true:=(zcu _ _ _).2 ⟨g.view0,g.view1⟩;have hofB:ofB r.of=true:=by have:=g.of;unfold ofB;rcases this with h | h | h <;> simp [h]
    have HPr:=Hd (fun W=>c_iPrimaryOf r.view r.of W hview hofB)
    have hup:=N.up;have hc0:0<=r.commit:=by have h1:=g.c0;have h2:=(zit g.lok);omega
    have HOf:=Hd g.of;have HLk:=Hd O7.out.e;clear N q g hview hofB;go_wp2
    go_loopw [9,10] (fun t i wr=>∃ k:Nat,k<=qs3.length/\i = .int .i64 k/\t = .int .i64 (cntOk R.commit (R.votes.take k))/\Hid (Ext w7 wr)) (fun _ i _=>qs3.length - (intOf i).toNat)
    case atStart=>exact ⟨0,Nat.zero_le _,rfl,by simp [cntOk],Hd (za4 _)⟩
    case round =>
     obtain ⟨k,hk,rfl,rfl,X⟩:=hrel;have dB:=za2 (X.out.box F7.out);have lB:=bx_lt (X.out.box F7.out);by_cases hlt:k < qs3.length
     ·obtain ⟨ab,ao,hA,hab,a0,a1,a2,a3',a4,a5',a6,a7,a8,a9⟩:=(O7.out.v.1.keep X.out).atVtE hlt;obtain ⟨h2,h3⟩:=at_snd HLk.out hlt
      have hle:cntOk R.commit (R.votes.take k)<=20:=by
       have h1:=cntOk_le R.commit R.votes k;rw [<-HLk.out,List.length_map] at h1;rw [<-HLk.out];omega
      have HT1:=zdj (n:=R.commit) h2;rw [h3] at HT1;unfold isOk at HT1;clear a1 a2 a3' a5' a6 a7 a8 a9 h2 h3;subst hA;cases g1:(qs3[k].2.kind == 3)
      ·have HC1:=Hd (show cntOk R.commit (R.votes.take (k+1))=cntOk R.commit (R.votes.take k) by rw [HT1,g1];rfl)
       clear HT1;go_wp2
       (refine mrx (fun _ _ _=>True) 18 (fun hg=>?_);simp only [Tc,Tz,Dc,Dz])
       (repeat (first | (refine mqu ?_;go_big_quiet_step (fail);refine mnil ?_) | (refine msk ?_;simp only [Act.put,Sa,Sz,Ss])))
       (refine Rm.wpMix_nil ?_;intro w9 hw9)
       go_wp2
       go_roundw
       case rel=>exact ⟨k+1,by omega,by go_num,by rw [HC1.out],Hd (Ext.trans X.out hw9)⟩
       case measure=>simp [intOf] <;> omega
      ·cases g2:decide (R.commit<=qs3[k].2.op)
       ·have HC1:=Hd (show cntOk R.commit (R.votes.take (k+1))=cntOk R.commit (R.votes.take k) by rw [HT1,g1,g2];rfl)
        clear HT1;go_wp2
        (refine mrx (fun _ _ _=>True) 18 (fun hg=>?_);simp only [Tc,Tz,Dc,Dz])
        (repeat (first | (refine mqu ?_;go_big_quiet_step (fail);refine mnil ?_) | (refine msk ?_;simp only [Act.put,Sa,Sz,Ss])))
        (refine Rm.wpMix_nil ?_;intro w9 hw9)
        go_wp2
        go_roundw
        case rel=>exact ⟨k+1,by omega,by go_num,by rw [HC1.out],Hd (Ext.trans X.out hw9)⟩
        case measure=>simp [intOf] <;> omega
       ·have HC1:=Hd (show cntOk R.commit (R.votes.take (k+1))=cntOk R.commit (R.votes.take k)+1 by rw [HT1,g1,g2];rfl)
        clear HT1;go_wp2
        (refine mrx (fun _ _ _=>True) 18 (fun hg=>?_);simp only [Tc,Tz,Dc,Dz])
        (repeat (first | (refine mqu ?_;go_big_quiet_step (fail);refine mnil ?_) | (refine msk ?_;simp only [Act.put,Sa,Sz,Ss])))
        (refine Rm.wpMix_nil ?_;intro w9 hw9)
        go_wp2
        go_roundw
        case rel=>exact ⟨k+1,by omega,by go_num,by rw [HC1.out];go_num,Hd (Ext.trans X.out hw9)⟩
        case measure=>simp [intOf] <;> omega
     ·obtain rfl:k=qs3.length:=by omega
      have HTk:=Hd (show R.votes.take qs3.length=R.votes from List.take_of_length_le (by rw [<-HLk.out,List.length_map];exact Nat.le_refl _))
      have hx20:cntOk R.commit R.votes<=20:=by
       have h1:=cntOk_le R.commit R.votes qs3.length;rw [HTk.out,<-HLk.out,List.length_map] at h1;rw [<-HLk.out];omega
      rw [HTk.out];have D9:=Hd (X.out.box E7.out);have F9:=Hd (X.out.box F7.out);have Q9:=Hd (Q7.out.keep X.out);have X9:=Hd (Ext.trans X7.out X.out);have ho1:=Q7.out.1.1;have ho2:=Q7.out.1.2.1;unfold maxLen at ho2;have hoO:O.length=os.length:=by rw [<-HM3.out,List.length_map]
      clear X E7 F7 Q7 X7 O7 dA;go_wp2
      go_loopw [11,12,13] (fun t o i ws=>∃ k:Nat,k<=os.length/\i = .int .i64 k/\t = .int .i64 (told (O.take k))/\o = .int .i64 ((k - told (O.take k):Nat):Int)/\Hid (Ext wr ws)) (fun _ _ i _=>os.length - (intOf i).toNat)
      case atStart=>exact ⟨0,Nat.zero_le _,rfl,rfl,rfl,Hd (za4 _)⟩
      case round =>
       obtain ⟨k,hk,rfl,rfl,rfl,X⟩:=hrel;have dA:=za2 (X.out.box D9.out);have dB:=za2 (X.out.box F9.out);have lA:=bx_lt (X.out.box D9.out);have lB:=bx_lt (X.out.box F9.out);have htk:=told_le O k;by_cases hlt:k < os.length
       ·obtain ⟨ab,ao,hA,hab,a0,a1,a5⟩:=ot_at (Q9.out.1.keep X.out) hlt;obtain ⟨h2,h3⟩:=at_ot HM3.out hlt;obtain ⟨e1,e2⟩:=HN.out.each _ (List.getElem_mem h2);have HT1:=told_next h2;rw [h3] at e1 e2 HT1;unfold isTold at HT1;clear h3 h2;subst hA;cases g1:decide (os[k].2.to < 0)
        ·obtain ⟨z1,z2⟩:=e2 (by have:=of_decide_eq_false g1;omega)
         rw [z1] at a1;rw [z2] at a5;have HC1:=Hd (show told (O.take (k+1))=told (O.take k) by rw [HT1,g1];rfl)
         have y1:((4:Int) != 4)=false:=rfl;have y2:(R.commit != R.commit)=false:=by simp
         clear HT1 e1 e2 z1 z2;go_wp2
         (refine mrx (fun _ _ _=>True) 18 (fun hg=>?_);simp only [Tc,Tz,Dc,Dz])
         (repeat (first | (refine mqu ?_;go_big_quiet_step (fail);refine mnil ?_) | (refine msk ?_;simp only [Act.put,Sa,Sz,Ss])))
         (refine Rm.wpMix_nil ?_;intro w9 hw9)
         go_wp2
         go_roundw
         case rel=>exact ⟨k+1,by omega,by go_num,by rw [HC1.out],by rw [HC1.out];exact congrArg (Value.int .i64) (by omega),Hd (Ext.trans X.out hw9)⟩
         case measure=>simp [intOf] <;> omega
        ·have z1:=e1 (of_decide_eq_true g1);rw [z1] at a1;have HC1:=Hd (show told (O.take (k+1))=told (O.take k)+1 by rw [HT1,g1];rfl)
         have y1:((12:Int) != 12)=false:=rfl;clear HT1 e1 e2 z1;go_wp2
         go_roundw
         case rel=>exact ⟨k+1,by omega,by go_num,by rw [HC1.out];go_num,by rw [HC1.out];exact congrArg (Value.int .i64) (by omega),X⟩
         case measure=>simp [intOf] <;> omega
       ·obtain rfl:k=os.length:=by omega
        have HTo:=Hd (show O.take os.length=O from List.take_of_length_le (by omega))
        have n1:=HN.out.oks;have n2:=HN.out.few;have n3:=HN.out.rest;have n4:=HN.out.top;have n5:=zit (zf9 HQ.out).lok;have n6:r.log.fin<=2000000000:=by unfold Lg.fin;omega
        have k1:decide (r.of - 1<=2 * ((cntOk R.commit R.votes:Nat):Int))=true:=by simp;omega
        have k2:decide (((told O:Nat):Int)<=R.commit - r.commit)=true:=by simp;omega
        have k3:((((os.length - told O:Nat)):Int) == r.of - 1)=true:=by
         rw [HTo.out] at htk
         simp
         omega
        have k4:(r.view % r.of == r.me)=true:=by
         have h1:=HN.out.leads;unfold leadsB at h1;rw [beq_iff_eq] at h1 ⊢;exact h1.symm
        have hof:=HOf.out;have hof1:1<=r.of/\r.of<=5:=by omega
        rw [HTo.out];clear n1 n2 n3 n5 hof htk HTo HN HOf HLk HQ;go_wp2
        (refine mrx (fun _ _ _=>True) 33 (fun hg=>?_);simp only [Tc,Tz,Dc,Dz])
        (repeat (first | (refine mqu ?_;go_big_quiet_step (fail);refine mnil ?_) | (refine msk ?_;simp only [Act.put,Sa,Sz,Ss]) | (refine Rm.more ?_;refine mdt Tryz.func9 (fun W hW=>HPr.out W) ?_;simp only [Act.put,Sa,Sz,Ss])))
        (refine Rm.wpMix_nil ?_;intro w9 hw9)
        go_wp2
        go_ret
        exact ⟨rfl,Ext.trans X9.out (Ext.trans X.out hw9)⟩
 ·go_enter Tryz.func3,Tryz.ntmps3
  go_wp2_with fail
  refine (c_big_yes A n c w (by omega) (by omega)).mono ?_
  rintro e w0 ⟨rfl,x0⟩;go_wp2
  go_ret
  exact ⟨rfl,x0⟩
end Go.Proofs.YtckfjploafhenaaGreat.l12
