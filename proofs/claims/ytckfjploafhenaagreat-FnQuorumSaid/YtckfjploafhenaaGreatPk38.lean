/- The reference looks for cells and seats of an image, and puts them. -/
import Derived.Test.YtckfjploafhenaaGreatPk37
import Derived.Test.YtckfjploafhenaaGreatPk24
import Derived.Test.YtckfjploafhenaaGreatPk25
set_option maxRecDepth 100000
set_option maxHeartbeats 16000000
set_option linter.unusedVariables false
set_option linter.unusedSimpArgs false
namespace Go.Proofs.YtckfjploafhenaaGreat
open Go.ChangeShapes Go.WideShapes Go.ChangeAt Go.RowKit Go.Sort
abbrev Im.val (cA:Option Addr) (cn cc:Nat) (sA:Option Addr) (sn sc:Nat):Value := .agg #[.slice cA cn cc, .slice sA sn sc]
abbrev Im.cs (cA:Option Addr) (cn cc:Nat) (sA:Option Addr) (sn sc:Nat):Array Value:=#[.slice cA cn cc, .slice sA sn sc]
abbrev Im.obj (cA:Option Addr) (cn cc:Nat) (sA:Option Addr) (sn sc:Nat):Obj := .cells #[.slice cA cn cc, .slice sA sn sc] 27
abbrev Im.zobj:Obj := .cells #[.slice none 0 0, .slice none 0 0] 27
abbrev Sea.zobj:Obj := .cells #[.int .i64 0, .int .i64 0, .int .i64 0] 111
theorem zaj {P:Program} {fn:Func} {tmps:Array Value} {w:World} {p k j:Nat} {v:Value} {cs:Array Value} {t T:TypeId} {fs:Array Field} (hr:fn.results=#[.cell k t, .tmp j]) (ht:tmps[k]?=some (.pointer (some ⟨p,0,none⟩))) (hj:tmps[j]?=some v)
  (hu:P.underlying t=some (.struct fs)) (hie:(P.info? t).map (·.size)=some cs.size) (hb:w.heap[p]?=some (.cells cs T (0,0))):(results fn tmps).run P w = .ok (.tuple #[.agg cs,v]) w:=by
 have h1:=run_loadCells_list (P:=P) w ⟨p,0,none⟩ cs.toList (fun j v h=>by rw [Addr.add_lit,Nat.zero_add,za2 hb j];simpa using h)
 obtain ⟨ie,hie,hs⟩:=Option.map_eq_some_iff.1 hie;rw [Array.length_toList] at h1;have hagg:=zev hu w;have hti:(typeInfo t).run P w = .ok ie w:=by simp [typeInfo,hie,go_sem]
 have hload:(loadVar t ⟨p,0,none⟩).run P w = .ok (.agg cs) w:=by
  simp [loadVar,hagg,sizeOf,hti,hs,h1,Result.andThen]
 simp [results,hr,ht,hj,asAddr,hload]
theorem Cel.one (x:Cel):∀ u∈x.enc,u.oneCell'=true:=by intro u hu;simp [Cel.enc] at hu;rcases hu with rfl | rfl <;> rfl
theorem Sea.one (x:Sea):∀ u∈x.enc,u.oneCell'=true:=by intro u hu;simp [Sea.enc] at hu;rcases hu with rfl | rfl | rfl <;> rfl
theorem c_sCellAt (cA:Option Addr) (cc:Nat) (cs:List Cel) (sA:Option Addr) (sc:Nat) (ss:List Sea) (t:Int) (w:World) (hc:Rd Cel.enc 2 w cA cc cs) (hs:Rd Sea.enc 3 w sA sc ss) (hok:ImgP (cs,ss)) :
  Calls Tryz.prog 153 #[Im.val cA cs.length cc sA ss.length sc, .int .i64 t] w fun e w'=>e = .returned (.int .i64 (valC cs t))/\Ext w w':=by
 have hcl:cs.length<=40:=hok.c.len;have hsl:ss.length<=10:=hok.s.len;have X0:=za1 w (Im.obj cA cs.length cc sA ss.length sc);have D0:=Hd (hNew (w:=w) (o:=Im.obj cA cs.length cc sA ss.length sc) rfl);have hcon:=zfg cA cc cs sA sc ss _ (hc.keep X0) (hs.keep X0) (by omega) (by omega)
 rw [show zbj cs ss=true from hok.ok] at hcon
 have HC:=Hd hcon;have HX0:=Hd X0;have HR:=Hd (hc.keep X0);have HA:=Hd (show AscC cs from hok.c.asc)
 clear hcon X0 hc hs hok
 go_enter Tryz.func153,Tryz.ntmps153
 (go_wp2_with (with_reducible refine za5 6 ?_);refine za6 (D0.out) rfl Tryz.underlying27 (by kernel_rfl) ?_;simp only [Act.put,Sa,Sz,Ss])
 go_wp2_with fail
 refine HC.out.mono ?_;rintro e w1 ⟨rfl,x1⟩;have D1:=Hd (x1.box D0.out);have HR1:=Hd (HR.out.keep x1);have HX1:=Hd (Ext.trans HX0.out x1);clear x1 D0 HR HX0 HC;go_wp2
 go_loopw [5] (fun i wr=>∃ k:Nat,k<=cs.length/\i = .int .i64 k/\Hid (∀ j (h:j < cs.length),j < k->cs[j].key≠t)/\Ext w1 wr) (fun i _=>cs.length - (intOf i).toNat)
 case atStart=>exact ⟨0,Nat.zero_le _,rfl,Hd (fun j hj hk=>absurd hk (by omega)),za4 _⟩
 case round =>
  obtain ⟨k,hk,rfl,HB,X⟩:=hrel;have d1:=za2 (X.box D1.out);have z1:=bx_lt (X.box D1.out);by_cases hlt:k < cs.length
  ·obtain ⟨ab,ao,hA,hab,a0,a1⟩:=(HR1.out.keep X).atCel hlt;subst hA;cases g1:(cs[k].key == t)
   ·have HN:=Hd (show ∀ j (h:j < cs.length),j < k+1->cs[j].key≠t from fun j hj hjk=>by
     by_cases he:j=k
     ·subst he;simpa using g1
     ·exact HB.out j hj (by omega))
    go_wp2
    go_roundw
    case rel=>exact ⟨k+1,by omega,by go_num,Hd HN.out,X⟩
    case measure=>simp [intOf] <;> omega
   ·have HN:=Hd (valC_hit HA.out hlt (by simpa using g1))
    go_wp2
    go_ret
    exact ⟨zc0 HN.out.symm,Ext.trans HX1.out X⟩
  ·obtain rfl:k=cs.length:=by omega
   have HN:=Hd (valC_miss (l:=cs) (t:=t) (fun j hj=>HB.out j hj hj))
   go_wp2
   go_ret
   exact ⟨zc0 HN.out.symm,Ext.trans HX1.out X⟩
theorem c_sSeatOf (cA:Option Addr) (cc:Nat) (cs:List Cel) (sA:Option Addr) (sc:Nat) (ss:List Sea) (t:Int) (w:World) (hc:Rd Cel.enc 2 w cA cc cs) (hs:Rd Sea.enc 3 w sA sc ss) (hok:ImgP (cs,ss)) :
  Calls Tryz.prog 70 #[Im.val cA cs.length cc sA ss.length sc, .int .i64 t] w fun e w'=>(∃ x:Sea,e = .returned (.tuple #[.agg #[.int .i64 x.client, .int .i64 x.req, .int .i64 x.answer], .bool (hasS ss t)])/\(hasS ss t=true->x=zcd ss t))/\Ext w w':=by
 have hcl:cs.length<=40:=hok.c.len;have hsl:ss.length<=10:=hok.s.len;have X0:Ext w ((w.alloc (Im.obj cA cs.length cc sA ss.length sc)).alloc Sea.zobj):=za9 (za1 _ _) _;have D1:=Hd (hOld (o:=Sea.zobj) (hNew (w:=w) (o:=Im.obj cA cs.length cc sA ss.length sc) rfl));have D2:=Hd (hNew (w:=w.alloc (Im.obj cA cs.length cc sA ss.length sc)) (o:=Sea.zobj) (k:=w.heap.size+1) (by simp))
 have HC:=Hd (show ∀ W,Ext ((w.alloc (Im.obj cA cs.length cc sA ss.length sc)).alloc Sea.zobj) W->Calls Tryz.prog 112 #[Im.val cA cs.length cc sA ss.length sc] W fun e w'=>e = .returned (.bool true)/\Ext W w' from fun W h=>by
  have h5:=zfg cA cc cs sA sc ss W (hc.keep (Ext.trans X0 h)) (hs.keep (Ext.trans X0 h)) (by omega) (by omega)
  rw [show zbj cs ss=true from hok.ok] at h5
  exact h5)
 have HX0:=Hd X0;have HR:=Hd (hs.keep X0);have HA:=Hd (show AscS ss from hok.s.asc)
 clear X0 hc hs hok
 go_enter Tryz.func70,Tryz.ntmps70
 go_wp2
 go_loopw [6] (fun i wr=>∃ k:Nat,k<=ss.length/\i = .int .i64 k/\Hid (∀ j (h:j < ss.length),j < k->ss[j].client≠t)/\Ext ((w.alloc (Im.obj cA cs.length cc sA ss.length sc)).alloc Sea.zobj) wr) (fun i _=>ss.length - (intOf i).toNat)
 case atStart=>exact ⟨0,Nat.zero_le _,rfl,Hd (fun j hj hk=>absurd hk (by omega)),za4 _⟩
 case round =>
  obtain ⟨k,hk,rfl,HB,X⟩:=hrel;have HX:=Hd X;have hszr:=X.size;simp only [zag] at hszr;clear X;have d1:=za2 (HX.out.box D1.out);have z1:=bx_lt (HX.out.box D1.out);by_cases hlt:k < ss.length
  ·go_wp2_with fail
   refine (HC.out _ HX.out).mono ?_;rintro e w2 ⟨rfl,x2⟩;have HX2:=Hd (Ext.trans HX.out x2);have hszr2:=x2.size;clear x2 d1 z1 HX;have d1:=za2 (HX2.out.box D1.out);have z1:=bx_lt (HX2.out.box D1.out);obtain ⟨ab,ao,hA,hab,a0,a1,a2⟩:=(HR.out.keep HX2.out).atSea hlt;subst hA;cases g1:(ss[k].client == t)
   ·have HN:=Hd (show ∀ j (h:j < ss.length),j < k+1->ss[j].client≠t from fun j hj hjk=>by
     by_cases he:j=k
     ·subst he;simpa using g1
     ·exact HB.out j hj (by omega))
    go_wp2
    go_roundw
    case rel=>exact ⟨k+1,by omega,by go_num,Hd HN.out,HX2.out⟩
    case measure=>simp [intOf] <;> omega
   ·have HN:=Hd (seat_hit HA.out hlt (by simpa using g1))
    have HS:=Hd (show ss[k]=zcd ss t by unfold zcd;rw [HN.out.1];simp [hlt])
    have E2:=Hd (HX2.out.box D2.out)
    (go_wp2_with (with_reducible refine za8 111 ?_);refine za3 ((w.heap.size+1)) #[.int .i64 ss[k].client, .int .i64 ss[k].req, .int .i64 ss[k].answer] rfl rfl (E2.out) (by kernel_rfl) rfl (by simp [Value.oneCell']) ?_)
    intro W9 e9 k9;have HE9:=Hd e9;have HX9:=Hd (zac (Ext.trans HX0.out HX2.out) k9 (by omega))
    clear e9 k9;go_wp2
    exact bodyPost_ret (zaj Tryz.results70 rfl rfl Tryz.underlying111 (by kernel_rfl) HE9.out) rfl ⟨⟨ss[k],by rw [HN.out.2];rfl,fun _=>HS.out⟩,HX9.out⟩
  ·obtain rfl:k=ss.length:=by omega
   have HN:=Hd (seat_miss (l:=ss) (t:=t) (fun j hj=>HB.out j hj hj))
   have E2:=Hd (HX.out.box D2.out)
   (go_wp2_with (with_reducible refine za8 111 ?_);refine za3 ((w.heap.size+1)) #[.int .i64 0, .int .i64 0, .int .i64 0] rfl rfl (E2.out) (by kernel_rfl) rfl (by simp [Value.oneCell']) ?_)
   intro W9 e9 k9;have HE9:=Hd e9;have HX9:=Hd (zac (Ext.trans HX0.out HX.out) k9 (by omega))
   clear e9 k9;go_wp2
   exact bodyPost_ret (zaj Tryz.results70 rfl rfl Tryz.underlying111 (by kernel_rfl) HE9.out) rfl ⟨⟨Sea.z,by rw [HN.out];rfl,fun h=>by rw [HN.out] at h;cases h⟩,HX9.out⟩
theorem zd5 (A:Option Addr) (c:Nat) (l:List Cel) (t v0:Int) (p0:Bool) (w:World) (ha:Rd Cel.enc 2 w A c l) (hn:l.length<=1000) :
  Calls Tryz.prog 154 #[.slice A l.length c, .int .i64 t, .int .i64 v0, .bool (!p0)] w fun e w'=>∃ A' c',e = .returned (.slice A' (refC t v0 l p0).length c')/\Ow Cel.enc 162 2 w' w.heap.size (.slice A' (refC t v0 l p0).length c') (refC t v0 l p0)/\Ext w w':=by
 obtain ⟨i0,hi,hz0,hz1,hz2⟩:=info_parts Tryz.infoCel;have X0:=za4 w;have HA0:=Hd ha;clear ha
 go_enter Tryz.func154,Tryz.ntmps154
 go_wp2
 go_loopw [9,10,11] (fun v p i wr=>∃ (k:Nat) (o:List Cel) (q:Bool),k<=l.length/\i = .int .i64 k/\p = .bool q/\Hid (o++refC t v0 (l.drop k) q=refC t v0 l p0)/\o.length<=2 * k/\Ow Cel.enc 162 2 wr w.heap.size v o/\Ext w wr) (fun _ _ i _=>l.length - (intOf i).toNat)
 case atStart=>exact ⟨0,[],p0,Nat.zero_le _,rfl,by simp,Hd (by simp),by simp,zd3 (hNew rfl) (by simp),za1 _ _⟩
 case round =>
  obtain ⟨k,o,q,hk,rfl,rfl,HE,hol,ho,X⟩:=hrel;obtain ⟨A1,c1,rfl⟩:=ho.form;have HO:=Hd ho;have HX:=Hd X;have hszr:=X.size
  (try simp only [zag] at hszr)
  clear ho X;by_cases hlt:k < l.length
  ·have HS:=Hd (refC_step t v0 hlt q);obtain ⟨ab,ao,hA,hab,a0,a1⟩:=(HA0.out.keep HX.out).atCel hlt;subst hA;cases q
   ·cases g1:decide (t<=l[k].key)
    ·cases g2:(l[k].key != t)
     ·have HN:=Hd (show o++refC t v0 (l.drop (k+1)) false=refC t v0 l p0 by rw [<-HE.out,HS.out];simp [g1,g2])
      go_wp2
      go_roundw
      case rel=>exact ⟨k+1,o,false,by omega,by go_num,rfl,Hd HN.out,by (try simp);omega,by first | exact HO.out | (have h:=HO.out;simp only [List.append_assoc,List.cons_append,List.nil_append] at h ⊢;exact h),HX.out⟩
      case measure=>simp [intOf] <;> omega
     ·have HN:=Hd (show (o++[l[k]])++refC t v0 (l.drop (k+1)) false=refC t v0 l p0 by rw [<-HE.out,HS.out];simp [g1,g2])
      go_wp2_with (at_builtin;refine zcn (enc:=Cel.enc) rfl _ _ 24 rfl w.heap.size 162 i0 (.agg #[.int .i64 0, .int .i64 0]) 2 16 Tryz.underlying24 hi hz0 hz1 hz2 rfl (by decide) Cel.enc_len Cel.one (.slice A1 o.length c1) o rfl (HO.out.kept (za1 _ _)) (some ⟨wr.heap.size,0,none⟩) 1 [l[k]] 1 rfl rfl (Rd.one (hNew rfl) rfl) ?c1 ?c2 ?c3 ?_)
      case c1=>unfold maxLen;simp;omega
      case c2=>simp;omega
      case c3=>simp;omega
      intro v' w8 ho7 hg7;obtain ⟨A8,c8,rfl⟩:=ho7.form;have hch:=zaz hg7;have HX2:=Hd (zaf (za9 HX.out (.cells #[.int .i64 l[k].key, .int .i64 l[k].value] 162)) hch (fun g hg=>by have:=(HO.out.inB g hg).1;(try simp only [zag]);omega))
      have hszr2:=HX2.out.size
      (try simp only [zag] at hszr2)
      have HO2:=Hd ho7;clear ho7 hg7 hch HO HX;have HO:=Hd HO2.out;have HX:=Hd HX2.out;clear HO2 HX2;go_wp2
      go_roundw
      case rel=>exact ⟨k+1,(o++[l[k]]),false,by omega,by go_num,rfl,Hd HN.out,by (try simp);omega,by first | exact HO.out | (have h:=HO.out;simp only [List.append_assoc,List.cons_append,List.nil_append] at h ⊢;exact h),HX.out⟩
      case measure=>simp [intOf] <;> omega
    ·go_wp2_with (at_builtin;refine zcn (enc:=Cel.enc) rfl _ _ 24 rfl w.heap.size 162 i0 (.agg #[.int .i64 0, .int .i64 0]) 2 16 Tryz.underlying24 hi hz0 hz1 hz2 rfl (by decide) Cel.enc_len Cel.one (.slice A1 o.length c1) o rfl (HO.out.kept (za1 _ _)) (some ⟨wr.heap.size,0,none⟩) 1 [(⟨t,v0⟩:Cel)] 1 rfl rfl (Rd.one (hNew rfl) rfl) ?c1 ?c2 ?c3 ?_)
     case c1=>unfold maxLen;simp;omega
     case c2=>simp;omega
     case c3=>simp;omega
     intro v' w7 ho7 hg7;obtain ⟨A7,c7,rfl⟩:=ho7.form;have hch:=zaz hg7;have HX2:=Hd (zaf (za9 HX.out (.cells #[.int .i64 t, .int .i64 v0] 162)) hch (fun g hg=>by have:=(HO.out.inB g hg).1;(try simp only [zag]);omega))
     have hszr2:=HX2.out.size
     (try simp only [zag] at hszr2)
     have HO2:=Hd ho7;clear ho7 hg7 hch HO HX;have HO:=Hd HO2.out;have HX:=Hd HX2.out;clear HO2 HX2;cases g2:(l[k].key != t)
     ·have HN:=Hd (show (o++[(⟨t,v0⟩:Cel)])++refC t v0 (l.drop (k+1)) true=refC t v0 l p0 by rw [<-HE.out,HS.out];simp [g1,g2])
      obtain ⟨ab1,ao2,hA2,hab2,b3,b4⟩:=(HA0.out.keep HX.out).atCel hlt;simp only [Option.some.injEq,Addr.mk.injEq,and_true] at hA2;obtain ⟨rfl,rfl⟩:=hA2;go_wp2
      go_roundw
      case rel=>exact ⟨k+1,(o++[(⟨t,v0⟩:Cel)]),true,by omega,by go_num,rfl,Hd HN.out,by (try simp);omega,by first | exact HO.out | (have h:=HO.out;simp only [List.append_assoc,List.cons_append,List.nil_append] at h ⊢;exact h),HX.out⟩
      case measure=>simp [intOf] <;> omega
     ·have HN:=Hd (show ((o++[(⟨t,v0⟩:Cel)])++[l[k]])++refC t v0 (l.drop (k+1)) true=refC t v0 l p0 by rw [<-HE.out,HS.out];simp [g1,g2])
      obtain ⟨ab5,ao6,hA2,hab2,b7,b8⟩:=(HA0.out.keep HX.out).atCel hlt;simp only [Option.some.injEq,Addr.mk.injEq,and_true] at hA2;obtain ⟨rfl,rfl⟩:=hA2;go_wp2_with (at_builtin;refine zcn (enc:=Cel.enc) rfl _ _ 24 rfl w.heap.size 162 i0 (.agg #[.int .i64 0, .int .i64 0]) 2 16 Tryz.underlying24 hi hz0 hz1 hz2 rfl (by decide) Cel.enc_len Cel.one (.slice A7 (o++[(⟨t,v0⟩:Cel)]).length c7) (o++[(⟨t,v0⟩:Cel)]) rfl (HO.out.kept (za1 _ _)) (some ⟨w7.heap.size,0,none⟩) 1 [l[k]] 1 rfl rfl (Rd.one (hNew rfl) rfl) ?c1 ?c2 ?c3 ?_)
      case c1=>unfold maxLen;simp;omega
      case c2=>simp;omega
      case c3=>simp;omega
      intro v' w8 ho7 hg7;obtain ⟨A8,c8,rfl⟩:=ho7.form;have hch:=zaz hg7;have HX2:=Hd (zaf (za9 HX.out (.cells #[.int .i64 l[k].key, .int .i64 l[k].value] 162)) hch (fun g hg=>by have:=(HO.out.inB g hg).1;(try simp only [zag]);omega))
      have hszr2:=HX2.out.size
      (try simp only [zag] at hszr2)
      have HO2:=Hd ho7;clear ho7 hg7 hch HO HX;have HO:=Hd HO2.out;have HX:=Hd HX2.out;clear HO2 HX2;go_wp2
      go_roundw
      case rel=>exact ⟨k+1,((o++[(⟨t,v0⟩:Cel)])++[l[k]]),true,by omega,by go_num,rfl,Hd HN.out,by (try simp);omega,by first | exact HO.out | (have h:=HO.out;simp only [List.append_assoc,List.cons_append,List.nil_append] at h ⊢;exact h),HX.out⟩
      case measure=>simp [intOf] <;> omega
   ·cases g2:(l[k].key != t)
    ·have HN:=Hd (show o++refC t v0 (l.drop (k+1)) true=refC t v0 l p0 by rw [<-HE.out,HS.out];simp [g2])
     go_wp2
     go_roundw
     case rel=>exact ⟨k+1,o,true,by omega,by go_num,rfl,Hd HN.out,by (try simp);omega,by first | exact HO.out | (have h:=HO.out;simp only [List.append_assoc,List.cons_append,List.nil_append] at h ⊢;exact h),HX.out⟩
     case measure=>simp [intOf] <;> omega
    ·have HN:=Hd (show (o++[l[k]])++refC t v0 (l.drop (k+1)) true=refC t v0 l p0 by rw [<-HE.out,HS.out];simp [g2])
     go_wp2_with (at_builtin;refine zcn (enc:=Cel.enc) rfl _ _ 24 rfl w.heap.size 162 i0 (.agg #[.int .i64 0, .int .i64 0]) 2 16 Tryz.underlying24 hi hz0 hz1 hz2 rfl (by decide) Cel.enc_len Cel.one (.slice A1 o.length c1) o rfl (HO.out.kept (za1 _ _)) (some ⟨wr.heap.size,0,none⟩) 1 [l[k]] 1 rfl rfl (Rd.one (hNew rfl) rfl) ?c1 ?c2 ?c3 ?_)
     case c1=>unfold maxLen;simp;omega
     case c2=>simp;omega
     case c3=>simp;omega
     intro v' w8 ho7 hg7;obtain ⟨A8,c8,rfl⟩:=ho7.form;have hch:=zaz hg7;have HX2:=Hd (zaf (za9 HX.out (.cells #[.int .i64 l[k].key, .int .i64 l[k].value] 162)) hch (fun g hg=>by have:=(HO.out.inB g hg).1;(try simp only [zag]);omega))
     have hszr2:=HX2.out.size
     (try simp only [zag] at hszr2)
     have HO2:=Hd ho7;clear ho7 hg7 hch HO HX;have HO:=Hd HO2.out;have HX:=Hd HX2.out;clear HO2 HX2;go_wp2
     go_roundw
     case rel=>exact ⟨k+1,(o++[l[k]]),true,by omega,by go_num,rfl,Hd HN.out,by (try simp);omega,by first | exact HO.out | (have h:=HO.out;simp only [List.append_assoc,List.cons_append,List.nil_append] at h ⊢;exact h),HX.out⟩
     case measure=>simp [intOf] <;> omega
  ·obtain rfl:k=l.length:=by omega
   cases q
   ·have HN:=Hd (show o++[(⟨t,v0⟩:Cel)]=refC t v0 l p0 by rw [<-HE.out];simp [refC])
    go_wp2_with (at_builtin;refine zcn (enc:=Cel.enc) rfl _ _ 24 rfl w.heap.size 162 i0 (.agg #[.int .i64 0, .int .i64 0]) 2 16 Tryz.underlying24 hi hz0 hz1 hz2 rfl (by decide) Cel.enc_len Cel.one (.slice A1 o.length c1) o rfl (HO.out.kept (za1 _ _)) (some ⟨wr.heap.size,0,none⟩) 1 [(⟨t,v0⟩:Cel)] 1 rfl rfl (Rd.one (hNew rfl) rfl) ?c1 ?c2 ?c3 ?_)
    case c1=>unfold maxLen;simp;omega
    case c2=>simp;omega
    case c3=>simp;omega
    intro v' w8 ho7 hg7;obtain ⟨A8,c8,rfl⟩:=ho7.form;have hch:=zaz hg7;have HX2:=Hd (zaf (za9 HX.out (.cells #[.int .i64 t, .int .i64 v0] 162)) hch (fun g hg=>by have:=(HO.out.inB g hg).1;(try simp only [zag]);omega))
    have hszr2:=HX2.out.size
    (try simp only [zag] at hszr2)
    have HO2:=Hd ho7;clear ho7 hg7 hch HO HX;have HO:=Hd HO2.out;have HX:=Hd HX2.out;clear HO2 HX2;go_wp2
    go_ret
    exact ⟨A8,c8,by rw [<-HN.out];first | rfl | simp,by rw [<-HN.out];exact HO.out.less (by omega),Ext.trans X0 HX.out⟩
   ·have HN:=Hd (show o=refC t v0 l p0 by rw [<-HE.out];simp [refC])
    go_wp2
    go_ret
    exact ⟨A1,c1,by rw [<-HN.out];rfl,by rw [<-HN.out];exact HO.out.less (by omega),Ext.trans X0 HX.out⟩
theorem zf8 (A:Option Addr) (c:Nat) (l:List Sea) (s:Sea) (w:World) (ha:Rd Sea.enc 3 w A c l) (hn:l.length<=1000) :
  Calls Tryz.prog 118 #[.slice A l.length c, .agg #[.int .i64 s.client, .int .i64 s.req, .int .i64 s.answer]] w fun e w'=>∃ A' c',e = .returned (.slice A' (refS s l false).length c')/\Ow Sea.enc 111 3 w' w.heap.size (.slice A' (refS s l false).length c') (refS s l false)/\Ext w w':=by
 obtain ⟨i0,hi,hz0,hz1,hz2⟩:=info_parts Tryz.infoSea;obtain ⟨p0,HP0⟩:∃ p0,Hid (p0=false):=⟨_,Hd rfl⟩;rw [<-HP0.out];have X0:Ext w (w.alloc (.cells #[.int .i64 s.client, .int .i64 s.req, .int .i64 s.answer] 111)):=za1 _ _;have D1:=Hd (hNew (w:=w) (o := .cells #[.int .i64 s.client, .int .i64 s.req, .int .i64 s.answer] 111) rfl);have HA0:=Hd (ha.keep X0);clear ha
 go_enter Tryz.func118,Tryz.ntmps118
 go_wp2
 go_loopw [5,6,7] (fun v p i wr=>∃ (k:Nat) (o:List Sea) (q:Bool),k<=l.length/\i = .int .i64 k/\p = .bool q/\Hid (o++refS s (l.drop k) q=refS s l p0)/\o.length<=2 * k/\Ow Sea.enc 111 3 wr (w.heap.size+1) v o/\Ext (w.alloc (.cells #[.int .i64 s.client, .int .i64 s.req, .int .i64 s.answer] 111)) wr) (fun _ _ i _=>l.length - (intOf i).toNat)
 case atStart=>exact ⟨0,[],p0,Nat.zero_le _,rfl,by rw [HP0.out],Hd (by simp),by simp,zd3 (hNew (by simp)) (by simp),za1 _ _⟩
 case round =>
  obtain ⟨k,o,q,hk,rfl,rfl,HE,hol,ho,X⟩:=hrel;obtain ⟨A1,c1,rfl⟩:=ho.form;have HO:=Hd ho;have HX:=Hd X;have hszr:=X.size
  (try simp only [zag] at hszr)
  clear ho X;have d1:=za2 (HX.out.box D1.out);have z1:=bx_lt (HX.out.box D1.out);by_cases hlt:k < l.length
  ·have HS:=Hd (refS_step s hlt q);obtain ⟨ab,ao,hA,hab,a0,a1,a2⟩:=(HA0.out.keep HX.out).atSea hlt;subst hA;cases q
   ·cases g1:decide (s.client<=l[k].client)
    ·go_wp2
     (refine mrg (relE wr.heap.size) (fun _ _ _=>True) 12 ?_;simp only [Tc,Tz,Dc,Dz])
     (iterate 7 (refine mpl ?_;go_big_quiet_step (fail);refine mnil ?_))
     (refine ml1 (fun W9' h9=>show W9'.cell? _=some (.int .i64 l[k].client) from (Below.cell (show Ext _ _ from h9) (p:=⟨ab,ao+k * 3,none⟩) hab).trans a0) Tryz.underlying3 ?_;simp only [Act.put,Sa,Sz,Ss])
     (refine mpl ?_;go_big_quiet_step (fail);refine mnil ?_)
     (refine ml1 (fun W9' h9=>show W9'.cell? _=some (.int .i64 s.client) from za2 (Ext.box h9 (HX.out.box D1.out)) 0) Tryz.underlying3 ?_;simp only [Act.put,Sa,Sz,Ss])
     (refine mpl ?_;go_big_quiet_step (fail);refine mnil ?_)
     (try simp only [g1])
     (refine mpl ?_;go_big_quiet_step (fail);refine mnil ?_)
     refine Rm.wpMix_nil ?_;rintro wm1 hW;have x:Ext wr wm1:=hW;have HO2:=Hd (HO.out.kept x);have HX2:=Hd (Ext.trans HX.out x);have hzwm1:=x.size;clear x hW HO HX;have HO:=Hd HO2.out;have HX:=Hd HX2.out;clear HO2 HX2;obtain ⟨ab2,ao3,hA2,hab2,b4,b5,b6⟩:=(HA0.out.keep HX.out).atSea hlt;simp only [Option.some.injEq,Addr.mk.injEq,and_true] at hA2;obtain ⟨rfl,rfl⟩:=hA2;have d1:=za2 (HX.out.box D1.out);have z1:=bx_lt (HX.out.box D1.out);cases g2:(l[k].client != s.client)
     ·have HN:=Hd (show o++refS s (l.drop (k+1)) false=refS s l p0 by rw [<-HE.out,HS.out];simp [g1,g2])
      obtain ⟨ab19,ao20,hA2,hab2,b21,b22,b23⟩:=(HA0.out.keep HX.out).atSea hlt;simp only [Option.some.injEq,Addr.mk.injEq,and_true] at hA2;obtain ⟨rfl,rfl⟩:=hA2;go_wp2
      (refine mrg (relE wm1.heap.size) (fun _ _ _=>True) 8 ?_;simp only [Tc,Tz,Dc,Dz])
      (iterate 4 (refine mpl ?_;go_big_quiet_step (fail);refine mnil ?_))
      (refine ml1 (fun W9' h9=>show W9'.cell? _=some (.int .i64 l[k].client) from (Below.cell (show Ext _ _ from h9) (p:=⟨ab,ao+k * 3,none⟩) hab2).trans b21) Tryz.underlying3 ?_;simp only [Act.put,Sa,Sz,Ss])
      (refine mpl ?_;go_big_quiet_step (fail);refine mnil ?_)
      (refine ml1 (fun W9' h9=>show W9'.cell? _=some (.int .i64 s.client) from za2 (Ext.box h9 (HX.out.box D1.out)) 0) Tryz.underlying3 ?_;simp only [Act.put,Sa,Sz,Ss])
      (refine mpl ?_;go_big_quiet_step (fail);refine mnil ?_)
      refine Rm.wpMix_nil ?_;rintro wm24 hW;have x:Ext wm1 wm24:=hW;have HO2:=Hd (HO.out.kept x);have HX2:=Hd (Ext.trans HX.out x);have hzwm24:=x.size;clear x hW HO HX;have HO:=Hd HO2.out;have HX:=Hd HX2.out;clear HO2 HX2;obtain ⟨ab25,ao26,hA2,hab2,b27,b28,b29⟩:=(HA0.out.keep HX.out).atSea hlt;simp only [Option.some.injEq,Addr.mk.injEq,and_true] at hA2;obtain ⟨rfl,rfl⟩:=hA2;have d1:=za2 (HX.out.box D1.out);have z1:=bx_lt (HX.out.box D1.out);go_wp2
      go_roundw
      case rel=>exact ⟨k+1,o,false,by omega,by go_num,rfl,Hd HN.out,by (try simp);omega,by first | exact HO.out | (have h:=HO.out;simp only [List.append_assoc,List.cons_append,List.nil_append] at h ⊢;exact h),HX.out⟩
      case measure=>simp [intOf] <;> omega
     ·have HN:=Hd (show (o++[l[k]])++refS s (l.drop (k+1)) false=refS s l p0 by rw [<-HE.out,HS.out];simp [g1,g2])
      obtain ⟨ab30,ao31,hA2,hab2,b32,b33,b34⟩:=(HA0.out.keep HX.out).atSea hlt;simp only [Option.some.injEq,Addr.mk.injEq,and_true] at hA2;obtain ⟨rfl,rfl⟩:=hA2;go_wp2
      (refine mrg (relE wm1.heap.size) (fun _ _ _=>True) 8 ?_;simp only [Tc,Tz,Dc,Dz])
      (iterate 4 (refine mpl ?_;go_big_quiet_step (fail);refine mnil ?_))
      (refine ml1 (fun W9' h9=>show W9'.cell? _=some (.int .i64 l[k].client) from (Below.cell (show Ext _ _ from h9) (p:=⟨ab,ao+k * 3,none⟩) hab2).trans b32) Tryz.underlying3 ?_;simp only [Act.put,Sa,Sz,Ss])
      (refine mpl ?_;go_big_quiet_step (fail);refine mnil ?_)
      (refine ml1 (fun W9' h9=>show W9'.cell? _=some (.int .i64 s.client) from za2 (Ext.box h9 (HX.out.box D1.out)) 0) Tryz.underlying3 ?_;simp only [Act.put,Sa,Sz,Ss])
      (refine mpl ?_;go_big_quiet_step (fail);refine mnil ?_)
      refine Rm.wpMix_nil ?_;rintro wm35 hW;have x:Ext wm1 wm35:=hW;have HO2:=Hd (HO.out.kept x);have HX2:=Hd (Ext.trans HX.out x);have hzwm35:=x.size;clear x hW HO HX;have HO:=Hd HO2.out;have HX:=Hd HX2.out;clear HO2 HX2;obtain ⟨ab36,ao37,hA2,hab2,b38,b39,b40⟩:=(HA0.out.keep HX.out).atSea hlt;simp only [Option.some.injEq,Addr.mk.injEq,and_true] at hA2;obtain ⟨rfl,rfl⟩:=hA2;have d1:=za2 (HX.out.box D1.out);have z1:=bx_lt (HX.out.box D1.out);go_wp2_with (at_builtin;refine zcn (enc:=Sea.enc) rfl _ _ 25 rfl (w.heap.size+1) 111 i0 (.agg #[.int .i64 0, .int .i64 0, .int .i64 0]) 3 24 Tryz.underlying25 hi hz0 hz1 hz2 rfl (by decide) Sea.enc_len Sea.one (.slice A1 o.length c1) o rfl (HO.out.kept (za1 _ _)) (some ⟨wm35.heap.size,0,none⟩) 1 [l[k]] 1 rfl rfl (Rd.one (hNew rfl) rfl) ?c1 ?c2 ?c3 ?_)
      case c1=>unfold maxLen;simp;omega
      case c2=>simp;omega
      case c3=>simp;omega
      intro v' w8 ho7 hg7;obtain ⟨A8,c8,rfl⟩:=ho7.form;have hch:=zaz hg7;have HX2:=Hd (zaf (za9 HX.out (.cells #[.int .i64 l[k].client, .int .i64 l[k].req, .int .i64 l[k].answer] 111)) hch (fun g hg=>by have:=(HO.out.inB g hg).1;(try simp only [zag]);omega))
      have hszr2:=HX2.out.size
      (try simp only [zag] at hszr2)
      have HO2:=Hd ho7;clear ho7 hg7 hch HO HX;have HO:=Hd HO2.out;have HX:=Hd HX2.out;clear HO2 HX2;go_wp2
      go_roundw
      case rel=>exact ⟨k+1,(o++[l[k]]),false,by omega,by go_num,rfl,Hd HN.out,by (try simp);omega,by first | exact HO.out | (have h:=HO.out;simp only [List.append_assoc,List.cons_append,List.nil_append] at h ⊢;exact h),HX.out⟩
      case measure=>simp [intOf] <;> omega
    ·go_wp2
     (refine mrg (relE wr.heap.size) (fun _ _ _=>True) 12 ?_;simp only [Tc,Tz,Dc,Dz])
     (iterate 7 (refine mpl ?_;go_big_quiet_step (fail);refine mnil ?_))
     (refine ml1 (fun W9' h9=>show W9'.cell? _=some (.int .i64 l[k].client) from (Below.cell (show Ext _ _ from h9) (p:=⟨ab,ao+k * 3,none⟩) hab).trans a0) Tryz.underlying3 ?_;simp only [Act.put,Sa,Sz,Ss])
     (refine mpl ?_;go_big_quiet_step (fail);refine mnil ?_)
     (refine ml1 (fun W9' h9=>show W9'.cell? _=some (.int .i64 s.client) from za2 (Ext.box h9 (HX.out.box D1.out)) 0) Tryz.underlying3 ?_;simp only [Act.put,Sa,Sz,Ss])
     (refine mpl ?_;go_big_quiet_step (fail);refine mnil ?_)
     (try simp only [g1])
     (refine mpl ?_;go_big_quiet_step (fail);refine mnil ?_)
     refine Rm.wpMix_nil ?_;rintro wm7 hW;have x:Ext wr wm7:=hW;have HO2:=Hd (HO.out.kept x);have HX2:=Hd (Ext.trans HX.out x);have hzwm7:=x.size;clear x hW HO HX;have HO:=Hd HO2.out;have HX:=Hd HX2.out;clear HO2 HX2;obtain ⟨ab8,ao9,hA2,hab2,b10,b11,b12⟩:=(HA0.out.keep HX.out).atSea hlt;simp only [Option.some.injEq,Addr.mk.injEq,and_true] at hA2;obtain ⟨rfl,rfl⟩:=hA2;have d1:=za2 (HX.out.box D1.out);have z1:=bx_lt (HX.out.box D1.out);go_wp2_with (at_builtin;refine zcn (enc:=Sea.enc) rfl _ _ 25 rfl (w.heap.size+1) 111 i0 (.agg #[.int .i64 0, .int .i64 0, .int .i64 0]) 3 24 Tryz.underlying25 hi hz0 hz1 hz2 rfl (by decide) Sea.enc_len Sea.one (.slice A1 o.length c1) o rfl (HO.out.kept (za1 _ _)) (some ⟨wm7.heap.size,0,none⟩) 1 [s] 1 rfl rfl (Rd.one (hNew rfl) rfl) ?c1 ?c2 ?c3 ?_)
     case c1=>unfold maxLen;simp;omega
     case c2=>simp;omega
     case c3=>simp;omega
     intro v' w7 ho7 hg7;obtain ⟨A7,c7,rfl⟩:=ho7.form;have hch:=zaz hg7;have HX2:=Hd (zaf (za9 HX.out (.cells #[.int .i64 s.client, .int .i64 s.req, .int .i64 s.answer] 111)) hch (fun g hg=>by have:=(HO.out.inB g hg).1;(try simp only [zag]);omega))
     have hszr2:=HX2.out.size
     (try simp only [zag] at hszr2)
     have HO2:=Hd ho7;clear ho7 hg7 hch HO HX;have HO:=Hd HO2.out;have HX:=Hd HX2.out;clear HO2 HX2;cases g2:(l[k].client != s.client)
     ·have HN:=Hd (show (o++[s])++refS s (l.drop (k+1)) true=refS s l p0 by rw [<-HE.out,HS.out];simp [g1,g2])
      obtain ⟨ab41,ao42,hA2,hab2,b43,b44,b45⟩:=(HA0.out.keep HX.out).atSea hlt;simp only [Option.some.injEq,Addr.mk.injEq,and_true] at hA2;obtain ⟨rfl,rfl⟩:=hA2;go_wp2
      (refine mrg (relE w7.heap.size) (fun _ _ _=>True) 8 ?_;simp only [Tc,Tz,Dc,Dz])
      (iterate 4 (refine mpl ?_;go_big_quiet_step (fail);refine mnil ?_))
      (refine ml1 (fun W9' h9=>show W9'.cell? _=some (.int .i64 l[k].client) from (Below.cell (show Ext _ _ from h9) (p:=⟨ab,ao+k * 3,none⟩) hab2).trans b43) Tryz.underlying3 ?_;simp only [Act.put,Sa,Sz,Ss])
      (refine mpl ?_;go_big_quiet_step (fail);refine mnil ?_)
      (refine ml1 (fun W9' h9=>show W9'.cell? _=some (.int .i64 s.client) from za2 (Ext.box h9 (HX.out.box D1.out)) 0) Tryz.underlying3 ?_;simp only [Act.put,Sa,Sz,Ss])
      (refine mpl ?_;go_big_quiet_step (fail);refine mnil ?_)
      refine Rm.wpMix_nil ?_;rintro wm46 hW;have x:Ext w7 wm46:=hW;have HO2:=Hd (HO.out.kept x);have HX2:=Hd (Ext.trans HX.out x);have hzwm46:=x.size;clear x hW HO HX;have HO:=Hd HO2.out;have HX:=Hd HX2.out;clear HO2 HX2;obtain ⟨ab47,ao48,hA2,hab2,b49,b50,b51⟩:=(HA0.out.keep HX.out).atSea hlt;simp only [Option.some.injEq,Addr.mk.injEq,and_true] at hA2;obtain ⟨rfl,rfl⟩:=hA2;have d1:=za2 (HX.out.box D1.out);have z1:=bx_lt (HX.out.box D1.out);go_wp2
      go_roundw
      case rel=>exact ⟨k+1,(o++[s]),true,by omega,by go_num,rfl,Hd HN.out,by (try simp);omega,by first | exact HO.out | (have h:=HO.out;simp only [List.append_assoc,List.cons_append,List.nil_append] at h ⊢;exact h),HX.out⟩
      case measure=>simp [intOf] <;> omega
     ·have HN:=Hd (show ((o++[s])++[l[k]])++refS s (l.drop (k+1)) true=refS s l p0 by rw [<-HE.out,HS.out];simp [g1,g2])
      obtain ⟨ab52,ao53,hA2,hab2,b54,b55,b56⟩:=(HA0.out.keep HX.out).atSea hlt;simp only [Option.some.injEq,Addr.mk.injEq,and_true] at hA2;obtain ⟨rfl,rfl⟩:=hA2;go_wp2
      (refine mrg (relE w7.heap.size) (fun _ _ _=>True) 8 ?_;simp only [Tc,Tz,Dc,Dz])
      (iterate 4 (refine mpl ?_;go_big_quiet_step (fail);refine mnil ?_))
      (refine ml1 (fun W9' h9=>show W9'.cell? _=some (.int .i64 l[k].client) from (Below.cell (show Ext _ _ from h9) (p:=⟨ab,ao+k * 3,none⟩) hab2).trans b54) Tryz.underlying3 ?_;simp only [Act.put,Sa,Sz,Ss])
      (refine mpl ?_;go_big_quiet_step (fail);refine mnil ?_)
      (refine ml1 (fun W9' h9=>show W9'.cell? _=some (.int .i64 s.client) from za2 (Ext.box h9 (HX.out.box D1.out)) 0) Tryz.underlying3 ?_;simp only [Act.put,Sa,Sz,Ss])
      (refine mpl ?_;go_big_quiet_step (fail);refine mnil ?_)
      refine Rm.wpMix_nil ?_;rintro wm57 hW;have x:Ext w7 wm57:=hW;have HO2:=Hd (HO.out.kept x);have HX2:=Hd (Ext.trans HX.out x);have hzwm57:=x.size;clear x hW HO HX;have HO:=Hd HO2.out;have HX:=Hd HX2.out;clear HO2 HX2;obtain ⟨ab58,ao59,hA2,hab2,b60,b61,b62⟩:=(HA0.out.keep HX.out).atSea hlt;simp only [Option.some.injEq,Addr.mk.injEq,and_true] at hA2;obtain ⟨rfl,rfl⟩:=hA2;have d1:=za2 (HX.out.box D1.out);have z1:=bx_lt (HX.out.box D1.out);go_wp2_with (at_builtin;refine zcn (enc:=Sea.enc) rfl _ _ 25 rfl (w.heap.size+1) 111 i0 (.agg #[.int .i64 0, .int .i64 0, .int .i64 0]) 3 24 Tryz.underlying25 hi hz0 hz1 hz2 rfl (by decide) Sea.enc_len Sea.one (.slice A7 (o++[s]).length c7) (o++[s]) rfl (HO.out.kept (za1 _ _)) (some ⟨wm57.heap.size,0,none⟩) 1 [l[k]] 1 rfl rfl (Rd.one (hNew rfl) rfl) ?c1 ?c2 ?c3 ?_)
      case c1=>unfold maxLen;simp;omega
      case c2=>simp;omega
      case c3=>simp;omega
      intro v' w8 ho7 hg7;obtain ⟨A8,c8,rfl⟩:=ho7.form;have hch:=zaz hg7;have HX2:=Hd (zaf (za9 HX.out (.cells #[.int .i64 l[k].client, .int .i64 l[k].req, .int .i64 l[k].answer] 111)) hch (fun g hg=>by have:=(HO.out.inB g hg).1;(try simp only [zag]);omega))
      have hszr2:=HX2.out.size
      (try simp only [zag] at hszr2)
      have HO2:=Hd ho7;clear ho7 hg7 hch HO HX;have HO:=Hd HO2.out;have HX:=Hd HX2.out;clear HO2 HX2;go_wp2
      go_roundw
      case rel=>exact ⟨k+1,((o++[s])++[l[k]]),true,by omega,by go_num,rfl,Hd HN.out,by (try simp);omega,by first | exact HO.out | (have h:=HO.out;simp only [List.append_assoc,List.cons_append,List.nil_append] at h ⊢;exact h),HX.out⟩
      case measure=>simp [intOf] <;> omega
   ·go_wp2
    (refine mrg (relE wr.heap.size) (fun _ _ _=>True) 12 ?_;simp only [Tc,Tz,Dc,Dz])
    (iterate 3 (refine mpl ?_;go_big_quiet_step (fail);refine mnil ?_))
    (iterate 8 (refine msk ?_;simp only [Act.put,Sa,Sz,Ss]))
    (refine mpl ?_;go_big_quiet_step (fail);refine mnil ?_)
    refine Rm.wpMix_nil ?_;rintro wm13 hW;have x:Ext wr wm13:=hW;have HO2:=Hd (HO.out.kept x);have HX2:=Hd (Ext.trans HX.out x);have hzwm13:=x.size;clear x hW HO HX;have HO:=Hd HO2.out;have HX:=Hd HX2.out;clear HO2 HX2;obtain ⟨ab14,ao15,hA2,hab2,b16,b17,b18⟩:=(HA0.out.keep HX.out).atSea hlt;simp only [Option.some.injEq,Addr.mk.injEq,and_true] at hA2;obtain ⟨rfl,rfl⟩:=hA2;have d1:=za2 (HX.out.box D1.out);have z1:=bx_lt (HX.out.box D1.out);cases g2:(l[k].client != s.client)
    ·have HN:=Hd (show o++refS s (l.drop (k+1)) true=refS s l p0 by rw [<-HE.out,HS.out];simp [g2])
     obtain ⟨ab63,ao64,hA2,hab2,b65,b66,b67⟩:=(HA0.out.keep HX.out).atSea hlt;simp only [Option.some.injEq,Addr.mk.injEq,and_true] at hA2;obtain ⟨rfl,rfl⟩:=hA2;go_wp2
     (refine mrg (relE wm13.heap.size) (fun _ _ _=>True) 8 ?_;simp only [Tc,Tz,Dc,Dz])
     (iterate 4 (refine mpl ?_;go_big_quiet_step (fail);refine mnil ?_))
     (refine ml1 (fun W9' h9=>show W9'.cell? _=some (.int .i64 l[k].client) from (Below.cell (show Ext _ _ from h9) (p:=⟨ab,ao+k * 3,none⟩) hab2).trans b65) Tryz.underlying3 ?_;simp only [Act.put,Sa,Sz,Ss])
     (refine mpl ?_;go_big_quiet_step (fail);refine mnil ?_)
     (refine ml1 (fun W9' h9=>show W9'.cell? _=some (.int .i64 s.client) from za2 (Ext.box h9 (HX.out.box D1.out)) 0) Tryz.underlying3 ?_;simp only [Act.put,Sa,Sz,Ss])
     (refine mpl ?_;go_big_quiet_step (fail);refine mnil ?_)
     refine Rm.wpMix_nil ?_;rintro wm68 hW;have x:Ext wm13 wm68:=hW;have HO2:=Hd (HO.out.kept x);have HX2:=Hd (Ext.trans HX.out x);have hzwm68:=x.size;clear x hW HO HX;have HO:=Hd HO2.out;have HX:=Hd HX2.out;clear HO2 HX2;obtain ⟨ab69,ao70,hA2,hab2,b71,b72,b73⟩:=(HA0.out.keep HX.out).atSea hlt;simp only [Option.some.injEq,Addr.mk.injEq,and_true] at hA2;obtain ⟨rfl,rfl⟩:=hA2;have d1:=za2 (HX.out.box D1.out);have z1:=bx_lt (HX.out.box D1.out);go_wp2
     go_roundw
     case rel=>exact ⟨k+1,o,true,by omega,by go_num,rfl,Hd HN.out,by (try simp);omega,by first | exact HO.out | (have h:=HO.out;simp only [List.append_assoc,List.cons_append,List.nil_append] at h ⊢;exact h),HX.out⟩
     case measure=>simp [intOf] <;> omega
    ·have HN:=Hd (show (o++[l[k]])++refS s (l.drop (k+1)) true=refS s l p0 by rw [<-HE.out,HS.out];simp [g2])
     obtain ⟨ab74,ao75,hA2,hab2,b76,b77,b78⟩:=(HA0.out.keep HX.out).atSea hlt;simp only [Option.some.injEq,Addr.mk.injEq,and_true] at hA2;obtain ⟨rfl,rfl⟩:=hA2;go_wp2
     (refine mrg (relE wm13.heap.size) (fun _ _ _=>True) 8 ?_;simp only [Tc,Tz,Dc,Dz])
     (iterate 4 (refine mpl ?_;go_big_quiet_step (fail);refine mnil ?_))
     (refine ml1 (fun W9' h9=>show W9'.cell? _=some (.int .i64 l[k].client) from (Below.cell (show Ext _ _ from h9) (p:=⟨ab,ao+k * 3,none⟩) hab2).trans b76) Tryz.underlying3 ?_;simp only [Act.put,Sa,Sz,Ss])
     (refine mpl ?_;go_big_quiet_step (fail);refine mnil ?_)
     (refine ml1 (fun W9' h9=>show W9'.cell? _=some (.int .i64 s.client) from za2 (Ext.box h9 (HX.out.box D1.out)) 0) Tryz.underlying3 ?_;simp only [Act.put,Sa,Sz,Ss])
     (refine mpl ?_;go_big_quiet_step (fail);refine mnil ?_)
     refine Rm.wpMix_nil ?_;rintro wm79 hW;have x:Ext wm13 wm79:=hW;have HO2:=Hd (HO.out.kept x);have HX2:=Hd (Ext.trans HX.out x);have hzwm79:=x.size;clear x hW HO HX;have HO:=Hd HO2.out;have HX:=Hd HX2.out;clear HO2 HX2;obtain ⟨ab80,ao81,hA2,hab2,b82,b83,b84⟩:=(HA0.out.keep HX.out).atSea hlt;simp only [Option.some.injEq,Addr.mk.injEq,and_true] at hA2;obtain ⟨rfl,rfl⟩:=hA2;have d1:=za2 (HX.out.box D1.out);have z1:=bx_lt (HX.out.box D1.out);go_wp2_with (at_builtin;refine zcn (enc:=Sea.enc) rfl _ _ 25 rfl (w.heap.size+1) 111 i0 (.agg #[.int .i64 0, .int .i64 0, .int .i64 0]) 3 24 Tryz.underlying25 hi hz0 hz1 hz2 rfl (by decide) Sea.enc_len Sea.one (.slice A1 o.length c1) o rfl (HO.out.kept (za1 _ _)) (some ⟨wm79.heap.size,0,none⟩) 1 [l[k]] 1 rfl rfl (Rd.one (hNew rfl) rfl) ?c1 ?c2 ?c3 ?_)
     case c1=>unfold maxLen;simp;omega
     case c2=>simp;omega
     case c3=>simp;omega
     intro v' w8 ho7 hg7;obtain ⟨A8,c8,rfl⟩:=ho7.form;have hch:=zaz hg7;have HX2:=Hd (zaf (za9 HX.out (.cells #[.int .i64 l[k].client, .int .i64 l[k].req, .int .i64 l[k].answer] 111)) hch (fun g hg=>by have:=(HO.out.inB g hg).1;(try simp only [zag]);omega))
     have hszr2:=HX2.out.size
     (try simp only [zag] at hszr2)
     have HO2:=Hd ho7;clear ho7 hg7 hch HO HX;have HO:=Hd HO2.out;have HX:=Hd HX2.out;clear HO2 HX2;go_wp2
     go_roundw
     case rel=>exact ⟨k+1,(o++[l[k]]),true,by omega,by go_num,rfl,Hd HN.out,by (try simp);omega,by first | exact HO.out | (have h:=HO.out;simp only [List.append_assoc,List.cons_append,List.nil_append] at h ⊢;exact h),HX.out⟩
     case measure=>simp [intOf] <;> omega
  ·obtain rfl:k=l.length:=by omega
   cases q
   ·have HN:=Hd (show o++[s]=refS s l p0 by rw [<-HE.out];simp [refS])
    go_wp2_with (at_builtin;refine zcn (enc:=Sea.enc) rfl _ _ 25 rfl (w.heap.size+1) 111 i0 (.agg #[.int .i64 0, .int .i64 0, .int .i64 0]) 3 24 Tryz.underlying25 hi hz0 hz1 hz2 rfl (by decide) Sea.enc_len Sea.one (.slice A1 o.length c1) o rfl (HO.out.kept (za1 _ _)) (some ⟨wr.heap.size,0,none⟩) 1 [s] 1 rfl rfl (Rd.one (hNew rfl) rfl) ?c1 ?c2 ?c3 ?_)
    case c1=>unfold maxLen;simp;omega
    case c2=>simp;omega
    case c3=>simp;omega
    intro v' w8 ho7 hg7;obtain ⟨A8,c8,rfl⟩:=ho7.form;have hch:=zaz hg7;have HX2:=Hd (zaf (za9 HX.out (.cells #[.int .i64 s.client, .int .i64 s.req, .int .i64 s.answer] 111)) hch (fun g hg=>by have:=(HO.out.inB g hg).1;(try simp only [zag]);omega))
    have hszr2:=HX2.out.size
    (try simp only [zag] at hszr2)
    have HO2:=Hd ho7;clear ho7 hg7 hch HO HX;have HO:=Hd HO2.out;have HX:=Hd HX2.out;clear HO2 HX2;go_wp2
    go_ret
    exact ⟨A8,c8,by rw [<-HN.out];first | rfl | simp,by rw [<-HN.out];exact HO.out.less (by omega),Ext.trans X0 HX.out⟩
   ·have HN:=Hd (show o=refS s l p0 by rw [<-HE.out];simp [refS])
    go_wp2
    go_ret
    exact ⟨A1,c1,by rw [<-HN.out];rfl,by rw [<-HN.out];exact HO.out.less (by omega),Ext.trans X0 HX.out⟩
end Go.Proofs.YtckfjploafhenaaGreat
