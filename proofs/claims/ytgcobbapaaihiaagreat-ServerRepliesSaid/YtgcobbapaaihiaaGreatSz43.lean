/- ServerReplies, part 43: lemmas, each with its own conditions. -/
import Derived.Test.YtgcobbapaaihiaaGreatSz42
set_option linter.all false
set_option maxHeartbeats 12800000
set_option maxRecDepth 100000
open Go.Proofs.Tryz
namespace Go.Proofs.YtgcobbapaaihiaaGreat
open Go.RowKit
theorem msg_built (n:Int):prog.built 72 [(0,.int .i64 n)]=some (msgA n 0 0).toArray:=by kernel_rfl
theorem msg_built0:prog.built 72 []=some (msgA 0 0 0).toArray:=by kernel_rfl
def S2 (bs:List UInt8) (n a1 i a2:Nat) (f2:Int×Int):Prop:=n=1→(f2=(0,0)∧mayR idB bs a1=some (i,a2))∨(f2.1≠0∧decA bs=none)
def MsgQ (bs:List UInt8) (c:Col) (w:World) (r:Ending) (w':World):Prop:=
 ∃(M:List Value) (k1 e0 e1:Int),M.length=170∧(∀v∈M,v.oneCell'=true)∧M[0]? = some (.int .i64 k1)∧r=.returned (.tuple #[.agg M.toArray,.agg #[.int .i64 e0,.int .i64 e1]]) ∧
  ((∃i h:Nat,decA bs=some (i,h)∧k1=1∧e0=0∧e1=0∧M=msgA 1 i h)∨(decA bs=none∧k1≠1))∧∃c',Step No c w c' w'∧Ok c' w'
section
variable {c:Col}{w:World}
theorem segQ0 {W:World}{b k o:Nat}{B us:List Value}{x:Value}(h:At c W b k B) (ho:Ok c W) (hk:k≠0) (hl:o+us.length≤B.length) (h1:∀u∈B,u.oneCell'=true) (h2:∀u∈us,u.oneCell'=true) (h0:0<o) (hx:B[0]? = some x) :
  ∃B',B'.length=B.length∧(∀u∈B',u.oneCell'=true)∧B'[0]? = some x∧At c (W.setCells b o us) b k B'∧W.there b o us.length:=by
 have e:B=B.take o++((B.drop o).take us.length++B.drop (o+us.length)):=by rw [←List.drop_drop,List.take_append_drop,List.take_append_drop]
 have hxl:(B.take o).length=o:=by rw [List.length_take];omega
 rw [e] at h;obtain ⟨a,t⟩:=At.seg h ho hk (us:=us) (by rw [List.length_take,List.length_drop];omega);rw [hxl] at a t;refine ⟨_,?_,?_,?_,a,t⟩
 ·simp only [List.length_append,List.length_take,List.length_drop];omega
 ·intro u hu
  rcases List.mem_append.1 hu with hu | hu
  ·exact h1 u (List.mem_of_mem_take hu)
  ·rcases List.mem_append.1 hu with hu | hu
   ·exact h2 u hu
   ·exact h1 u (List.mem_of_mem_drop hu)
 ·rw [List.getElem?_append_left (by omega),List.getElem?_take_of_lt h0];exact hx
theorem decode14 (hok:Ok c w) {bs:List UInt8}(hbl:bs.length≤60000) {kx:Nat}{v:Value}(hv:Sl zag c kx 0 w v bs) :
  Calls prog 35 #[v] w (MsgQ bs c w):=by
 obtain ⟨q,hq,hqc⟩:=hok.top kx;have hq0:q≠0:=by omega
 obtain ⟨qr,hqr1⟩:=jE (q+1);obtain ⟨qf,hqf1⟩:=jE (q+2);obtain ⟨qx,hqx1⟩:=jE (q+6);have hqr:qr≠0:=by omega
 have hqf:qf≠0:=by omega
 have hqx:qx≠0:=by omega
 have hqq:¬qf=qr:=by omega
 have hqle:∀j,j=qr∨j=qf→q≤j:=fun j e=>by rcases e with e | e <;> omega
 have nxr:¬One qr qx:=fun (e:qx=qr)=>by omega
 have ngr:¬One qr (q+7):=fun (e:q+7=qr)=>by omega
 have hz:=zeroM_zero;have hbz:=msg_built0;have hZl:=zaN 0 0 0;have hZ1:=msgA_one 0 0 0;obtain ⟨Z,hZ⟩:=jE (msgA 0 0 0);rw [hZ] at hz hbz hZl hZ1;obtain ⟨a2,o2,s2⟩:=zan hok Z 72 qr;obtain ⟨a3,o3,s3⟩:=zan o2 [.int .i64 0,.int .i64 0] 74 qf;rw [World.size_alloc] at a3 o3 s3;obtain ⟨rb,hrb⟩:=jE w.heap.size;rw [hrb] at a2 o2 s2 a3 o3 s3;obtain ⟨W1,hW1⟩:=jE ((w.alloc (.cells Z.toArray 72)).alloc (.cells #[.int .i64 0,.int .i64 0] 74));have hW1':(w.alloc (.cells Z.toArray 72)).alloc (.cells ([Value.int .i64 0,.int .i64 0]:List Value).toArray 74)=W1:=hW1;rw [hW1'] at a3 o3 s3;have NR:=newReader4 o3 (hv.kn (s2.trans s3)) (by omega) q;obtain ⟨va,vd,rfl,_⟩:=hv.form;have HZ:=jh5 hz hbz hZl hZ1 hZ;have hqc:=jh1 hqc;have hble:¬(65536:Int)<(bs.length:Int):=by omega
 have X:=jh3 (a2.keep s3 jI) a3 (s2.trans s3);clear hok hv a2 o2 s2 a3 o3 s3 hz hbz hZl hZ1 hZ;go_enter func35,ntmps35;go_wp2_with (first | (refine zaa rfl (some 2) rfl 72 rfl HZ.out.1 ?_))
 (try simp only [World.size_alloc])
 (try rw [hrb])
 (try rw [hW1])
 refine NR.mono ?_;rintro e w2 ⟨p,rfl,c2,i2,s2,o2,_⟩;have N1:=num4 o2 i2 hq0;unfold NumQ at N1;have X2:=jh3 (X.out.1.keep s2 jI) (X.out.2.1.keep s2 jI) (X.out.2.2.trans s2);clear NR X i2 s2 o2 hW1';go_wp2_with fail;refine N1.mono ?_;rintro e w3 ⟨n,a1,⟨f10,f11⟩,rfl,c3,i3,s3,o3,hn,hN⟩;have hbn:=msg_built (n:Int);have hMl:=zaN (n:Int) 0 0;have hM1:=msgA_one (n:Int) 0 0;have hM0:(msgA (n:Int) 0 0)[0]? = some (.int .i64 n):=rfl;obtain ⟨M,hM⟩:=jE (msgA (n:Int) 0 0);rw [hM] at hbn hMl hM1 hM0;obtain ⟨W4,c4,hW4,a4,o4,s4,t1,t2,t3,t4⟩:=stnew o3 HZ.out.2.2.1 hMl hM1 zaO (q:=qx) hqx;obtain ⟨xb,hxb⟩:=jE w3.heap.size;rw [hxb] at hW4 a4 t1;have TT:=jh4 t1 t2 t3 hW4;have i4:=i3.kn s4;obtain ⟨g4,cp4,ar4,_⟩:=i4.row;have r2:=ar4.get (i:=2) rfl;have y0:=a4.get hM0
 have S1:=jh1 (show n=1→(f10,f11)=(0,0)∧numR bs 0=some (1,a1) from fun h1=>by
  rcases hN with ⟨_,h2,h3⟩ | ⟨_,h2,_⟩
  ·rw [h1] at h2;exact ⟨h3,h2⟩
  ·omega)
 have SN:=jh1 (show n≠1→decA bs=none from fun h1=>by
  rcases hN with ⟨_,h2,_⟩ | ⟨_,_,h2,_⟩
  ·exact decAk h2 h1
  ·exact decA0 (h2 (by first | rfl | trivial)))
 have X4:=jh6 ((X2.out.1.keep s3 (show ¬qr=q by omega)).keep s4 jI) ((X2.out.2.1.keep s3 (show ¬qf=q by omega)).keep s4 jI) a4 (((X2.out.2.2.ofNo.trans s3).mono fun j (e:j=q)=>show q≤j by omega).trans s4.ofNo) i4 o4;have HM:=jh5 hM hMl hM1 hM0 hn;clear N1 X2 i3 s3 o3 hN hMl hM1 hM0 hM a4 o4 s4 t1 t2 t3 t4 hW4 ar4 i4;go_upto_region 5 with (first | (refine zaA rfl (some 20) rfl 72 #[(0,.tmp 19)] rfl M (ps:=[(0,.int .i64 n)]) (by simp;rfl) hbn ?_) | (refine zaa rfl (some 5) rfl 72 rfl HZ.out.1 ?_;rw [hxb]) | (refine wpList_store_mid rfl 72 _ _ rfl xb 0 M.toArray rfl rfl TT.out.1 TT.out.2.1 TT.out.2.2.1 ?_;rw [TT.out.2.2.2]))
 (try simp only [jS])
 by_cases hn1:n=1
 ·subst hn1
  obtain ⟨hf,hN1⟩:=S1.out rfl;injection hf with hf0 hf1;subst hf0 hf1;rw [show ((1:Nat):Int)=1 from rfl] at y0 ⊢;have N2:=num4 X4.out.2.2.2.2.2 X4.out.2.2.2.2.1 hq0;unfold NumQ at N2;have r1:W4.cell? ⟨p,1,none⟩=some (.int .i64 a1):=by obtain ⟨_,_,ar,_⟩:=X4.out.2.2.2.2.1.row;exact ar.get (i:=1) rfl
  have HN1:=jh1 hN1;clear S1 SN hN1;go_wp2_with fail;refine N2.mono ?_;rintro e w5 ⟨id,a2,⟨f20,f21⟩,rfl,c5,i5,s5,o5,hid,hN2⟩;have X5:=jh6 (X4.out.1.keep s5 (show ¬qr=q by omega)) (X4.out.2.1.keep s5 (show ¬qf=q by omega)) (X4.out.2.2.1.keep s5 (show ¬qx=q by omega)) (X4.out.2.2.2.1.trans (s5.mono fun j (e:j=q)=>by omega)) i5 o5;have r2:w5.cell? ⟨p,2,none⟩=some (.int .i64 f20):=by obtain ⟨_,_,ar,_⟩:=i5.row;exact ar.get (i:=2) rfl
  have SI:=jh1 (show (f20=0→f21=0∧numR bs a1=some (id,a2))∧(f20≠0→numR bs a1=none) by
   rcases hN2 with ⟨_,h2,h3⟩ | ⟨h1,_,h2,_⟩
   ·injection h3 with h3 h4
    exact ⟨fun _=>⟨h4,h2⟩,fun h=>absurd h3 h⟩
   ·exact ⟨fun h=>absurd h h1,fun _=>h2 (by first | rfl | trivial)⟩)
  clear N2 hN2 X4 i5 s5 o5 r1;go_upto_region 9 with fail;go_cut [55] from 45 to 54 (fun v wr=>∃b,v=.bool b∧wr=w5∧(b=true→f20=0∧idB id=false)∧(b=false→f20=0→idB id=true))
  case first=>
   by_cases hf2:f20=0
   ·subst hf2
    have NB:=number14 (id:Int) w5;obtain ⟨bb,hbb⟩:=jE (idB (id:Int));have HBB:=jh1 hbb;rw [hbb] at NB;clear hbb;go_wp2_with fail;refine NB.mono ?_;rintro e w6 ⟨rfl,rfl⟩;clear NB;go_wp2;go_meet
    case rel=>exact ⟨!bb,rfl,rfl,fun h=>⟨by first | rfl | trivial,by rw [HBB.out];simpa using h⟩,fun h _=>by rw [HBB.out];simpa using h⟩
   ·have hfb:(f20==0)=false:=by simpa using hf2
    go_wp2;go_meet
    case rel=>exact ⟨false,rfl,rfl,fun h=>(Bool.false_ne_true h).elim,fun _ h=>absurd h hf2⟩
  case rest=>
   obtain ⟨b,rfl,rfl,hb1,hb0⟩:=hcut;have HB:=jh2 hb1 hb0;clear hb1 hb0;go_upto_if 55 with (fail);go_cut [] from 45 to 58 (fun wr=>∃(cr:Col) (f:Int×Int),At cr wr rb qr Z∧At cr wr (rb+1) qf [.int .i64 0,.int .i64 0]∧At cr wr xb qx M∧Step (fun j=>q≤j) c w cr wr∧IsR4 cr q wr p bs a2 f∧Ok cr wr∧((f=(0,0)∧mayR idB bs a1=some (id,a2))∨(f.1≠0∧decA bs=none)))
   case first=>
    rcases b with _ | _
    ·go_wp2
     go_meet
     case rel=>
      refine ⟨c5,(f20,f21),X5.out.1,X5.out.2.1,X5.out.2.2.1,X5.out.2.2.2.1,X5.out.2.2.2.2.1,X5.out.2.2.2.2.2,?_⟩;by_cases h:f20=0
      ·obtain ⟨h1,h2⟩:=SI.out.1 h
       exact .inl ⟨by rw [h,h1],by unfold mayR;rw [h2];simp [HB.out.2 (by first | rfl | trivial) h]⟩
      ·exact .inr ⟨h,decAi HN1.out (by unfold mayR;rw [SI.out.2 h])⟩
    ·obtain ⟨hz0,hbad⟩:=HB.out.1 (by first | rfl | trivial)
     subst hz0;have FL:=fails4 X5.out.2.2.2.2.2 X5.out.2.2.2.2.1 hq0 3 a1;go_wp2_with fail;refine FL.mono ?_;rintro e w6 ⟨rfl,i6,s6,o6⟩;have R:=jh6 (X5.out.1.keep s6 (show ¬qr=q by omega)) (X5.out.2.1.keep s6 (show ¬qf=q by omega)) (X5.out.2.2.1.keep s6 (show ¬qx=q by omega)) (X5.out.2.2.2.1.trans (s6.mono fun j (e:j=q)=>by omega)) i6 o6;clear FL i6 s6 o6;go_wp2;go_meet
     case rel=>exact ⟨c5,_,R.out.1,R.out.2.1,R.out.2.2.1,R.out.2.2.2.1,R.out.2.2.2.2.1,R.out.2.2.2.2.2,.inr ⟨by simp [failF],decAi HN1.out (by unfold mayR;rw [(SI.out.1 (by first | rfl | trivial)).2];simp [hbad])⟩⟩
   case rest=>
    obtain ⟨c6,⟨f30,f31⟩,aZ,af,ax,st,ir,ok6,hS2⟩:=hcut;have N3:=num4 ok6 ir hq0;unfold NumQ at N3;have y0:=ax.get HM.out.2.2.2.1;have r1:wc.cell? ⟨p,1,none⟩=some (.int .i64 a2):=by obtain ⟨_,_,ar,_⟩:=ir.row;exact ar.get (i:=1) rfl
    have X6:=jh5 aZ af ax st hS2;rw [show ((1:Nat):Int)=1 from rfl] at y0;clear aZ af ax st ir ok6 hS2 X5 SI HB r2;go_wp2_with fail;refine N3.mono ?_;rintro e w7 ⟨ht,a3,⟨f40,f41⟩,rfl,c7,i7,s7,o7,hht,hN3⟩;have ax7:=X6.out.2.2.1.keep s7 (show ¬qx=q by omega);rw [←HM.out.1] at ax7;have z1:=ax7.get (i:=1) (u:=.int .i64 0) rfl;have z2:=ax7.get (i:=2) (u:=.int .i64 0) rfl;have zf1:=ax7.fz o7 hqx 1;have zf2:=ax7.fz o7 hqx 2;have ax8:At c7 ((w7.setCell ⟨xb,1,none⟩ (.int .i64 id)).setCell ⟨xb,2,none⟩ (.int .i64 ht)) xb qx (msgA 1 id ht):=(ax7.setN (i:=1) (by rw [zaN];omega) (.int .i64 id)).setN (i:=2) (by rw [List.length_set,zaN];omega) (.int .i64 ht);have s8:Step (One qx) c7 w7 c7 ((w7.setCell ⟨xb,1,none⟩ (.int .i64 id)).setCell ⟨xb,2,none⟩ (.int .i64 ht)):=((Step.refl (K:=One qx)).setCell (a:=⟨xb,1,none⟩) (.inr ax7.col) _).setCell (a:=⟨xb,2,none⟩) (.inr ax7.col) _;have o8:=(o7.setCell ⟨xb,1,none⟩ (.int .i64 id)).setCell ⟨xb,2,none⟩ (.int .i64 ht);obtain ⟨W8,hW8⟩:=jE ((w7.setCell ⟨xb,1,none⟩ (.int .i64 id)).setCell ⟨xb,2,none⟩ (.int .i64 ht));rw [hW8] at ax8 s8 o8;have i8:=i7.keep s8 (show ¬q=qx by omega) (show ¬0=qx by omega);have y0:W8.cell? ⟨xb,0,none⟩=some (.int .i64 1):=ax8.get (i:=0) rfl;have y2:W8.cell? ⟨xb,2,none⟩=some (.int .i64 ht):=ax8.get (i:=2) rfl;have r2:W8.cell? ⟨p,2,none⟩=some (.int .i64 f40):=by obtain ⟨_,_,ar,_⟩:=i8.row;exact ar.get (i:=2) rfl
    have X8:=jh6 ((X6.out.1.keep s7 (show ¬qr=q by omega)).keep s8 (show ¬qr=qx by omega)) ((X6.out.2.1.keep s7 (show ¬qf=q by omega)).keep s8 (show ¬qf=qx by omega)) ax8 ((X6.out.2.2.2.1.trans (s7.mono fun j (e:j=q)=>by omega)).trans (s8.mono fun j (e:j=qx)=>by omega)) i8 o8
    have SH:=jh1 (show (f40=0→f41=0∧f30=0∧numR bs a2=some (ht,a3))∧(f40≠0→f30=0→numR bs a2=none) from by
     rcases hN3 with ⟨h0,h2,h3⟩ | ⟨h1,_,h2,_⟩
     ·injection h3 with h3 h4
      have h0:f30=0:=h0
      have hz:(f30,f31)=(0,0):=by
       rcases X6.out.2.2.2.2 with h | h
       ·exact h.1
       ·exact absurd h0 h.1
      injection hz with hz0 hz1;exact ⟨fun _=>⟨by rw [h4,hz1],h0,h2⟩,fun h _=>absurd (h3.trans h0) h⟩
     ·exact ⟨fun h=>absurd h h1,fun _ h=>h2 h⟩)
    have S2':=jh1 X6.out.2.2.2.2;clear N3 hN3 X6 i7 s7 o7 ax7 ax8 s8 o8 i8 r1;go_upto_region 14 with fail
    (try rw [hW8])
    go_cut [83] from 71 to 82 (fun v wr=>∃b,v=.bool b∧wr=W8∧(b=true→f40=0∧zav ht=false)∧(b=false→f40=0→zav ht=true))
    case first=>
     by_cases hf2:f40=0
     ·subst hf2
      have NB:=height14 (ht:Int) W8;obtain ⟨bb,hbb⟩:=jE (zav (ht:Int));have HBB:=jh1 hbb;rw [hbb] at NB;clear hbb;go_wp2_with fail;refine NB.mono ?_;rintro e w9 ⟨rfl,rfl⟩;clear NB;go_wp2;go_meet
      case rel=>exact ⟨!bb,rfl,rfl,fun h=>⟨by first | rfl | trivial,by rw [HBB.out];simpa using h⟩,fun h _=>by rw [HBB.out];simpa using h⟩
     ·have hfb:(f40==0)=false:=by simpa using hf2
      go_wp2;go_meet
      case rel=>exact ⟨false,rfl,rfl,fun h=>(Bool.false_ne_true h).elim,fun _ h=>absurd h hf2⟩
    case rest=>
     obtain ⟨b,rfl,rfl,hb1,hb0⟩:=hcut;have HB:=jh2 hb1 hb0;clear hb1 hb0 z1 z2 zf1 zf2 hW8;go_upto_if 83 with (fail);go_cut [] from 71 to 86 (fun wr=>∃(cr:Col) (f:Int×Int),At cr wr rb qr Z∧At cr wr (rb+1) qf [.int .i64 0,.int .i64 0]∧At cr wr xb qx (msgA 1 id ht)∧Step (fun j=>q≤j) c w cr wr∧IsR4 cr q wr p bs a3 f∧Ok cr wr∧((f=(0,0)∧mayR idB bs a1=some (id,a2)∧mayR zav bs a2=some (ht,a3))∨(f.1≠0∧decA bs=none)))
     case first=>
      have FIN:∀hgood:(f40=0→zav ht=true),((f40,f41)=((0:Int),(0:Int))∧mayR idB bs a1=some (id,a2)∧mayR zav bs a2=some (ht,a3))∨(f40≠0∧decA bs=none):=fun hgood=>by
       by_cases h:f40=0
       ·obtain ⟨h1,h30,h2⟩:=SH.out.1 h
        rcases S2'.out with h3 | h3
        ·exact .inl ⟨by rw [h,h1],h3.2,by unfold mayR;rw [h2];simp [hgood h]⟩
        ·exact absurd h30 h3.1
       ·rcases S2'.out with h3 | h3
        ·have h30:f30=0:=by injection h3.1
         exact .inr ⟨h,decAh HN1.out h3.2 (by unfold mayR;rw [SH.out.2 h h30])⟩
        ·exact .inr ⟨h,h3.2⟩
      have HF:=jh1 FIN;clear FIN
      rcases b with _ | _
      ·go_wp2
       go_meet
       case rel=>exact ⟨c7,(f40,f41),X8.out.1,X8.out.2.1,X8.out.2.2.1,X8.out.2.2.2.1,X8.out.2.2.2.2.1,X8.out.2.2.2.2.2,HF.out (HB.out.2 (by first | rfl | trivial))⟩
      ·obtain ⟨hz0,hbad⟩:=HB.out.1 (by first | rfl | trivial)
       have hdn:decA bs=none:=by
        obtain ⟨h1,h30,h2⟩:=SH.out.1 hz0
        rcases S2'.out with h3 | h3
        ·exact decAh HN1.out h3.2 (by unfold mayR;rw [h2];simp [hbad])
        ·exact h3.2
       have HD:=jh1 hdn;subst hz0;have FL:=fails4 X8.out.2.2.2.2.2 X8.out.2.2.2.2.1 hq0 3 a2;clear hdn;go_wp2_with fail;refine FL.mono ?_;rintro e w9 ⟨rfl,i9,s9,o9⟩;have R:=jh6 (X8.out.1.keep s9 (show ¬qr=q by omega)) (X8.out.2.1.keep s9 (show ¬qf=q by omega)) (X8.out.2.2.1.keep s9 (show ¬qx=q by omega)) (X8.out.2.2.2.1.trans (s9.mono fun j (e:j=q)=>by omega)) i9 o9;clear FL i9 s9 o9;go_wp2;go_meet
       case rel=>exact ⟨c7,_,R.out.1,R.out.2.1,R.out.2.2.1,R.out.2.2.2.1,R.out.2.2.2.2.1,R.out.2.2.2.2.2,.inr ⟨by simp [failF],HD.out⟩⟩
     case rest=>
      obtain ⟨c10,⟨f50,f51⟩,aZ,af,ax,st,ir,ok10,hS3⟩:=hcut;have EN:=end4 ok10 ir;have hle:=ir.le;obtain ⟨g0,hg0⟩:=jE ((endF bs a3 (f50,f51)).1);obtain ⟨g1,hg1⟩:=jE ((endF bs a3 (f50,f51)).2)
      have SE:=jh1 (show (g0=0→g1=0∧decA bs=some (id,ht))∧(g0≠0→decA bs=none) by
       unfold endF at hg0 hg1
       rcases hS3 with ⟨h1,h2,h3⟩ | ⟨h1,h2⟩
       ·injection h1 with h4 h5
        subst h4 h5;by_cases hl:a3<bs.length
        ·rw [if_pos ⟨rfl,hl⟩] at hg0
         exact ⟨fun h=>by rw [←hg0] at h;exact absurd h (show ¬(4:Int)=0 by decide),fun _=>decAl HN1.out h2 h3 (by omega)⟩
        ·rw [if_neg (fun h=>hl h.2)] at hg0 hg1
         exact ⟨fun _=>⟨hg1.symm,decAy HN1.out h2 h3 (by omega)⟩,fun h=>absurd hg0.symm h⟩
       ·rw [if_neg (fun h=>h1 h.1)] at hg0
        exact ⟨fun h=>absurd (hg0.trans h) h1,fun _=>h2⟩)
      rw [hg0,hg1] at EN;have y0:wc.cell? ⟨xb,0,none⟩=some (.int .i64 1):=ax.get (i:=0) rfl;have Yv:=jh4 aZ af ax st;obtain ⟨H,hH⟩:=jE (msgA 1 id ht);have HHl:=jh1 (show H.length=170∧(∀u∈H,u.oneCell'=true)∧H[0]? = some (.int .i64 1) by rw [←hH];exact ⟨zaN _ _ _,msgA_one _ _ _,rfl⟩);rw [hH] at Yv;have HH:=jh1 hH;clear aZ af ax st ir ok10 hS3 hg0 hg1 X8 SH S2' HB hH;go_wp2_with fail;refine EN.mono ?_;rintro e wd ⟨rfl,c11,s11,o11⟩;obtain ⟨a12,o12,s12⟩:=zan o11 [.int .i64 g0,.int .i64 g1] 74 (q+7);obtain ⟨fb,hfb⟩:=jE wd.heap.size;rw [hfb] at a12 o12 s12;obtain ⟨W12,hW12⟩:=jE (wd.alloc (.cells #[.int .i64 g0,.int .i64 g1] 74));have hW12':wd.alloc (.cells ([Value.int .i64 g0,.int .i64 g1]:List Value).toArray 74)=W12:=hW12;rw [hW12'] at a12 o12 s12;have s112:=s11.trans s12;obtain ⟨c9,hc9⟩:=jE (c11.put fb (q+7));rw [hc9] at a12 o12 s12 s112;have X9:=jh6 (Yv.out.1.keep s112 jI) (Yv.out.2.1.keep s112 jI) (Yv.out.2.2.1.keep s112 jI) a12 (Yv.out.2.2.2.trans s112.ofNo) o12;have h0:=a12.get (i:=0) rfl;clear EN Yv s11 o11 a12 o12 s12 s112 hW12' hc9 y0;go_upto_if 118 with (fail)
      (try rw [hfb])
      (try rw [hW12])
      by_cases hg:g0=0
      ·obtain ⟨hg1z,hdY⟩:=SE.out.1 hg
       have HDY:=jh1 hdY;subst hg hg1z;clear hdY;have sd:Step No c9 W12 c9 W12.drew:=Step.rf.drewN 1;have od:Ok c9 W12.drew:=X9.out.2.2.2.2.2.drewN 1;obtain ⟨t1,t2,t3,z0,z1,zf0,zf1,v1,v2,s2,o2,s1⟩:=endQ zaO od (X9.out.1.keep sd jI) HZ.out.2.2.1 (X9.out.2.1.keep sd jI) hqr hqf hqq HHl.out.1 HHl.out.2.1 0 0;have axd:=X9.out.2.2.1.keep sd jI;have agd:=X9.out.2.2.2.1.keep sd jI;have ax1:=axd.keep s1 nxr;have ag1:=agd.keep s1 ngr;have sAll:Step No c w c9 _:=((X9.out.2.2.2.2.1.trans sd.ofNo).trans (s2.mono fun j (e:j=qr∨j=qf)=>hqle j e)).drop (K':=No) fun x _ (e:q≤c x)=>by have:=hqc.out x;omega
       have FL:=jh8 t1 t2 t3 v1 v2 sAll o2 (show (prog.info? 72).map (·.size)=some H.length by rw [zaO,HHl.out.1]);have hiv:(prog.info? 72).map (·.size)=some H.length:=FL.out.2.2.2.2.2.2.2;have KK:(fun W:World=>(Instr.loadAt 72 (.pointer (some ⟨xb,0,none⟩))).run prog W=.ok (.agg H.toArray) W∧W.cell? ⟨fb,0,none⟩=some (.int .i64 0)∧W.cell? ⟨fb,1,none⟩=some (.int .i64 0)) W12.drew:=⟨axd.ld (ty:=72) underlying72 rfl hiv,agd.get (i:=0) rfl,agd.get (i:=1) rfl⟩;have KR:(fun W:World=>(Instr.loadAt 72 (.pointer (some ⟨xb,0,none⟩))).run prog W=.ok (.agg H.toArray) W∧W.cell? ⟨fb,0,none⟩=some (.int .i64 0)∧W.cell? ⟨fb,1,none⟩=some (.int .i64 0)) (W12.drew.setCells rb 0 H):=⟨ax1.ld (ty:=72) underlying72 rfl hiv,ag1.get (i:=0) rfl,ag1.get (i:=1) rfl⟩;clear sd od t1 t2 t3 v1 v2 s2 o2 s1 axd agd ax1 ag1 sAll X9 hiv;go_wp2_with fail;refine zac (fun W=>(Instr.loadAt 72 (.pointer (some ⟨xb,0,none⟩))).run prog W=.ok (.agg H.toArray) W∧W.cell? ⟨fb,0,none⟩=some (.int .i64 0)∧W.cell? ⟨fb,1,none⟩=some (.int .i64 0)) (fun i=>!([3]:List Nat).contains i) (by kernel_rfl) ?_;refine tk 0 _ 121 rfl rfl (Or.inl ⟨by rfl,fun W hW=>by obtain ⟨q0,q1,q2⟩:=hW;exact zaT 72 q0 (.tmp 5) rfl rfl⟩) KK ?_;refine tk3 1 _ 122 rfl rfl KK ?_;refine zab.one (i:=2) (by kernel_rfl) rfl (fun KQ hK=>?_);refine zar rfl 72 _ _ rfl rb 0 H.toArray rfl rfl FL.out.1 FL.out.2.1 FL.out.2.2.1 ?_;simp only [List.toList_toArray];refine hK.out _ _ (fun _=>KR) ?_;clear hK KQ
       (try simp only [jS])
       refine zab.one (i:=3) (by kernel_rfl) rfl (fun KQ hK=>?_);go_simp;refine hK.out _ _ (fun h=>absurd h (by decide)) ?_;clear hK KQ
       (try simp only [jS])
       refine zab.done (by kernel_rfl) ?_ _;go_wp2_with fail;obtain ⟨_,_,_,f4,f5,f6,f7,f8⟩:=FL.out;exact bodyPost_ret (zak rfl _ _ rb (rb+1) H _ _ _ rfl rfl f4 underlying72 rfl f8 f5 underlying74 rfl zao) rfl ⟨H,1,0,0,HHl.out.1,HHl.out.2.1,HHl.out.2.2,rfl,.inl ⟨id,ht,HDY.out,rfl,rfl,rfl,HH.out.symm⟩,c9,f6,f7⟩
      ·have hgn:(g0 != 0)=true:=by simpa using hg
       have HDN:=jh1 (SE.out.2 hg);have HG:=jh1 hg;clear hg;have sd:Step No c9 W12 c9 W12.drew:=Step.rf.drewN 1;have od:Ok c9 W12.drew:=X9.out.2.2.2.2.2.drewN 1;obtain ⟨t1,t2,t3,z0,z1,zf0,zf1,v1,v2,s2,o2,s1⟩:=endQ zaO od (X9.out.1.keep sd jI) HZ.out.2.2.1 (X9.out.2.1.keep sd jI) hqr hqf hqq HZ.out.2.2.1 HZ.out.2.2.2.1 g0 g1;have axd:=X9.out.2.2.1.keep sd jI;have agd:=X9.out.2.2.2.1.keep sd jI;have ax1:=axd.keep s1 nxr;have ag1:=agd.keep s1 ngr;have sAll:Step No c w c9 _:=((X9.out.2.2.2.2.1.trans sd.ofNo).trans (s2.mono fun j (e:j=qr∨j=qf)=>hqle j e)).drop (K':=No) fun x _ (e:q≤c x)=>by have:=hqc.out x;omega
       have FL:=jh8 t1 t2 t3 v1 v2 sAll o2 (show (prog.info? 72).map (·.size)=some Z.length by rw [zaO,HZ.out.2.2.1]);have KK:(fun W:World=>W.cell? ⟨fb,0,none⟩=some (.int .i64 g0)∧W.cell? ⟨fb,1,none⟩=some (.int .i64 g1)) W12.drew:=⟨agd.get (i:=0) rfl,agd.get (i:=1) rfl⟩;have KR:(fun W:World=>W.cell? ⟨fb,0,none⟩=some (.int .i64 g0)∧W.cell? ⟨fb,1,none⟩=some (.int .i64 g1)) (W12.drew.setCells rb 0 Z):=⟨ag1.get (i:=0) rfl,ag1.get (i:=1) rfl⟩;have hbz:=HZ.out.2.1;clear sd od t1 t2 t3 v1 v2 s2 o2 s1 axd agd ax1 ag1 sAll X9;go_wp2_with fail;refine zac (fun W=>W.cell? ⟨fb,0,none⟩=some (.int .i64 g0)∧W.cell? ⟨fb,1,none⟩=some (.int .i64 g1)) (fun i=>!([3]:List Nat).contains i) (by kernel_rfl) ?_;refine tk 0 _ 119 rfl rfl (Or.inl ⟨by rfl,fun W hW=>by obtain ⟨q0,q1⟩:=hW;exact zbq 72 hbz #[] rfl rfl⟩) KK ?_;refine tk2 1 _ 120 rfl rfl KK ?_;refine zab.one (i:=2) (by kernel_rfl) rfl (fun KQ hK=>?_);refine zar rfl 72 _ _ rfl rb 0 Z.toArray rfl rfl FL.out.1 FL.out.2.1 FL.out.2.2.1 ?_;simp only [List.toList_toArray];refine hK.out _ _ (fun _=>KR) ?_;clear hK KQ
       (try simp only [jS])
       refine zab.one (i:=3) (by kernel_rfl) rfl (fun KQ hK=>?_);go_simp;refine hK.out _ _ (fun h=>absurd h (by decide)) ?_;clear hK KQ
       (try simp only [jS])
       refine zab.done (by kernel_rfl) ?_ _;go_wp2_with fail;obtain ⟨_,_,_,f4,f5,f6,f7,f8⟩:=FL.out;exact bodyPost_ret (zak rfl _ _ rb (rb+1) Z _ _ _ rfl rfl f4 underlying72 rfl f8 f5 underlying74 rfl zao) rfl ⟨Z,0,g0,g1,HZ.out.2.2.1,HZ.out.2.2.2.1,by rw [←HZ.out.2.2.2.2];rfl,rfl,.inr ⟨HDN.out,fun h=>absurd h (by decide)⟩,c9,f6,f7⟩
 ·have HD:=jh1 (SN.out hn1)
  have hnk:((n:Int)==1)=false:=by simpa using (show (n:Int)≠1 by omega)
  have hnk2:((n:Int) != 1)=true:=by simpa using (show (n:Int)≠1 by omega)
  clear S1 SN;go_cut [36] from 21 to 35 (fun v wr=>∃b,v=.bool b∧wr=W4)
  case first=>
   by_cases hf:f10=0
   ·subst hf
    by_cases hn2:(n:Int)=2
    ·have hb2:((n:Int) != 2)=false:=by simpa using hn2
     clear hn2;go_wp2;go_meet
     case rel=>exact ⟨_,rfl,rfl⟩
    ·have hb2:((n:Int) != 2)=true:=by simpa using hn2
     clear hn2;go_wp2;go_meet
     case rel=>exact ⟨_,rfl,rfl⟩
   ·have hfb:(f10==0)=false:=by simpa using hf
    clear hf;go_wp2;go_meet
    case rel=>exact ⟨_,rfl,rfl⟩
  case rest=>
   obtain ⟨b,rfl,rfl⟩:=hcut;go_upto_if 36 with (fail);go_cut [] from 21 to 38 (fun wr=>∃(cr:Col) (f:Int×Int),At cr wr rb qr Z∧At cr wr (rb+1) qf [.int .i64 0,.int .i64 0]∧At cr wr xb qx M∧Step (fun j=>q≤j) c w cr wr∧IsR4 cr q wr p bs a1 f∧Ok cr wr)
   case first=>
    rcases b with _ | _
    ·go_wp2
     go_meet
     case rel=>exact ⟨c4,_,X4.out⟩
    ·have FL:=fails4 X4.out.2.2.2.2.2 X4.out.2.2.2.2.1 hq0 5 0
     go_wp2_with fail;refine FL.mono ?_;rintro e w6 ⟨rfl,i6,s6,o6⟩;have R:=jh6 (X4.out.1.keep s6 (show ¬qr=q by omega)) (X4.out.2.1.keep s6 (show ¬qf=q by omega)) (X4.out.2.2.1.keep s6 (show ¬qx=q by omega)) (X4.out.2.2.2.1.trans (s6.mono fun j (e:j=q)=>by omega)) i6 o6;clear FL i6 s6 o6;go_wp2;go_meet
     case rel=>exact ⟨c4,_,R.out⟩
   case rest=>
    obtain ⟨c5,f5,aZ,af,ax,st,ir,ok5⟩:=hcut;have N2:=num4 ok5 ir hq0;unfold NumQ at N2;have r1:wc.cell? ⟨p,1,none⟩=some (.int .i64 a1):=by obtain ⟨_,_,ar,_⟩:=ir.row;exact ar.get (i:=1) rfl
    have X5:=jh4 aZ af ax st;clear aZ af ax st ir ok5 X4 r2 y0;go_wp2_with fail;refine N2.mono ?_;rintro e w6 ⟨id,a2,⟨f20,f21⟩,rfl,c6,i6,s6,o6,hid,-⟩;have r2:w6.cell? ⟨p,2,none⟩=some (.int .i64 f20):=by obtain ⟨_,_,ar,_⟩:=i6.row;exact ar.get (i:=2) rfl
    have X6:=jh6 (X5.out.1.keep s6 (show ¬qr=q by omega)) (X5.out.2.1.keep s6 (show ¬qf=q by omega)) (X5.out.2.2.1.keep s6 (show ¬qx=q by omega)) (X5.out.2.2.2.trans (s6.mono fun j (e:j=q)=>by omega)) i6 o6;clear N2 X5 i6 s6 o6 r1;go_upto_region 9 with fail;go_cut [55] from 45 to 54 (fun v wr=>∃b,v=.bool b∧wr=w6)
    case first=>
     by_cases hf2:f20=0
     ·subst hf2
      have NB:=number14 (id:Int) w6;obtain ⟨bb,hbb⟩:=jE (idB (id:Int));rw [hbb] at NB;clear hbb;go_wp2_with fail;refine NB.mono ?_;rintro e w7 ⟨rfl,rfl⟩;clear NB;go_wp2;go_meet
      case rel=>exact ⟨_,rfl,rfl⟩
     ·have hfb:(f20==0)=false:=by simpa using hf2
      clear hf2;go_wp2;go_meet
      case rel=>exact ⟨_,rfl,rfl⟩
    case rest=>
     obtain ⟨b2,rfl,rfl⟩:=hcut;go_upto_if 55 with (fail);go_cut [] from 45 to 58 (fun wr=>∃(cr:Col) (f:Int×Int),At cr wr rb qr Z∧At cr wr (rb+1) qf [.int .i64 0,.int .i64 0]∧At cr wr xb qx M∧Step (fun j=>q≤j) c w cr wr∧IsR4 cr q wr p bs a2 f∧Ok cr wr)
     case first=>
      rcases b2 with _ | _
      ·go_wp2
       go_meet
       case rel=>exact ⟨c6,_,X6.out⟩
      ·have FL:=fails4 X6.out.2.2.2.2.2 X6.out.2.2.2.2.1 hq0 3 a1
       go_wp2_with fail;refine FL.mono ?_;rintro e w7 ⟨rfl,i7,s7,o7⟩;have R:=jh6 (X6.out.1.keep s7 (show ¬qr=q by omega)) (X6.out.2.1.keep s7 (show ¬qf=q by omega)) (X6.out.2.2.1.keep s7 (show ¬qx=q by omega)) (X6.out.2.2.2.1.trans (s7.mono fun j (e:j=q)=>by omega)) i7 o7;clear FL i7 s7 o7;go_wp2;go_meet
       case rel=>exact ⟨c6,_,R.out⟩
     case rest=>
      obtain ⟨c7,f7,aZ,af,ax,st,ir,ok7⟩:=hcut;have y0:=ax.get HM.out.2.2.2.1;have r1:wc.cell? ⟨p,1,none⟩=some (.int .i64 a2):=by obtain ⟨_,_,ar,_⟩:=ir.row;exact ar.get (i:=1) rfl
      have X7:=jh6 aZ af ax st ir ok7;clear aZ af ax st ir ok7 X6 r2;go_upto_if 89 with (fail);go_cut [8,9] from 90 to 113 (fun _ _ wr=>∃(cr:Col) (M':List Value) (a':Nat) (f:Int×Int),M'.length=170∧(∀u∈M',u.oneCell'=true)∧M'[0]? = some (.int .i64 n)∧At cr wr rb qr Z∧At cr wr (rb+1) qf [.int .i64 0,.int .i64 0]∧At cr wr xb qx M'∧Step (fun j=>q≤j) c w cr wr∧IsR4 cr q wr p bs a' f∧Ok cr wr)
      case first=>
       by_cases hn2:(n:Int)=2
       ·obtain rfl:n=2:=by omega
        clear hn2;have BY:=bytes4 X7.out.2.2.2.2.2 X7.out.2.2.2.2.1 hq0 65536 (by omega);rw [show ((2:Nat):Int)=2 from rfl] at y0;obtain ⟨ZF,hZF,zF⟩:=zaV;obtain ⟨ZB,hZB,zB⟩:=zaW;have HZF:=jh3 hZF zF zB;clear zF zB;go_wp2_with fail;refine BY.mono ?_;rintro e w8 ⟨_,l8,a3,⟨f30,f31⟩,rfl,c8,sl8,hl8,i8,s8,o8⟩;have D:=decode09 o8 (by omega) sl8;unfold DecOut IsU at D;obtain ⟨va8,vc8,rfl,_⟩:=sl8.form;have X8:=jh5 (X7.out.1.keep s8 (show ¬qr=q by omega)) (X7.out.2.1.keep s8 (show ¬qf=q by omega)) (X7.out.2.2.1.keep s8 (show ¬qx=q by omega)) (X7.out.2.2.2.1.trans (s8.mono fun j (e:j=q)=>by omega)) i8;clear BY X7 sl8 hl8 i8 s8 o8 y0;go_wp2_with fail;refine D.mono ?_;rintro e w9 ⟨_,e0,e1,rfl,c9,⟨U,rfl,hU,hU1⟩,s9,o9⟩;obtain ⟨W10,W11,c11,hW10,hW11,am,ag,o11,s11,t1,t2,t3,t4,t5,t6⟩:=stnew2 o9 hZB hU hU1 zah hZF (B2:=[.int .i64 e0,.int .i64 e1]) rfl (by intro v hv;simp only [List.mem_cons,List.not_mem_nil,or_false] at hv;rcases hv with rfl | rfl <;> rfl) zaG (q:=q+3) (q2:=q+4) (jz _) (jz _);obtain ⟨mb,hmb⟩:=jE w9.heap.size;rw [hmb] at hW10 hW11 am ag t1 t4;have s911:=s9.trans s11;have i11:=X8.out.2.2.2.2.kn s911;have r2:W11.cell? ⟨p,2,none⟩=some (.int .i64 f30):=by obtain ⟨_,_,ar,_⟩:=i11.row;exact ar.get (i:=2) rfl
        have x0:=ag.get (i:=0) rfl;have X11:=jh7 (X8.out.1.keep s911 jI) (X8.out.2.1.keep s911 jI) (X8.out.2.2.1.keep s911 jI) am (X8.out.2.2.2.1.trans s911.ofNo) i11 o11;have T11:=jh8 t1 t2 t3 t4 t5 t6 hW10 hW11;have HU:=jh2 hU hU1;have hbu:=answer_built (id:Int) hU;clear D X8 s9 o9 am ag o11 s11 t1 t2 t3 t4 t5 t6 hW10 hW11 s911 i11 hU1;go_upto_region 18 with (first | (refine zaa rfl (some 8) rfl 59 rfl HZF.out.2.2 ?_;rw [hmb]) | (refine zaa rfl (some 9) rfl 74 rfl HZF.out.2.1 ?_;rw [World.size_alloc,hmb]) | (refine wpList_store_mid rfl 59 _ _ rfl mb 0 U.toArray rfl rfl T11.out.1 T11.out.2.1 T11.out.2.2.1 ?_;rw [T11.out.2.2.2.2.2.2.1]) | (refine wpList_store_mid rfl 74 _ _ rfl (mb+1) 0 _ rfl rfl T11.out.2.2.2.1 T11.out.2.2.2.2.1 T11.out.2.2.2.2.2.1 ?_;rw [T11.out.2.2.2.2.2.2.2]))
        (try simp only [jS])
        go_cut [106] from 96 to 105 (fun v wr=>∃b,v=.bool b∧wr=W11)
        case first=>
         by_cases hf:f30=0
         ·subst hf
          obtain ⟨bb,hbb⟩:=jE ((e0 != 0));go_wp2;go_meet
          case rel=>exact ⟨_,rfl,rfl⟩
         ·have hfb:(f30==0)=false:=by simpa using hf
          clear hf;go_wp2;go_meet
          case rel=>exact ⟨_,rfl,rfl⟩
        case rest=>
         obtain ⟨b3,rfl,rfl⟩:=hcut;go_upto_if 106 with (fail);go_cut [] from 96 to 109 (fun wr=>∃(cr:Col) (f:Int×Int),At cr wr rb qr Z∧At cr wr (rb+1) qf [.int .i64 0,.int .i64 0]∧At cr wr xb qx M∧At cr wr mb (q+3) U∧Step (fun j=>q≤j) c w cr wr∧IsR4 cr q wr p bs a3 f∧Ok cr wr)
         case first=>
          rcases b3 with _ | _
          ·go_wp2
           go_meet
           case rel=>exact ⟨c11,_,X11.out⟩
          ·have FL:=fails4 X11.out.2.2.2.2.2.2 X11.out.2.2.2.2.2.1 hq0 5 a2
           go_wp2_with fail;refine FL.mono ?_;rintro e w12 ⟨rfl,i12,s12,o12⟩;have R:=jh7 (X11.out.1.keep s12 (show ¬qr=q by omega)) (X11.out.2.1.keep s12 (show ¬qf=q by omega)) (X11.out.2.2.1.keep s12 (show ¬qx=q by omega)) (X11.out.2.2.2.1.keep s12 (show ¬q+3=q by omega)) (X11.out.2.2.2.2.1.trans (s12.mono fun j (e:j=q)=>by omega)) i12 o12;clear FL i12 s12 o12;go_wp2;go_meet
           case rel=>exact ⟨c11,_,R.out⟩
         case rest=>
          obtain ⟨c12,f12,aZ,af,ax,am,st,ir,ok12⟩:=hcut;obtain ⟨A3,hA3⟩:=jE ((Value.int .i64 id::U));have hAl:A3.length=167:=by rw [←hA3];simp [HU.out.1]
          have hA1:∀u∈A3,u.oneCell'=true:=by rw [←hA3];exact ansC_one (id:=id) HU.out.2
          rw [hA3] at hbu;obtain ⟨M',hMl',hM1',hM0',ax',tx⟩:=segQ0 ax ok12 hqx (o:=3) (us:=A3) (by rw [HM.out.2.1,hAl];omega) HM.out.2.2.1 hA1 (by omega) HM.out.2.2.2.1;have sX:Step (One qx) c12 wc c12 (wc.setCells xb 3 A3):=Step.setCells (K:=One qx) (.inr ax.col) _ _ _ Step.refl;have R:=jh9 (hMl'.trans HM.out.2.1) hM1' hM0' (aZ.keep sX (show ¬qr=qx by omega)) (af.keep sX (show ¬qf=qx by omega)) ax' (st.trans (sX.mono fun j (e:j=qx)=>by omega)) (ir.keep sX (show ¬q=qx by omega) (show ¬0=qx by omega)) (Ok.setCells (b:=xb) A3 3 _ ok12);have T:=jh5 am.cells (show (prog.info? 59).map (·.size)=some U.length by rw [zah,HU.out.1]) (show wc.there xb 3 A3.toArray.size by simpa using tx) (show (prog.info? 61).map (·.size)=some A3.toArray.size by rw [zbj];simp [hAl]) (all_oneCell_toArray hA1);clear aZ af ax am st ir ok12 hAl hA1 hA3 hMl' hM1' hM0' ax' tx sX;go_upto_region 20 with fail;refine wp_region_lit ?_;go_wp2_with (first | (refine wpList_load_mid rfl 59 _ rfl mb 0 rfl U _ T.out.1 underlying59 rfl T.out.2.1 ?_) | (refine zaA rfl (some 112) rfl 61 #[(0,.tmp 110),(1,.tmp 111)] rfl A3 (ps:=[(0,.int .i64 id),(1,.agg U.toArray)]) (by first | rfl | (simp [Act.eval];done) | (simp [Act.eval,Act.put];done) | (simp;exact ⟨rfl,rfl⟩) | (simp [Act.put];exact ⟨rfl,rfl⟩)) hbu ?_) | (refine wpList_store_mid rfl 61 _ _ rfl xb 3 A3.toArray rfl rfl T.out.2.2.1 T.out.2.2.2.1 T.out.2.2.2.2 ?_));go_meet
          case rel=>exact ⟨c12,M',_,_,R.out⟩
       ·have hb2:((n:Int)==2)=false:=by simpa using hn2
        clear hn2;go_wp2;go_meet
        case rel=>exact ⟨c7,M,a2,f7,HM.out.2.1,HM.out.2.2.1,HM.out.2.2.2.1,X7.out⟩
      case rest=>
       obtain ⟨c8,H,a8,⟨f80,f81⟩,hMl,hM1,hM0,aZ,af,ax,st,ir,ok8⟩:=hcut;have EN:=end4 ok8 ir;obtain ⟨g0,hg0⟩:=jE ((endF bs a8 (f80,f81)).1);obtain ⟨g1,hg1⟩:=jE ((endF bs a8 (f80,f81)).2);rw [hg0,hg1] at EN;have Yv:=jh4 aZ af ax st;have HHl:=jh3 hMl hM1 hM0;clear aZ af ax st ir ok8 hMl hM1 hM0 hg0 hg1 X7 y0 r1;go_wp2_with fail;refine EN.mono ?_;rintro e wd ⟨rfl,c11,s11,o11⟩;obtain ⟨a12,o12,s12⟩:=zan o11 [.int .i64 g0,.int .i64 g1] 74 (q+7);obtain ⟨fb,hfb⟩:=jE wd.heap.size;rw [hfb] at a12 o12 s12;obtain ⟨W12,hW12⟩:=jE (wd.alloc (.cells #[.int .i64 g0,.int .i64 g1] 74));have hW12':wd.alloc (.cells ([Value.int .i64 g0,.int .i64 g1]:List Value).toArray 74)=W12:=hW12;rw [hW12'] at a12 o12 s12;have s112:=s11.trans s12;obtain ⟨c9,hc9⟩:=jE (c11.put fb (q+7));rw [hc9] at a12 o12 s12 s112;have X9:=jh6 (Yv.out.1.keep s112 jI) (Yv.out.2.1.keep s112 jI) (Yv.out.2.2.1.keep s112 jI) a12 (Yv.out.2.2.2.trans s112.ofNo) o12;have h0:=a12.get (i:=0) rfl;clear EN Yv s11 o11 a12 o12 s12 s112 hW12' hc9;go_upto_if 118 with (fail)
       (try rw [hfb])
       (try rw [hW12])
       by_cases hg:g0=0
       ·subst hg
        have sd:Step No c9 W12 c9 W12.drew:=Step.rf.drewN 1;have od:Ok c9 W12.drew:=X9.out.2.2.2.2.2.drewN 1;obtain ⟨t1,t2,t3,z0,z1,zf0,zf1,v1,v2,s2,o2,s1⟩:=endQ zaO od (X9.out.1.keep sd jI) HZ.out.2.2.1 (X9.out.2.1.keep sd jI) hqr hqf hqq HHl.out.1 HHl.out.2.1 0 g1;have axd:=X9.out.2.2.1.keep sd jI;have agd:=X9.out.2.2.2.1.keep sd jI;have ax1:=axd.keep s1 nxr;have ag1:=agd.keep s1 ngr;have sAll:Step No c w c9 _:=((X9.out.2.2.2.2.1.trans sd.ofNo).trans (s2.mono fun j (e:j=qr∨j=qf)=>hqle j e)).drop (K':=No) fun x _ (e:q≤c x)=>by have:=hqc.out x;omega
        have FL:=jh8 t1 t2 t3 v1 v2 sAll o2 (show (prog.info? 72).map (·.size)=some H.length by rw [zaO,HHl.out.1]);have hiv:(prog.info? 72).map (·.size)=some H.length:=FL.out.2.2.2.2.2.2.2;have KK:(fun W:World=>(Instr.loadAt 72 (.pointer (some ⟨xb,0,none⟩))).run prog W=.ok (.agg H.toArray) W∧W.cell? ⟨fb,0,none⟩=some (.int .i64 0)∧W.cell? ⟨fb,1,none⟩=some (.int .i64 g1)) W12.drew:=⟨axd.ld (ty:=72) underlying72 rfl hiv,agd.get (i:=0) rfl,agd.get (i:=1) rfl⟩;have KR:(fun W:World=>(Instr.loadAt 72 (.pointer (some ⟨xb,0,none⟩))).run prog W=.ok (.agg H.toArray) W∧W.cell? ⟨fb,0,none⟩=some (.int .i64 0)∧W.cell? ⟨fb,1,none⟩=some (.int .i64 g1)) (W12.drew.setCells rb 0 H):=⟨ax1.ld (ty:=72) underlying72 rfl hiv,ag1.get (i:=0) rfl,ag1.get (i:=1) rfl⟩;clear sd od t1 t2 t3 v1 v2 s2 o2 s1 axd agd ax1 ag1 sAll X9 hiv;go_wp2_with fail;refine zac (fun W=>(Instr.loadAt 72 (.pointer (some ⟨xb,0,none⟩))).run prog W=.ok (.agg H.toArray) W∧W.cell? ⟨fb,0,none⟩=some (.int .i64 0)∧W.cell? ⟨fb,1,none⟩=some (.int .i64 g1)) (fun i=>!([3]:List Nat).contains i) (by kernel_rfl) ?_;refine tk 0 _ 121 rfl rfl (Or.inl ⟨by rfl,fun W hW=>by obtain ⟨q0,q1,q2⟩:=hW;exact zaT 72 q0 (.tmp 5) rfl rfl⟩) KK ?_;refine tk3 1 _ 122 rfl rfl KK ?_;refine zab.one (i:=2) (by kernel_rfl) rfl (fun KQ hK=>?_);refine zar rfl 72 _ _ rfl rb 0 H.toArray rfl rfl FL.out.1 FL.out.2.1 FL.out.2.2.1 ?_;simp only [List.toList_toArray];refine hK.out _ _ (fun _=>KR) ?_;clear hK KQ
        (try simp only [jS])
        refine zab.one (i:=3) (by kernel_rfl) rfl (fun KQ hK=>?_);go_simp;refine hK.out _ _ (fun h=>absurd h (by decide)) ?_;clear hK KQ
        (try simp only [jS])
        refine zab.done (by kernel_rfl) ?_ _;go_wp2_with fail;obtain ⟨_,_,_,f4,f5,f6,f7,f8⟩:=FL.out;exact bodyPost_ret (zak rfl _ _ rb (rb+1) H _ _ _ rfl rfl f4 underlying72 rfl f8 f5 underlying74 rfl zao) rfl ⟨H,n,0,g1,HHl.out.1,HHl.out.2.1,HHl.out.2.2,rfl,.inr ⟨HD.out,fun h=>hn1 (by omega)⟩,c9,f6,f7⟩
       ·have hgn:(g0 != 0)=true:=by simpa using hg
        clear hg;have sd:Step No c9 W12 c9 W12.drew:=Step.rf.drewN 1;have od:Ok c9 W12.drew:=X9.out.2.2.2.2.2.drewN 1;obtain ⟨t1,t2,t3,z0,z1,zf0,zf1,v1,v2,s2,o2,s1⟩:=endQ zaO od (X9.out.1.keep sd jI) HZ.out.2.2.1 (X9.out.2.1.keep sd jI) hqr hqf hqq HZ.out.2.2.1 HZ.out.2.2.2.1 g0 g1;have axd:=X9.out.2.2.1.keep sd jI;have agd:=X9.out.2.2.2.1.keep sd jI;have ax1:=axd.keep s1 nxr;have ag1:=agd.keep s1 ngr;have sAll:Step No c w c9 _:=((X9.out.2.2.2.2.1.trans sd.ofNo).trans (s2.mono fun j (e:j=qr∨j=qf)=>hqle j e)).drop (K':=No) fun x _ (e:q≤c x)=>by have:=hqc.out x;omega
        have FL:=jh8 t1 t2 t3 v1 v2 sAll o2 (show (prog.info? 72).map (·.size)=some Z.length by rw [zaO,HZ.out.2.2.1]);have KK:(fun W:World=>W.cell? ⟨fb,0,none⟩=some (.int .i64 g0)∧W.cell? ⟨fb,1,none⟩=some (.int .i64 g1)) W12.drew:=⟨agd.get (i:=0) rfl,agd.get (i:=1) rfl⟩;have KR:(fun W:World=>W.cell? ⟨fb,0,none⟩=some (.int .i64 g0)∧W.cell? ⟨fb,1,none⟩=some (.int .i64 g1)) (W12.drew.setCells rb 0 Z):=⟨ag1.get (i:=0) rfl,ag1.get (i:=1) rfl⟩;have hbz:=HZ.out.2.1;clear sd od t1 t2 t3 v1 v2 s2 o2 s1 axd agd ax1 ag1 sAll X9;go_wp2_with fail;refine zac (fun W=>W.cell? ⟨fb,0,none⟩=some (.int .i64 g0)∧W.cell? ⟨fb,1,none⟩=some (.int .i64 g1)) (fun i=>!([3]:List Nat).contains i) (by kernel_rfl) ?_;refine tk 0 _ 119 rfl rfl (Or.inl ⟨by rfl,fun W hW=>by obtain ⟨q0,q1⟩:=hW;exact zbq 72 hbz #[] rfl rfl⟩) KK ?_;refine tk2 1 _ 120 rfl rfl KK ?_;refine zab.one (i:=2) (by kernel_rfl) rfl (fun KQ hK=>?_);refine zar rfl 72 _ _ rfl rb 0 Z.toArray rfl rfl FL.out.1 FL.out.2.1 FL.out.2.2.1 ?_;simp only [List.toList_toArray];refine hK.out _ _ (fun _=>KR) ?_;clear hK KQ
        (try simp only [jS])
        refine zab.one (i:=3) (by kernel_rfl) rfl (fun KQ hK=>?_);go_simp;refine hK.out _ _ (fun h=>absurd h (by decide)) ?_;clear hK KQ
        (try simp only [jS])
        refine zab.done (by kernel_rfl) ?_ _;go_wp2_with fail;obtain ⟨_,_,_,f4,f5,f6,f7,f8⟩:=FL.out;exact bodyPost_ret (zak rfl _ _ rb (rb+1) Z _ _ _ rfl rfl f4 underlying72 rfl f8 f5 underlying74 rfl zao) rfl ⟨Z,0,g0,g1,HZ.out.2.2.1,HZ.out.2.2.2.1,by rw [←HZ.out.2.2.2.2];rfl,rfl,.inr ⟨HD.out,fun h=>absurd h (by decide)⟩,c9,f6,f7⟩
end
