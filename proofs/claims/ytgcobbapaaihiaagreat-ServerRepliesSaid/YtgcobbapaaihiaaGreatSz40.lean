/- ServerReplies, part 40: lemmas, each with its own conditions. -/
import Derived.Test.YtgcobbapaaihiaaGreatSz38
import Derived.Test.YtgcobbapaaihiaaGreatSz39
import Derived.Deep.CutBlock
set_option linter.all false
set_option maxHeartbeats 12800000
set_option maxRecDepth 100000
open Go.Proofs.Tryz
namespace Go.Proofs.YtgcobbapaaihiaaGreat
open Go.RowKit
section
variable {c:Col}{w:World}
theorem segQ {W:World}{b k o:Nat}{B us:List Value}(h:At c W b k B) (ho:Ok c W) (hk:k≠0) (hl:o+us.length≤B.length) (h1:∀u∈B,u.oneCell'=true) (h2:∀u∈us,u.oneCell'=true) :
  ∃B',B'.length=B.length∧(∀u∈B',u.oneCell'=true)∧At c (W.setCells b o us) b k B'∧W.there b o us.length:=by
 have e:B=B.take o++((B.drop o).take us.length++B.drop (o+us.length)):=by rw [←List.drop_drop,List.take_append_drop,List.take_append_drop]
 have hx:(B.take o).length=o:=by rw [List.length_take];omega
 rw [e] at h;obtain ⟨a,t⟩:=At.seg h ho hk (us:=us) (by rw [List.length_take,List.length_drop];omega);rw [hx] at a t;refine ⟨_,?_,?_,a,t⟩
 ·simp only [List.length_append,List.length_take,List.length_drop];omega
 ·intro u hu
  rcases List.mem_append.1 hu with hu | hu
  ·exact h1 u (List.mem_of_mem_take hu)
  ·rcases List.mem_append.1 hu with hu | hu
   ·exact h2 u hu
   ·exact h1 u (List.mem_of_mem_drop hu)
theorem decode09 (hok:Ok c w) {bs:List UInt8}(hbl:bs.length≤1000000) {kx:Nat}{v:Value}(hv:Sl zag c kx 0 w v bs) :
  Calls prog 74 #[v] w (DecOut (IsU 166) c w):=by
 obtain ⟨q,hq,hqc⟩:=hok.top kx;have hq0:q≠0:=by omega
 obtain ⟨Z,hZl,zB,hbz,hZ1⟩:=build_block0;obtain ⟨qr,hqr1⟩:=jE (q+1);obtain ⟨qf,hqf1⟩:=jE (q+2);obtain ⟨qx,hqx1⟩:=jE (q+6);have hqr:qr≠0:=by omega
 have hqf:qf≠0:=by omega
 have hqx:qx≠0:=by omega
 have hqq:¬qf=qr:=by omega
 have hqle:∀j,j=qr∨j=qf→q≤j:=fun j e=>by rcases e with e | e <;> omega
 have nxr:¬One qr qx:=fun (e:qx=qr)=>by omega
 have ngr:¬One qr (q+7):=fun (e:q+7=qr)=>by omega
 obtain ⟨a2,o2,s2⟩:=zan hok Z 59 qr;obtain ⟨a3,o3,s3⟩:=zan o2 [.int .i64 0,.int .i64 0] 74 qf;rw [World.size_alloc] at a3 o3 s3;obtain ⟨rb,hrb⟩:=jE w.heap.size;rw [hrb] at a2 o2 s2 a3 o3 s3;obtain ⟨W1,hW1⟩:=jE ((w.alloc (.cells Z.toArray 59)).alloc (.cells #[.int .i64 0,.int .i64 0] 74));have hW1':(w.alloc (.cells Z.toArray 59)).alloc (.cells ([Value.int .i64 0,.int .i64 0]:List Value).toArray 74)=W1:=hW1;rw [hW1'] at a3 o3 s3;have NR:=newReader4 o3 (hv.kn (s2.trans s3)) (by omega) q;obtain ⟨va,vd,rfl,_⟩:=hv.form;have HZ:=jh4 zB hbz hZl hZ1;have hqc:=jh1 hqc;have X:=jh3 (a2.keep s3 jI) a3 (s2.trans s3);clear hok hv a2 o2 s2 a3 o3 s3 zB hbz hZl hZ1;go_enter func74,ntmps74;go_wp2_with (first | (refine zaa rfl (some 2) rfl 59 rfl HZ.out.1 ?_))
 (try simp only [World.size_alloc])
 (try rw [hrb])
 (try rw [hW1])
 refine NR.mono ?_;rintro e w2 ⟨p,rfl,c2,i2,s2,o2,_⟩;obtain ⟨ax,ox,sx⟩:=zan o2 Z 59 qx;obtain ⟨xb,hxb⟩:=jE w2.heap.size;rw [hxb] at ax ox sx;obtain ⟨W2,hW2⟩:=jE (w2.alloc (.cells Z.toArray 59));rw [hW2] at ax ox sx;have s2x:=s2.trans sx;have X2:=jh6 (X.out.1.keep s2x jI) (X.out.2.1.keep s2x jI) ax ((X.out.2.2.trans s2x).ofNo (K:=fun j=>q≤j)) (i2.kn sx) ox;clear NR X i2 s2 o2 ax ox sx s2x hW1';go_wp2_with (first | (refine zaa rfl (some 5) rfl 59 rfl HZ.out.1 ?_;rw [hxb];rw [hW2]));go_loopw [6] (fun vi wr=>∃(i:Nat) (cr:Col) (B:List Value) (a:Nat) (f:Int×Int),i≤3∧vi=.int .i64 i∧B.length=166∧(∀u∈B,u.oneCell'=true)∧At cr wr rb qr Z∧At cr wr (rb+1) qf [.int .i64 0,.int .i64 0]∧At cr wr xb qx B∧Step (fun j=>q≤j) c w cr wr∧IsR4 cr q wr p bs a f∧Ok cr wr) (fun vi _=>3-(intOf vi).toNat)
 case atStart=>
  obtain ⟨x1,x2,x3,x4,x5,x6⟩:=X2.out;exact ⟨0,_,Z,_,_,Nat.zero_le _,rfl,HZ.out.2.2.1,HZ.out.2.2.2,x1,x2,x3,x4,x5,x6⟩
 case round=>
  clear X2;obtain ⟨i,cr,B,a,f,hi3,rfl,hB,hB1,aZ,af,ax,st,ir,ok⟩:=hrel;by_cases hlt:i<3
  ·have hltI:(i:Int)<3:=by omega
   have y1:wr.cell? ⟨p,1,none⟩=some (.int .i64 a):=by obtain ⟨_,_,ar,_⟩:=ir.row;exact ar.get (i:=1) rfl
   have BY:=bytes4 ok ir hq0 65536 (by omega);have Y:=jh6 aZ af ax st hB hB1;clear aZ af ax st ir ok hB hB1;go_wp2_with fail;refine BY.mono ?_;rintro e w5 ⟨v5,l5,a5,⟨f50,f51⟩,rfl,c5,sl5,hl5,i5,s5,o5⟩;obtain ⟨va5,vc5,rfl,_⟩:=sl5.form;obtain ⟨g,cap,ar5,_⟩:=i5.row;have y2:=ar5.get (i:=2) rfl;have y3:=ar5.get (i:=3) rfl;have Y5:=jh10 (Y.out.1.keep s5 (show ¬qr=q by omega)) (Y.out.2.1.keep s5 (show ¬qf=q by omega)) (Y.out.2.2.1.keep s5 (show ¬qx=q by omega)) (Y.out.2.2.2.1.trans (s5.mono fun j (e:j=q)=>by omega)) sl5 hl5 i5 o5 Y.out.2.2.2.2.1 Y.out.2.2.2.2.2;clear BY y1 sl5 hl5 i5 s5 o5 Y;by_cases hf:f50≠0
   ·have hfn:(f50 != 0)=true:=by simpa using hf
    have sd:Step No c5 w5 c5 w5.drew:=Step.rf.drewN 1;have od:Ok c5 w5.drew:=Y5.out.2.2.2.2.2.2.2.1.drewN 1;obtain ⟨t1,t2,t3,z0,z1,zf0,zf1,v1,v2,s2,o2,s1⟩:=endQ zah od (Y5.out.1.keep sd jI) HZ.out.2.2.1 (Y5.out.2.1.keep sd jI) hqr hqf hqq HZ.out.2.2.1 HZ.out.2.2.2 f50 f51;have ard:=ar5.keep sd jI;have ar1:=ard.keep s1 (show ¬q=qr by omega);have sAll:Step No c w c5 _:=((Y5.out.2.2.2.1.trans sd.ofNo).trans (s2.mono fun j (e:j=qr∨j=qf)=>hqle j e)).drop (K':=No) fun x _ (e:q≤c x)=>by have:=hqc.out x;omega
    have FL:=jh8 t1 t2 t3 v1 v2 sAll o2 (show (prog.info? 59).map (·.size)=some Z.length by rw [zah,HZ.out.2.2.1]);have KK:(fun W:World=>W.cell? ⟨p,2,none⟩=some (.int .i64 f50)∧W.cell? ⟨p,3,none⟩=some (.int .i64 f51)) w5.drew:=⟨ard.get (i:=2) rfl,ard.get (i:=3) rfl⟩;have KR:(fun W:World=>W.cell? ⟨p,2,none⟩=some (.int .i64 f50)∧W.cell? ⟨p,3,none⟩=some (.int .i64 f51)) (w5.drew.setCells rb 0 Z):=⟨ar1.get (i:=2) rfl,ar1.get (i:=3) rfl⟩;have hbz:=HZ.out.2.1;clear sd od t1 t2 t3 v1 v2 s2 o2 s1 ard ar1 sAll Y5 ar5 hf;go_wp2_with fail;refine zac (fun W=>W.cell? ⟨p,2,none⟩=some (.int .i64 f50)∧W.cell? ⟨p,3,none⟩=some (.int .i64 f51)) (fun i=>!([6]:List Nat).contains i) (by kernel_rfl) ?_;refine tk 0 _ 35 rfl rfl (Or.inl ⟨by rfl,fun W hW=>by obtain ⟨q0,q1⟩:=hW;exact zbq 59 hbz #[] rfl rfl⟩) KK ?_;refine tk2 1 _ 36 rfl rfl KK ?_;refine tk2 2 _ 37 rfl rfl KK ?_;refine tk2 3 _ 38 rfl rfl KK ?_;refine tk2 4 _ 39 rfl rfl KK ?_;refine zab.one (i:=5) (by kernel_rfl) rfl (fun KQ hK=>?_);refine zar rfl 59 _ _ rfl rb 0 Z.toArray rfl rfl FL.out.1 FL.out.2.1 FL.out.2.2.1 ?_;simp only [List.toList_toArray];refine hK.out _ _ (fun _=>KR) ?_;clear hK KQ
    (try simp only [jS])
    refine zab.one (i:=6) (by kernel_rfl) rfl (fun KQ hK=>?_);go_simp;refine hK.out _ _ (fun h=>absurd h (by decide)) ?_;clear hK KQ
    (try simp only [jS])
    refine zab.done (by kernel_rfl) ?_ _;go_wp2_with fail;obtain ⟨_,_,_,f4,f5,f6,f7,f8⟩:=FL.out;exact bodyPost_ret (zak rfl _ _ rb (rb+1) Z _ _ _ rfl rfl f4 underlying59 rfl f8 f5 underlying74 rfl zao) rfl ⟨_,f50,f51,rfl,c5,⟨Z,rfl,HZ.out.2.2.1,HZ.out.2.2.2⟩,f6,f7⟩
   obtain rfl:f50=0:=by omega
   obtain ⟨a9,o9,s9⟩:=zan Y5.out.2.2.2.2.2.2.2.1 [.int .i64 0,.int .i64 0] 74 (q+5);obtain ⟨b9,hb9⟩:=jE w5.heap.size;rw [hb9] at a9 o9 s9;obtain ⟨W9,hW9⟩:=jE (w5.alloc (.cells #[.int .i64 0,.int .i64 0] 74));have hW9':w5.alloc (.cells ([Value.int .i64 0,.int .i64 0]:List Value).toArray 74)=W9:=hW9;rw [hW9'] at a9 o9 s9;have Y9:=jh11 (Y5.out.1.keep s9 jI) (Y5.out.2.1.keep s9 jI) (Y5.out.2.2.1.keep s9 jI) (Y5.out.2.2.2.1.trans s9.ofNo) (Y5.out.2.2.2.2.1.kn s9) Y5.out.2.2.2.2.2.1 (Y5.out.2.2.2.2.2.2.1.kn s9) o9 Y5.out.2.2.2.2.2.2.2.2.1 Y5.out.2.2.2.2.2.2.2.2.2 a9;clear Y5 ar5 a9 o9 s9 hW9' hf y3;go_upto_block 2 with fail
   (try rw [hb9])
   (try rw [hW9])
   go_cut [10,11,12,13,14,15] from 40 to 68 (fun _ _ _ _ _ _ wr=>∃(cr:Col) (B:List Value) (g0 g1:Int) (f:Int×Int),B.length=166∧(∀u∈B,u.oneCell'=true)∧At cr wr rb qr Z∧At cr wr (rb+1) qf [.int .i64 0,.int .i64 0]∧At cr wr xb qx B∧At cr wr b9 (q+5) [.int .i64 g0,.int .i64 g1]∧Step (fun j=>q≤j) c w cr wr∧IsR4 cr q wr p bs a5 f∧Ok cr wr)
   case first=>
    obtain ⟨ZF,hZF,zF⟩:=zaV;have HZF:=jh2 hZF zF;clear hZF zF
    rcases (by omega:i=0∨i=1∨i=2) with rfl | rfl | rfl
    ·have D:=decode06 Y9.out.2.2.2.2.2.2.2.1 (by have:=Y9.out.2.2.2.2.2.1;omega) Y9.out.2.2.2.2.1
     unfold DecOut IsHdr at D;go_wp2_with fail;refine D.mono ?_;rintro e w6 ⟨_,g0,g1,rfl,c6,⟨h,hwf,rfl⟩,s6,o6⟩;have hHl:=zaj hwf;have hH1:=zaR h;obtain ⟨H,hH⟩:=jE (zaz h);rw [hH] at hHl hH1 ⊢;obtain ⟨ZH,hZH,zH⟩:=zero_header;obtain ⟨W7,W8,c8,hW7,hW8,am,ag,o8,s8,t1,t2,t3,t4,t5,t6⟩:=stnew2 o6 hZH hHl hH1 zat HZF.out.1 (B2:=[.int .i64 g0,.int .i64 g1]) rfl (by intro v hv;simp only [List.mem_cons,List.not_mem_nil,or_false] at hv;rcases hv with rfl | rfl <;> rfl) zaG (q:=q+3) (q2:=q+4) (jz _) (jz _);obtain ⟨mb,hmb⟩:=jE w6.heap.size;rw [hmb] at hW7 hW8 am ag t1 t4;have s68:=s6.trans s8;have ax8:=Y9.out.2.2.1.keep s68 jI;obtain ⟨B',hB',hB1',ax9,tx⟩:=segQ ax8 o8 hqx (o:=0) (us:=H) (by rw [Y9.out.2.2.2.2.2.2.2.2.1,hHl];omega) Y9.out.2.2.2.2.2.2.2.2.2.1 hH1;have sX:Step (One qx) c8 W8 c8 (W8.setCells xb 0 H):=Step.setCells (K:=One qx) (.inr ax8.col) _ _ _ Step.refl;have oX:=Ok.setCells (b:=xb) H 0 _ o8;obtain ⟨WX,hWX⟩:=jE (W8.setCells xb 0 H);rw [hWX] at ax9 sX oX;have agX:=ag.keep sX (show ¬q+4=qx by omega);have a9X:=(Y9.out.2.2.2.2.2.2.2.2.2.2.keep s68 jI).keep sX (show ¬q+5=qx by omega);obtain ⟨f1,f2,f3,f4,f5,f6,f7⟩:=a9X.faultG oX (jz _) g0 g1;have x0:=agX.get (i:=0) rfl;have x1:=agX.get (i:=1) rfl;have nZ:∀{k:Nat},k=qr∨k=qf∨k=q→¬k=qx:=fun h=>by rcases h with h | h | h <;> omega
     have R:=jh9 (hB'.trans Y9.out.2.2.2.2.2.2.2.2.1) hB1' (((Y9.out.1.keep s68 jI).keep sX (show ¬qr=qx by omega)).keep f3 (show ¬qr=q+5 by omega)) (((Y9.out.2.1.keep s68 jI).keep sX (show ¬qf=qx by omega)).keep f3 (show ¬qf=q+5 by omega)) (ax9.keep f3 (show ¬qx=q+5 by omega)) f1 (((Y9.out.2.2.2.1.trans s68.ofNo).trans (sX.mono fun j (e:j=qx)=>by omega)).trans (f3.mono fun j (e:j=q+5)=>by omega)) (((Y9.out.2.2.2.2.2.2.1.kn s68).keep sX (show ¬q=qx by omega) (show ¬0=qx by omega)).keep f3 (show ¬q=q+5 by omega) (show ¬0=q+5 by omega)) f2;have TT:=jh13 t1 t2 t3 t4 t5 t6 hW7 hW8 zH am.cells (show (prog.info? 53).map (·.size)=some H.length by rw [zat,hHl]) (show W8.there xb 0 H.toArray.size by simpa using tx) hWX;clear D s6 o6 am ag o8 s8 t1 t2 t3 t4 t5 t6 s68 ax8 ax9 tx sX oX agX a9X f1 f2 f3 hW7 hW8 zH hZH hHl hH1 hH hB' hB1' hWX;go_wp2_with (first | (refine zaa rfl (some 10) rfl 53 rfl TT.out.2.2.2.2.2.2.2.2.1 ?_;rw [hmb]) | (refine zaa rfl (some 11) rfl 74 rfl HZF.out.2 ?_;rw [World.size_alloc,hmb]) | (refine wpList_store_mid rfl 53 _ _ rfl mb 0 H.toArray rfl rfl TT.out.1 TT.out.2.1 TT.out.2.2.1 ?_;rw [TT.out.2.2.2.2.2.2.1]) | (refine wpList_store_mid rfl 74 _ _ rfl (mb+1) 0 _ rfl rfl TT.out.2.2.2.1 TT.out.2.2.2.2.1 TT.out.2.2.2.2.2.1 ?_;rw [TT.out.2.2.2.2.2.2.2.1]) | (refine wpList_load_mid rfl 53 _ rfl mb 0 rfl H _ TT.out.2.2.2.2.2.2.2.2.2.1 underlying53 rfl TT.out.2.2.2.2.2.2.2.2.2.2.1 ?_) | (refine wpList_store_mid rfl 53 _ _ rfl xb 0 H.toArray rfl rfl TT.out.2.2.2.2.2.2.2.2.2.2.2.1 TT.out.2.1 TT.out.2.2.1 ?_;rw [TT.out.2.2.2.2.2.2.2.2.2.2.2.2]));go_meet
     case rel=>exact ⟨c8,B',g0,g1,_,R.out⟩
    ·have D:=decode07 Y9.out.2.2.2.2.2.2.2.1 (by have:=Y9.out.2.2.2.2.2.1;omega) Y9.out.2.2.2.2.1
     unfold DecOut IsCmt at D;go_wp2_with fail;refine D.mono ?_;rintro e w6 ⟨_,g0,g1,rfl,c6,⟨x,u,rfl,hh,_,_,hu⟩,s6,o6⟩;have hHl:=zaS hh u;have hH1:=zbx (x:=x) (sl_one hu);obtain ⟨H,hH⟩:=jE (cmC x u);rw [hH] at hHl hH1 ⊢;clear hu;obtain ⟨ZH,hZH,zH⟩:=zero_commit;obtain ⟨W7,W8,c8,hW7,hW8,am,ag,o8,s8,t1,t2,t3,t4,t5,t6⟩:=stnew2 o6 hZH hHl hH1 zaw HZF.out.1 (B2:=[.int .i64 g0,.int .i64 g1]) rfl (by intro v hv;simp only [List.mem_cons,List.not_mem_nil,or_false] at hv;rcases hv with rfl | rfl <;> rfl) zaG (q:=q+3) (q2:=q+4) (jz _) (jz _);obtain ⟨mb,hmb⟩:=jE w6.heap.size;rw [hmb] at hW7 hW8 am ag t1 t4;have s68:=s6.trans s8;have ax8:=Y9.out.2.2.1.keep s68 jI;obtain ⟨B',hB',hB1',ax9,tx⟩:=segQ ax8 o8 hqx (o:=131) (us:=H) (by rw [Y9.out.2.2.2.2.2.2.2.2.1,hHl];omega) Y9.out.2.2.2.2.2.2.2.2.2.1 hH1;have sX:Step (One qx) c8 W8 c8 (W8.setCells xb 131 H):=Step.setCells (K:=One qx) (.inr ax8.col) _ _ _ Step.refl;have oX:=Ok.setCells (b:=xb) H 131 _ o8;obtain ⟨WX,hWX⟩:=jE (W8.setCells xb 131 H);rw [hWX] at ax9 sX oX;have agX:=ag.keep sX (show ¬q+4=qx by omega);have a9X:=(Y9.out.2.2.2.2.2.2.2.2.2.2.keep s68 jI).keep sX (show ¬q+5=qx by omega);obtain ⟨f1,f2,f3,f4,f5,f6,f7⟩:=a9X.faultG oX (jz _) g0 g1;have x0:=agX.get (i:=0) rfl;have x1:=agX.get (i:=1) rfl;have nZ:∀{k:Nat},k=qr∨k=qf∨k=q→¬k=qx:=fun h=>by rcases h with h | h | h <;> omega
     have R:=jh9 (hB'.trans Y9.out.2.2.2.2.2.2.2.2.1) hB1' (((Y9.out.1.keep s68 jI).keep sX (show ¬qr=qx by omega)).keep f3 (show ¬qr=q+5 by omega)) (((Y9.out.2.1.keep s68 jI).keep sX (show ¬qf=qx by omega)).keep f3 (show ¬qf=q+5 by omega)) (ax9.keep f3 (show ¬qx=q+5 by omega)) f1 (((Y9.out.2.2.2.1.trans s68.ofNo).trans (sX.mono fun j (e:j=qx)=>by omega)).trans (f3.mono fun j (e:j=q+5)=>by omega)) (((Y9.out.2.2.2.2.2.2.1.kn s68).keep sX (show ¬q=qx by omega) (show ¬0=qx by omega)).keep f3 (show ¬q=q+5 by omega) (show ¬0=q+5 by omega)) f2;have TT:=jh13 t1 t2 t3 t4 t5 t6 hW7 hW8 zH am.cells (show (prog.info? 56).map (·.size)=some H.length by rw [zaw,hHl]) (show W8.there xb 131 H.toArray.size by simpa using tx) hWX;clear D s6 o6 am ag o8 s8 t1 t2 t3 t4 t5 t6 s68 ax8 ax9 tx sX oX agX a9X f1 f2 f3 hW7 hW8 zH hZH hHl hH1 hH hB' hB1' hWX;go_wp2_with (first | (refine zaa rfl (some 12) rfl 56 rfl TT.out.2.2.2.2.2.2.2.2.1 ?_;rw [hmb]) | (refine zaa rfl (some 13) rfl 74 rfl HZF.out.2 ?_;rw [World.size_alloc,hmb]) | (refine wpList_store_mid rfl 56 _ _ rfl mb 0 H.toArray rfl rfl TT.out.1 TT.out.2.1 TT.out.2.2.1 ?_;rw [TT.out.2.2.2.2.2.2.1]) | (refine wpList_store_mid rfl 74 _ _ rfl (mb+1) 0 _ rfl rfl TT.out.2.2.2.1 TT.out.2.2.2.2.1 TT.out.2.2.2.2.2.1 ?_;rw [TT.out.2.2.2.2.2.2.2.1]) | (refine wpList_load_mid rfl 56 _ rfl mb 0 rfl H _ TT.out.2.2.2.2.2.2.2.2.2.1 underlying56 rfl TT.out.2.2.2.2.2.2.2.2.2.2.1 ?_) | (refine wpList_store_mid rfl 56 _ _ rfl xb 131 H.toArray rfl rfl TT.out.2.2.2.2.2.2.2.2.2.2.2.1 TT.out.2.1 TT.out.2.2.1 ?_;rw [TT.out.2.2.2.2.2.2.2.2.2.2.2.2]));go_meet
     case rel=>exact ⟨c8,B',g0,g1,_,R.out⟩
    ·have D:=decode05 Y9.out.2.2.2.2.2.2.2.1 (by have:=Y9.out.2.2.2.2.2.1;omega) Y9.out.2.2.2.2.1
     unfold DecOut IsVals at D;go_wp2_with fail;refine D.mono ?_;rintro e w6 ⟨vv,g0,g1,rfl,c6,⟨lv,_,hlv⟩,s6,o6⟩;obtain ⟨va6,vc6,rfl,_⟩:=hlv.form;obtain ⟨W8,c8,hW8,ag,o8,s8,t1,t2,t3,t4⟩:=stnew o6 HZF.out.1 (B:=[.int .i64 g0,.int .i64 g1]) rfl (by intro v hv;simp only [List.mem_cons,List.not_mem_nil,or_false] at hv;rcases hv with rfl | rfl <;> rfl) zaG (q:=q+4) (jz _);obtain ⟨mb,hmb⟩:=jE w6.heap.size;rw [hmb] at hW8 ag t1;have s68:=s6.trans s8;have ax8:=Y9.out.2.2.1.keep s68 jI;obtain ⟨u5,hu5⟩:∃u,B[165]? = some u:=⟨B[165]'(by rw [Y9.out.2.2.2.2.2.2.2.2.1];omega),by simp⟩;have y5:=ax8.get hu5;have y5f:=ax8.fz o8 hqx 165;have ax9:=ax8.setN (i:=165) (by rw [Y9.out.2.2.2.2.2.2.2.2.1];omega) (.slice va6 lv.length vc6);have sX:Step (One qx) c8 W8 c8 (W8.setCell ⟨xb,165,none⟩ (.slice va6 lv.length vc6)):=(Step.refl (K:=One qx)).setCell (a:=⟨xb,165,none⟩) (.inr ax8.col) _;have oX:=o8.setCell ⟨xb,165,none⟩ (.slice va6 lv.length vc6);obtain ⟨WX,hWX⟩:=jE (W8.setCell ⟨xb,165,none⟩ (.slice va6 lv.length vc6));rw [hWX] at ax9 sX oX;have agX:=ag.keep sX (show ¬q+4=qx by omega);have a9X:=(Y9.out.2.2.2.2.2.2.2.2.2.2.keep s68 jI).keep sX (show ¬q+5=qx by omega);obtain ⟨f1,f2,f3,f4,f5,f6,f7⟩:=a9X.faultG oX (jz _) g0 g1;have x0:=agX.get (i:=0) rfl;have x1:=agX.get (i:=1) rfl;have R:=jh9 (show (B.set 165 (.slice va6 lv.length vc6)).length=166 by rw [List.length_set];exact Y9.out.2.2.2.2.2.2.2.2.1) (show ∀u∈B.set 165 (.slice va6 lv.length vc6),u.oneCell'=true from fun u hu=>by rcases List.mem_or_eq_of_mem_set hu with h | rfl;exact Y9.out.2.2.2.2.2.2.2.2.2.1 u h;rfl) (((Y9.out.1.keep s68 jI).keep sX (show ¬qr=qx by omega)).keep f3 (show ¬qr=q+5 by omega)) (((Y9.out.2.1.keep s68 jI).keep sX (show ¬qf=qx by omega)).keep f3 (show ¬qf=q+5 by omega)) (ax9.keep f3 (show ¬qx=q+5 by omega)) f1 (((Y9.out.2.2.2.1.trans s68.ofNo).trans (sX.mono fun j (e:j=qx)=>by omega)).trans (f3.mono fun j (e:j=q+5)=>by omega)) (((Y9.out.2.2.2.2.2.2.1.kn s68).keep sX (show ¬q=qx by omega) (show ¬0=qx by omega)).keep f3 (show ¬q=q+5 by omega) (show ¬0=q+5 by omega)) f2;have TT:=jh5 t1 t2 t3 t4 hW8;clear D s6 o6 ag o8 s8 t1 t2 t3 t4 s68 ax8 ax9 sX oX agX a9X f1 f2 f3 hW8 hlv hu5;go_wp2_with (first | (refine zaa rfl (some 15) rfl 74 rfl HZF.out.2 ?_;rw [hmb]) | (refine wpList_store_mid rfl 74 _ _ rfl mb 0 _ rfl rfl TT.out.1 TT.out.2.1 TT.out.2.2.1 ?_;rw [TT.out.2.2.2.2]))
     (try rw [hWX])
     go_meet
     case rel=>exact ⟨c8,_,g0,g1,_,R.out⟩
   case rest=>
    obtain ⟨cC,B',g0,g1,fC,hB',hB1',aZ,af,ax,a9,st,ir,okc⟩:=hcut;have h0:=a9.get (i:=0) rfl;by_cases hg:g0≠0
    ·have hgn:(g0 != 0)=true:=by simpa using hg
     obtain ⟨t1,t2,t3,z0,z1,zf0,zf1,v1,v2,sE,oE,_⟩:=endQ zah okc aZ HZ.out.2.2.1 af hqr hqf hqq HZ.out.2.2.1 HZ.out.2.2.2 5 a;have FL:=jh7 t1 t2 t3 v1 v2 ((st.trans (sE.mono fun j (e:j=qr∨j=qf)=>hqle j e)).drop (K':=No) fun b _ (e:q≤c b)=>by have:=hqc.out b;omega) oE;have hbz:=HZ.out.2.1;clear aZ af ax a9 st ir okc t1 t2 t3 v1 v2 sE oE hg hB1' Y9;go_upto_region 24 with fail;refine wp_region_lit ?_;refine zaA rfl (some 72) rfl 59 #[] rfl Z (ps:=[]) (by simp) hbz ?_
     (try simp only [jS])
     go_wp2_with (first | (refine wpList_store_mid rfl 59 _ _ rfl rb 0 Z.toArray rfl rfl FL.out.1 FL.out.2.1 FL.out.2.2.1 ?_));exact bodyPost_ret (zak rfl _ _ rb (rb+1) Z _ _ _ rfl rfl FL.out.2.2.2.1 underlying59 rfl (by rw [zah,HZ.out.2.2.1]) FL.out.2.2.2.2.1 underlying74 rfl zao) rfl ⟨_,5,_,rfl,cC,⟨Z,rfl,HZ.out.2.2.1,HZ.out.2.2.2⟩,FL.out.2.2.2.2.2.1,FL.out.2.2.2.2.2.2⟩
    obtain rfl:g0=0:=by omega
    have X:=jh8 hB' hB1' aZ af ax st ir okc;clear hB' hB1' aZ af ax a9 st ir okc hg Y9;go_wp2;go_roundw
    case rel=>exact ⟨i+1,cC,B',_,_,by omega,by first | rfl | go_num,X.out⟩
    case measure=>(simp [intOf];try omega)
  ·have hltI:¬(i:Int)<3:=by omega
   have EN:=end4 ok ir;have Yv:=jh4 aZ af ax st;have HHl:=jh2 hB hB1;clear aZ af ax st ir ok hB hB1;obtain ⟨g0,hg0⟩:=jE ((endF bs a f).1);obtain ⟨g1,hg1⟩:=jE ((endF bs a f).2);rw [hg0,hg1] at EN;go_wp2_with fail;refine EN.mono ?_;rintro e wc ⟨rfl,c5,s5,o5⟩;obtain ⟨a6,o6,s6⟩:=zan o5 [.int .i64 g0,.int .i64 g1] 74 (q+7);obtain ⟨fb,hfb⟩:=jE wc.heap.size;rw [hfb] at a6 o6 s6;obtain ⟨W6,hW6⟩:=jE (wc.alloc (.cells #[.int .i64 g0,.int .i64 g1] 74));have hW6':wc.alloc (.cells ([Value.int .i64 g0,.int .i64 g1]:List Value).toArray 74)=W6:=hW6;rw [hW6'] at a6 o6 s6;have s56:=s5.trans s6;obtain ⟨c9,hc9⟩:=jE (c5.put fb (q+7));rw [hc9] at a6 o6 s6 s56;have X9:=jh6 (Yv.out.1.keep s56 jI) (Yv.out.2.1.keep s56 jI) (Yv.out.2.2.1.keep s56 jI) a6 (Yv.out.2.2.2.trans s56.ofNo) o6;have h0:=a6.get (i:=0) rfl;clear EN Yv s5 o5 a6 o6 s6 s56 hW6' hg0 hg1 hc9;by_cases hg:g0=0
   ·subst hg
    have sd:Step No c9 W6 c9 W6.drew:=Step.rf.drewN 1;have od:Ok c9 W6.drew:=X9.out.2.2.2.2.2.drewN 1;obtain ⟨t1,t2,t3,z0,z1,zf0,zf1,v1,v2,s2,o2,s1⟩:=endQ zah od (X9.out.1.keep sd jI) HZ.out.2.2.1 (X9.out.2.1.keep sd jI) hqr hqf hqq HHl.out.1 HHl.out.2 0 g1;have axd:=X9.out.2.2.1.keep sd jI;have agd:=X9.out.2.2.2.1.keep sd jI;have ax1:=axd.keep s1 nxr;have ag1:=agd.keep s1 ngr;have sAll:Step No c w c9 _:=((X9.out.2.2.2.2.1.trans sd.ofNo).trans (s2.mono fun j (e:j=qr∨j=qf)=>hqle j e)).drop (K':=No) fun x _ (e:q≤c x)=>by have:=hqc.out x;omega
    have FL:=jh8 t1 t2 t3 v1 v2 sAll o2 (show (prog.info? 59).map (·.size)=some B.length by rw [zah,HHl.out.1]);have hiv:(prog.info? 59).map (·.size)=some B.length:=FL.out.2.2.2.2.2.2.2;have KK:(fun W:World=>(Instr.loadAt 59 (.pointer (some ⟨xb,0,none⟩))).run prog W=.ok (.agg B.toArray) W∧W.cell? ⟨fb,0,none⟩=some (.int .i64 0)∧W.cell? ⟨fb,1,none⟩=some (.int .i64 g1)) W6.drew:=⟨axd.ld (ty:=59) underlying59 rfl hiv,agd.get (i:=0) rfl,agd.get (i:=1) rfl⟩;have KR:(fun W:World=>(Instr.loadAt 59 (.pointer (some ⟨xb,0,none⟩))).run prog W=.ok (.agg B.toArray) W∧W.cell? ⟨fb,0,none⟩=some (.int .i64 0)∧W.cell? ⟨fb,1,none⟩=some (.int .i64 g1)) (W6.drew.setCells rb 0 B):=⟨ax1.ld (ty:=59) underlying59 rfl hiv,ag1.get (i:=0) rfl,ag1.get (i:=1) rfl⟩;clear sd od t1 t2 t3 v1 v2 s2 o2 s1 axd agd ax1 ag1 sAll X9 hiv;go_wp2_with fail;refine zac (fun W=>(Instr.loadAt 59 (.pointer (some ⟨xb,0,none⟩))).run prog W=.ok (.agg B.toArray) W∧W.cell? ⟨fb,0,none⟩=some (.int .i64 0)∧W.cell? ⟨fb,1,none⟩=some (.int .i64 g1)) (fun i=>!([3]:List Nat).contains i) (by kernel_rfl) ?_;refine tk 0 _ 82 rfl rfl (Or.inl ⟨by rfl,fun W hW=>by obtain ⟨q0,q1,q2⟩:=hW;exact zaT 59 q0 (.tmp 5) rfl rfl⟩) KK ?_;refine tk3 1 _ 83 rfl rfl KK ?_;refine zab.one (i:=2) (by kernel_rfl) rfl (fun KQ hK=>?_);refine zar rfl 59 _ _ rfl rb 0 B.toArray rfl rfl FL.out.1 FL.out.2.1 FL.out.2.2.1 ?_;simp only [List.toList_toArray];refine hK.out _ _ (fun _=>KR) ?_;clear hK KQ
    (try simp only [jS])
    refine zab.one (i:=3) (by kernel_rfl) rfl (fun KQ hK=>?_);go_simp;refine hK.out _ _ (fun h=>absurd h (by decide)) ?_;clear hK KQ
    (try simp only [jS])
    refine zab.done (by kernel_rfl) ?_ _;go_wp2_with fail;obtain ⟨_,_,_,f4,f5,f6,f7,f8⟩:=FL.out;exact bodyPost_ret (zak rfl _ _ rb (rb+1) B _ _ _ rfl rfl f4 underlying59 rfl f8 f5 underlying74 rfl zao) rfl ⟨_,0,g1,rfl,c9,⟨B,rfl,HHl.out.1,HHl.out.2⟩,f6,f7⟩
   ·have hgn:(g0 != 0)=true:=by simpa using hg
    clear hg;have sd:Step No c9 W6 c9 W6.drew:=Step.rf.drewN 1;have od:Ok c9 W6.drew:=X9.out.2.2.2.2.2.drewN 1;obtain ⟨t1,t2,t3,z0,z1,zf0,zf1,v1,v2,s2,o2,s1⟩:=endQ zah od (X9.out.1.keep sd jI) HZ.out.2.2.1 (X9.out.2.1.keep sd jI) hqr hqf hqq HZ.out.2.2.1 HZ.out.2.2.2 g0 g1;have axd:=X9.out.2.2.1.keep sd jI;have agd:=X9.out.2.2.2.1.keep sd jI;have ax1:=axd.keep s1 nxr;have ag1:=agd.keep s1 ngr;have sAll:Step No c w c9 _:=((X9.out.2.2.2.2.1.trans sd.ofNo).trans (s2.mono fun j (e:j=qr∨j=qf)=>hqle j e)).drop (K':=No) fun x _ (e:q≤c x)=>by have:=hqc.out x;omega
    have FL:=jh8 t1 t2 t3 v1 v2 sAll o2 (show (prog.info? 59).map (·.size)=some Z.length by rw [zah,HZ.out.2.2.1]);have KK:(fun W:World=>W.cell? ⟨fb,0,none⟩=some (.int .i64 g0)∧W.cell? ⟨fb,1,none⟩=some (.int .i64 g1)) W6.drew:=⟨agd.get (i:=0) rfl,agd.get (i:=1) rfl⟩;have KR:(fun W:World=>W.cell? ⟨fb,0,none⟩=some (.int .i64 g0)∧W.cell? ⟨fb,1,none⟩=some (.int .i64 g1)) (W6.drew.setCells rb 0 Z):=⟨ag1.get (i:=0) rfl,ag1.get (i:=1) rfl⟩;have hbz:=HZ.out.2.1;clear sd od t1 t2 t3 v1 v2 s2 o2 s1 axd agd ax1 ag1 sAll X9;go_wp2_with fail;refine zac (fun W=>W.cell? ⟨fb,0,none⟩=some (.int .i64 g0)∧W.cell? ⟨fb,1,none⟩=some (.int .i64 g1)) (fun i=>!([3]:List Nat).contains i) (by kernel_rfl) ?_;refine tk 0 _ 80 rfl rfl (Or.inl ⟨by rfl,fun W hW=>by obtain ⟨q0,q1⟩:=hW;exact zbq 59 hbz #[] rfl rfl⟩) KK ?_;refine tk2 1 _ 81 rfl rfl KK ?_;refine zab.one (i:=2) (by kernel_rfl) rfl (fun KQ hK=>?_);refine zar rfl 59 _ _ rfl rb 0 Z.toArray rfl rfl FL.out.1 FL.out.2.1 FL.out.2.2.1 ?_;simp only [List.toList_toArray];refine hK.out _ _ (fun _=>KR) ?_;clear hK KQ
    (try simp only [jS])
    refine zab.one (i:=3) (by kernel_rfl) rfl (fun KQ hK=>?_);go_simp;refine hK.out _ _ (fun h=>absurd h (by decide)) ?_;clear hK KQ
    (try simp only [jS])
    refine zab.done (by kernel_rfl) ?_ _;go_wp2_with fail;obtain ⟨_,_,_,f4,f5,f6,f7,f8⟩:=FL.out;exact bodyPost_ret (zak rfl _ _ rb (rb+1) Z _ _ _ rfl rfl f4 underlying59 rfl f8 f5 underlying74 rfl zao) rfl ⟨_,g0,g1,rfl,c9,⟨Z,rfl,HZ.out.2.2.1,HZ.out.2.2.2⟩,f6,f7⟩
end
section
variable {c:Col}{w:World}
theorem own1 (hok:Ok c w) (x:UInt8) (q:Nat) :
  Own zag 5 (c.put w.heap.size q) q 0 (w.alloc (.cells #[.int .u8 x.toNat] 5)) (.slice (some ⟨w.heap.size,0,none⟩) 1 1) [x]∧Ok (c.put w.heap.size q) (w.alloc (.cells #[.int .u8 x.toNat] 5))∧Step No c w (c.put w.heap.size q) (w.alloc (.cells #[.int .u8 x.toNat] 5)):=by
 refine Own.new zag 5 hok q 0 [[.int .u8 x.toNat]] [x] rfl (by simp [maxLen]) ?_ ?_
 ·intro i y hi
  have h0:i=0:=by have:=(List.getElem?_eq_some_iff.1 hi).1;simp at this;omega
  subst h0;simp at hi;subst hi;exact ⟨_,rfl,rfl⟩
 ·intro vs hvs
  simp at hvs;subst hvs
  rfl
theorem number04 (hok:Ok c w) (n:Nat) (hn:n<9223372036854775808) (k:Nat) :
  Calls prog 124 #[.int .i64 n] w fun r w'=>∃v,r=.returned v∧∃c',Own zag 5 c' k 0 w' v (zay n)∧Step No c w c' w'∧Ok c' w':=by
 have H:=jh1 hok;clear hok;go_enter func124,ntmps124;go_wp2;go_loopw [0,3] (fun vn vb wr=>∃(m f:Nat) (l:List UInt8) (cr:Col),vn=.int .i64 m∧m≤n∧l.length+f=8∧m<256 ^ f∧minB n=minF f m++l∧Sl zag cr 0 0 wr vb l∧Step No c w cr wr∧Ok cr wr) (fun vn _ _=>(intOf vn).toNat)
 case atStart=>exact ⟨n,8,[],c,rfl,Nat.le_refl _,rfl,by omega,by simp [minB],Sl.nil _ _ _ _ _,Step.refl,H.out⟩
 case round=>
  obtain ⟨m,f,l,cr,rfl,hmn,hlf,hm,he,sl,st,ok⟩:=hrel;obtain ⟨va,vc,rfl,_⟩:=sl.form;obtain ⟨q,hq,hqc⟩:=ok.spare 0;have hqk:0≠q:=by omega
  have hq0:q≠0:=by omega
  by_cases hz:m=0
  ·subst hz
   have hl:minB n=l:=by rw [he,minF_zero];rfl
   obtain ⟨o1,o2,o3⟩:=own1 ok (UInt8.ofNat l.length) q;have hv:((l.length:Int) % 256)=((UInt8.ofNat l.length).toNat:Int):=by have:=u8_nat l.length;rw [this,Nat.mod_eq_of_lt (by omega:l.length<256)]
   have hu:IntKind.u8.wrap (l.length:Int)=((UInt8.ofNat l.length).toNat:Int):=by rw [IntKind.wrap_u8];exact hv
   have hml:[UInt8.ofNat l.length].length+l.length≤maxLen:=by simp [maxLen];omega
   have hbl:([UInt8.ofNat l.length].length+l.length)*1≤140737488355328:=by simp;omega
   have hx:=sl.kn o3;have HE:=jh3 hl st hqc;obtain ⟨u,huu⟩:=jE (UInt8.ofNat l.length);rw [huu] at o1 o2 o3 hv hu hml hbl hx;have HU:=jh2 huu o3;clear sl st ok hm he hl hqc huu o3;go_wp2_with (at_builtin;refine zaq zag o2 rfl _ _ 26 rfl 5 underlying26 zbp rfl (by decide) rfl rfl o1 hx hqk hml hbl ?_;rintro v4 w4 c4 a1 a2 a3 -);go_ret;refine ⟨_,rfl,c4.turn q k,?_,HE.out.2.1.trans (((HU.out.2.ofNo.trans a2).turn rfl).own HE.out.2.2),a3.turn hq0⟩;have hnum:zay n=[u]++l:=by rw [zay,HE.out.1,HU.out.1];rfl
   rw [hnum];exact a1.turn hqk
  ·have hm0:0<m:=by omega
   have hmi:(0:Int)<(m:Int):=by omega
   have hip:0<f:=by
    rcases Nat.eq_zero_or_pos f with h | h
    ·subst h;simp at hm;omega
    ·exact h
   obtain ⟨f',rfl⟩:∃i',f=i'+1:=⟨f-1,by omega⟩;have hm2:m / 256<256 ^ f':=Nat.div_lt_of_lt_mul (by rw [Nat.pow_succ] at hm;omega)
   have hE:minB n=minF f' (m / 256)++(UInt8.ofNat (m % 256)::l):=by
    rw [he,minF,if_neg hz];simp
   obtain ⟨o1,o2,o3⟩:=own1 ok (UInt8.ofNat (m % 256)) q;have hv:((m:Int) % 256)=((UInt8.ofNat (m % 256)).toNat:Int):=u8_nat m;have hu:IntKind.u8.wrap (m:Int)=((UInt8.ofNat (m % 256)).toNat:Int):=by rw [IntKind.wrap_u8];exact hv
   have hml:[UInt8.ofNat (m % 256)].length+l.length≤maxLen:=by simp [maxLen];omega
   have hbl:([UInt8.ofNat (m % 256)].length+l.length)*1≤140737488355328:=by simp;omega
   have hx:=sl.kn o3;obtain ⟨d,hd⟩:=jE (m / 256);have hsh:(m:Int) / 256=(d:Int):=by omega
   have hdn:d≤n:=by omega
   have hdm:d<m:=by omega
   rw [hd] at hE hm2;have HE:=jh5 hE st hqc hlf hm2;obtain ⟨u,huu⟩:=jE (UInt8.ofNat (m % 256));rw [huu] at o1 o2 o3 hv hu hml hbl hx;have HU:=jh2 huu o3;clear sl st ok hm he hE hqc huu o3 hlf hm2 hz hd;go_wp2_with (at_builtin;refine zaq zag o2 rfl _ _ 26 rfl 5 underlying26 zbp rfl (by decide) rfl rfl o1 hx hqk hml hbl ?_;rintro v4 w4 c4 a1 a2 a3 -);refine ⟨⟨d,f',u::l,c4.turn q 0,by go_num,hdn,?_,HE.out.2.2.2.2,?_,(a1.turn hqk).sl,HE.out.2.1.trans (((HU.out.2.ofNo.trans a2).turn rfl).own HE.out.2.2.1),a3.turn hq0⟩,by simp [intOf];omega⟩
   ·have:=HE.out.2.2.2.1;simp;omega
   ·rw [HE.out.1,HU.out.1]
theorem word04 (hok:Ok c w) (n:Nat) (hn:n<18446744073709551616) :
  Calls prog 182 #[.int .u64 n] w fun r w'=>∃v,r=.returned v∧∃c',Sl zag c' 0 0 w' v (wordB n)∧Step No c w c' w'∧Ok c' w':=by
 have H:=jh1 hok;clear hok;go_enter func182,ntmps182;go_wp2;go_loopw [0,3,4] (fun vn vb vi wr=>∃(i m:Nat) (cr:Col),i≤8∧vi=.int .i64 i∧vn=.int .u64 m∧m=n / 256 ^ i∧Sl zag cr 0 0 wr vb (wordL i n)∧Step No c w cr wr∧Ok cr wr) (fun _ _ vi _=>8-(intOf vi).toNat)
 case atStart=>exact ⟨0,n,c,Nat.zero_le _,rfl,rfl,by simp,Sl.nil _ _ _ _ _,Step.refl,H.out⟩
 case round=>
  obtain ⟨i,m,cr,hi,rfl,rfl,hm,sl,st,ok⟩:=hrel;obtain ⟨va,vc,rfl,_⟩:=sl.form;by_cases hlt:i<8
  ·obtain ⟨q,hq,hqc⟩:=ok.spare 0
   have hqk:0≠q:=by omega
   have hq0:q≠0:=by omega
   have hmn:m≤n:=by rw [hm];exact Nat.div_le_self _ _
   obtain ⟨o1,o2,o3⟩:=own1 ok (UInt8.ofNat (m % 256)) q;have hv:((m:Int) % 256)=((UInt8.ofNat (m % 256)).toNat:Int):=u8_nat m;have hu:IntKind.u8.wrap (m:Int)=((UInt8.ofNat (m % 256)).toNat:Int):=by rw [IntKind.wrap_u8];exact hv
   have hwl:=zbr i n;have hml:[UInt8.ofNat (m % 256)].length+(wordL i n).length≤maxLen:=by rw [hwl];simp [maxLen];omega
   have hbl:([UInt8.ofNat (m % 256)].length+(wordL i n).length)*1≤140737488355328:=by rw [hwl];simp;omega
   have hx:=sl.kn o3;have hlt':(i:Int)<8:=by omega
   obtain ⟨d,hd⟩:=jE (m / 256);have hsh:(m:Int) / 256=(d:Int):=by omega
   have hdn:=jh1 (show d=n / 256 ^ (i+1) by rw [←hd,hm,Nat.div_div_eq_div_mul,Nat.pow_succ]);have hdle:d≤n:=by omega
   have hwd:IntKind.u64.wrap (d:Int)=(d:Int):=IntWalk.u64_in _ (by omega);have HW:=jh1 (show wordL (i+1) n=[UInt8.ofNat (m % 256)]++wordL i n by rw [wordL,←hm];rfl);obtain ⟨L,hL⟩:=jE (wordL i n);obtain ⟨u,huu⟩:=jE (UInt8.ofNat (m % 256));rw [huu,hL] at HW;rw [hL] at hx hml hbl hwl ⊢;rw [huu] at o1 o2 o3 hv hu hml hbl hx;have HU:=jh3 o3 st hqc;clear sl st ok hm hqc huu o3 hd hL;go_wp2_with (at_builtin;refine zaq zag o2 rfl _ _ 26 rfl 5 underlying26 zbp rfl (by decide) rfl rfl o1 hx hqk hml hbl ?_;rintro v4 w4 c4 a1 a2 a3 -);go_roundw
   case rel=>exact ⟨i+1,d,c4.turn q 0,by omega,by first | rfl | go_num,by first | rfl | (rw [hwd]) | go_num,hdn.out,by rw [HW.out];exact (a1.turn hqk).sl,HU.out.2.1.trans (((HU.out.1.ofNo.trans a2).turn rfl).own HU.out.2.2),a3.turn hq0⟩
   case measure=>simp [intOf];omega
  ·have h8:i=8:=by omega
   subst h8;have X:=jh3 sl st ok;clear sl st ok;go_wp2;go_ret;exact ⟨_,rfl,cr,X.out⟩
theorem counted04 (hok:Ok c w) {kx:Nat}{v:Value}{x:List UInt8}(hv:Sl zag c kx 0 w v x) (hx:x.length≤100000000) :
  Calls prog 125 #[v] w fun r w'=>∃v,r=.returned v∧∃c',Sl zag c' 0 0 w' v (zay x.length++x)∧Step No c w c' w'∧Ok c' w':=by
 obtain ⟨q,hq,hqc⟩:=hok.spare kx;have hqk:0≠q:=by omega
 have hq0:q≠0:=by omega
 have hkq:¬kx=q:=by omega
 have N:=number04 hok x.length (by omega) q;obtain ⟨va,vc,rfl,_⟩:=hv.form;have H:=jh2 hv hqc;clear hv hok hqc;go_enter func125,ntmps125;go_wp2_with fail;refine N.mono ?_;rintro e w1 ⟨v1,rfl,c1,p1,s1,o1⟩;have hv1:=H.out.1.kn s1;have hnl:=zae x.length;have hml:(zay x.length).length+x.length≤maxLen:=by simp only [maxLen];omega
 have hbl:((zay x.length).length+x.length)*1≤140737488355328:=by omega
 obtain ⟨vb,vd,rfl,_⟩:=p1.sl.form;obtain ⟨nb,hnb⟩:=jE (zay x.length);rw [hnb] at p1 hml hbl hnl ⊢;have S:=jh2 s1 hnb;clear N s1 hnb;go_wp2_with (at_builtin;refine zaq zag o1 rfl _ _ 26 rfl 5 underlying26 zbp rfl (by decide) rfl rfl p1 hv1 hqk hml hbl ?_;rintro v4 w4 c4 a1 a2 a3 -);go_ret;rw [show zay x.length=nb from S.out.2];exact ⟨_,rfl,c4.turn q 0,(a1.turn hqk).sl,((S.out.1.ofNo.trans a2).turn rfl).own H.out.2,a3.turn hq0⟩
end
