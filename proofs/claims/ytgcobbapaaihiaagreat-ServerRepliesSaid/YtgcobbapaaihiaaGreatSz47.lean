/- ServerReplies, part 47: lemmas, each with its own conditions. -/
import Derived.Test.YtgcobbapaaihiaaGreatSz45
import Derived.Test.YtgcobbapaaihiaaGreatSz46
import Derived.ProofKit
set_option linter.all false
set_option maxHeartbeats 12800000
set_option maxRecDepth 100000
open Go.Proofs.Tryz
namespace Go.Proofs.YtgcobbapaaihiaaGreat
open Go.RowKit
theorem info_srv5:(prog.info? 25).map (·.size)=some 5:=by kernel_rfl
theorem Srv.Raw.kn {s:Srv}{c c':Col}{k:Nat}{w w':World}{vc vo vm:Value}(h:s.Raw c k w vc vo vm) (hs:Step No c w c' w'):s.Raw c' k w' vc vo vm:=
 ⟨h.chain.kn hs,h.other.kn hs,h.moods.kn hs,h.delay,h.slow⟩
section
variable {c:Col}{w:World}
theorem replies_any (hok:Ok c w) {s:Srv}{vc vo vm:Value}(hs:s.Raw c 0 w vc vo vm) {bs:List UInt8}{v:Value}(hv:Sl zag c 0 0 w v bs) (nth mood:Int) :
  Calls prog 3 #[.agg #[vc,vo,vm,.int .i64 s.delay,.int .i64 s.slow],v,.int .i64 nth,.int .i64 mood] w fun r w'=>r=.returned (.bool true)∧∃c',Step No c w c' w'∧Ok c' w':=by
 obtain ⟨q,hq,hqc⟩:=hok.top 0;have hq0:q≠0:=by omega
 obtain ⟨vca,vcc,rfl,_⟩:=hs.chain.form;obtain ⟨voa,voc,rfl,_⟩:=hs.other.form;obtain ⟨vma,vmc,rfl,_⟩:=hs.moods.form;obtain ⟨va,vn,rfl,_⟩:=hv.form;have hbm:=hv.length_le;unfold maxLen at hbm;have a0:=At.new0 hok [.slice vca s.chain.length vcc,.slice voa s.other.length voc,.slice vma s.moods.length vmc,.int .i64 s.delay,.int .i64 s.slow] 25;have s0:Step No c w c (w.alloc (.cells #[.slice vca s.chain.length vcc,.slice voa s.other.length voc,.slice vma s.moods.length vmc,.int .i64 s.delay,.int .i64 s.slow] 25)):=Step.refl.alloc _;have o0:=hok.alloc (.cells #[.slice vca s.chain.length vcc,.slice voa s.other.length voc,.slice vma s.moods.length vmc,.int .i64 s.delay,.int .i64 s.slow] 25);have hs0:=hs.kn s0;have hv0:=hv.kn s0;obtain ⟨b4,hb4⟩:=jE w.heap.size;rw [hb4] at a0;have X:=jh4 hs0 a0 hv0 s0;have HQ:=jh1 hqc;obtain ⟨cl,hcl⟩:=jE s.chain.length;obtain ⟨ol,hol⟩:=jE s.other.length;obtain ⟨ml,hml⟩:=jE s.moods.length;obtain ⟨DE,hDE⟩:=jE s.delay;obtain ⟨SL,hSL⟩:=jE s.slow;obtain ⟨bl,hbl⟩:=jE bs.length;rw [hcl,hol,hml,hDE,hSL] at X o0 ⊢;rw [hbl] at X hbm ⊢;obtain ⟨W0,hW0⟩:=jE (w.alloc (.cells #[.slice vca cl vcc,.slice voa ol voc,.slice vma ml vmc,.int .i64 DE,.int .i64 SL] 25));have hW0':w.alloc (.cells ([.slice vca cl vcc,.slice voa ol voc,.slice vma ml vmc,.int .i64 DE,.int .i64 SL]:List Value).toArray 25)=W0:=hW0;rw [hW0] at o0;rw [hW0] at X;have HN:=jh6 hcl hol hml hDE hSL hbl;have LG:=long29_any o0 X.out.1;rw [HN.out.2.2.2.1,HN.out.2.2.2.2.1] at LG;have y0:=X.out.2.1.get (i:=0) rfl;have y1:=X.out.2.1.get (i:=1) rfl;have y2:=X.out.2.1.get (i:=2) rfl;have y3:=X.out.2.1.get (i:=3) rfl;have y4:=X.out.2.1.get (i:=4) rfl;clear a0 s0 o0 hs0 hv0 hs hv hok hqc hcl hol hml hDE hSL hbl hW0';go_enter func3,ntmps3;go_wp2_with fail
 (try rw [hW0])
 (try rw [hb4])
 clear hW0 hb4;refine LG.mono ?_;rintro e w2 ⟨⟨t,rfl,ht⟩,c2,s2,o2⟩;have X2:=jh5 (X.out.1.kn s2) (X.out.2.1.kn s2) (X.out.2.2.1.kn s2) (X.out.2.2.2.trans s2) o2;have AW:=awake29_any o2;clear LG X s2 o2 y0 y1 y2 y3 y4
 cases t with
 | true=>
  go_wp2_with fail;refine AW.mono ?_;rintro e w3 ⟨rfl,c3,s3,o3⟩;have Y:=jh2 (X2.out.2.2.2.1.trans s3) o3;clear AW s3 o3;go_wp2;go_ret;exact ⟨rfl,c3,Y.out⟩
 | false=>
 have hS:=jh1 (ht rfl);clear ht;by_cases h1000:(1000:Int)<(bl:Int)
 ·go_wp2_with fail
  refine AW.mono ?_;rintro e w3 ⟨rfl,c3,s3,o3⟩;have Y:=jh2 (X2.out.2.2.2.1.trans s3) o3;clear AW s3 o3;go_wp2;go_ret;exact ⟨rfl,c3,Y.out⟩
 clear AW hbm;have hbl:bl≤1000:=by omega
 have hsB:=X2.out.1.at hS.out;have CP:=copied29_any X2.out.2.2.2.2 hsB (by have:=hS.out.1.1;omega) (by have:=hS.out.2.1.1;omega);rw [HN.out.2.2.2.1,HN.out.2.2.2.2.1] at CP;have y0:=X2.out.2.1.get (i:=0) rfl;have y1:=X2.out.2.1.get (i:=1) rfl;have y2:=X2.out.2.1.get (i:=2) rfl;have y3:=X2.out.2.1.get (i:=3) rfl;have y4:=X2.out.2.1.get (i:=4) rfl;clear hsB;go_wp2_with fail;refine CP.mono ?_;rintro e w3 ⟨vc3,vo3,vm3,c3,rfl,hs3,s3,o3⟩;obtain ⟨ca,cc,rfl,_⟩:=hs3.chain.form;obtain ⟨oa,oc,rfl,_⟩:=hs3.other.form;obtain ⟨ma,mc,rfl,_⟩:=hs3.moods.form;rw [HN.out.1,HN.out.2.1,HN.out.2.2.1] at hs3 ⊢;have LB:=lentBytes_any o3 (q+1) 0 (X2.out.2.2.1.kn s3) (by rw [HN.out.2.2.2.2.2];omega);rw [HN.out.2.2.2.2.2] at LB;have X3:=jh5 (X2.out.1.kn s3) (X2.out.2.1.kn s3) (X2.out.2.2.1.kn s3) (X2.out.2.2.2.1.trans s3) hs3;clear CP X2 s3 o3 hs3 y0 y1 y2 y3 y4;go_wp2_with fail;refine LB.mono ?_;rintro e w4 ⟨lb,lo,lc,c4,rfl,hlc,hlm,hl4,s4,o4⟩;obtain ⟨a5,o5,s5⟩:=zan o4 [.slice ca cl cc,.slice oa ol oc,.slice ma ml mc,.int .i64 DE,.int .i64 SL] 25 (q+2);obtain ⟨b9,hb9⟩:=jE w4.heap.size;obtain ⟨W5,hW5⟩:=jE (w4.alloc (.cells #[.slice ca cl cc,.slice oa ol oc,.slice ma ml mc,.int .i64 DE,.int .i64 SL] 25));have hW5':w4.alloc (.cells ([.slice ca cl cc,.slice oa ol oc,.slice ma ml mc,.int .i64 DE,.int .i64 SL]:List Value).toArray 25)=W5:=hW5;obtain ⟨c5,hc5⟩:=jE (c4.put w4.heap.size (q+2));rw [hW5',hc5] at a5 o5 s5;rw [hb9] at a5;have s45:=s4.trans s5;have HL:=jh2 hlc hlm;have hs5:=X3.out.2.2.2.2.kn s45;have RP:=replyX_any o5 hs5 nth (bs:=bs) (by rw [HN.out.2.2.2.2.2];omega) (kx:=q+1) (v:=.slice (some ⟨lb,lo,none⟩) bl lc) (by have:=(hl4.kn s5).front (by decide);rw [HN.out.2.2.2.2.2] at this;exact this) q;rw [HN.out.2.2.2.1,HN.out.2.2.2.2.1] at RP;obtain ⟨R,hR⟩:=jE (replyR s nth bs);rw [hR] at RP;obtain ⟨wt,hwt⟩:=jE (waitT s nth R);obtain ⟨it,hit⟩:=jE (isT R);rw [hwt,hit] at RP;have HR:=jh3 hR hwt hit;have X5:=jh7 ((X3.out.1.kn s45).at hS.out) (X3.out.2.1.kn s45) (X3.out.2.2.1.kn s45) (X3.out.2.2.2.1.trans s45) hs5 (hl4.kn s5) a5;have y0:=a5.get (i:=0) rfl;have y1:=a5.get (i:=1) rfl;have y2:=a5.get (i:=2) rfl;have y3:=a5.get (i:=3) rfl;have y4:=a5.get (i:=4) rfl;clear LB X3 s4 o4 hl4 hlc hlm a5 o5 s5 hW5' hc5 s45 hs5 hR hwt hit;go_wp2_with fail
 (try rw [hW5])
 (try rw [hb9])
 clear hW5 hb9;refine RP.mono ?_;rintro e w6 ⟨x6,rfl,c6,sx6,s6,o6⟩;obtain ⟨xa,xn,rfl,_⟩:=sx6.form;have a6:=X5.out.2.1.kn s6;have RF:=reply29_any o6 (X5.out.1.kn s6) nth (bs:=bs) (by rw [HN.out.2.2.2.2.2];omega) (X5.out.2.2.1.kn s6) 0;rw [HN.out.2.2.2.1,HN.out.2.2.2.2.1,HR.out.1,HR.out.2.1,HR.out.2.2] at RF;have X6:=jh8 (X5.out.1.kn s6) a6 (X5.out.2.2.1.kn s6) (X5.out.2.2.2.1.trans s6) (X5.out.2.2.2.2.1.kn s6) (X5.out.2.2.2.2.2.1.kn s6) (X5.out.2.2.2.2.2.2.kn s6) sx6;clear RP X5 s6 o6 sx6 y0 y1 y2 y3 y4;have y0:=a6.get (i:=0) rfl;have y1:=a6.get (i:=1) rfl;have y2:=a6.get (i:=2) rfl;have y3:=a6.get (i:=3) rfl;have y4:=a6.get (i:=4) rfl;clear a6;go_wp2_with fail;refine RF.mono ?_;rintro e w7 ⟨x7,rfl,c7,sx7,s7,o7⟩;obtain ⟨za,zn,rfl,_⟩:=sx7.form;have X7:=jh9 (X6.out.1.kn s7) (X6.out.2.1.kn s7) (X6.out.2.2.1.kn s7) (X6.out.2.2.2.1.trans s7) (X6.out.2.2.2.2.1.kn s7) (X6.out.2.2.2.2.2.1.kn s7) (X6.out.2.2.2.2.2.2.1.kn s7) (X6.out.2.2.2.2.2.2.2.kn s7) sx7
 have KN:∀(c2:Col) (w2:World),Step No c7 w7 c2 w2→(fun W:World=>(Instr.loadAt 25 (.pointer (some ⟨b4,0,none⟩))).run prog W=.ok (.agg #[.slice vca cl vcc,.slice voa ol voc,.slice vma ml vmc,.int .i64 DE,.int .i64 SL]) W∧(Instr.loadAt 25 (.pointer (some ⟨b9,0,none⟩))).run prog W=.ok (.agg #[.slice ca cl cc,.slice oa ol oc,.slice ma ml mc,.int .i64 DE,.int .i64 SL]) W) w2:=
  fun _ _ h2=>⟨(X7.out.2.1.kn h2).ld (ty:=25) underlying25 rfl info_srv5,(X7.out.2.2.2.2.2.2.1.kn h2).ld (ty:=25) underlying25 rfl info_srv5⟩
 have sd:Step No c7 w7 c7 w7.drew:=Step.rf.drewN 1;have okk:Ok c7 w7.drew:=o7.drewN 1;have KK:=KN _ _ sd;have KNH:=jh1 KN;clear RF X6 s7 o7 sx7 y0 y1 y2 y3 y4 KN;obtain ⟨Rn,hRn⟩:=jE R.length;have HRn:=jh1 hRn;have E1:=sameB_any (X7.out.2.2.2.2.2.2.2.1.kn sd) (X7.out.2.2.2.2.2.2.2.2.kn sd);rw [beq_self_eq_true,hRn] at E1;rw [hRn];clear hRn;obtain ⟨ck,hck⟩:=jE (zbs s);obtain ⟨md,hmd⟩:=jE (moodS s nth);obtain ⟨ft,hft⟩:=jE (faultS mood);have HC:=jh3 hck hmd hft;clear hck hmd hft;go_wp2_with fail;refine zac (fun W=>(Instr.loadAt 25 (.pointer (some ⟨b4,0,none⟩))).run prog W=.ok (.agg #[.slice vca cl vcc,.slice voa ol voc,.slice vma ml vmc,.int .i64 DE,.int .i64 SL]) W∧(Instr.loadAt 25 (.pointer (some ⟨b9,0,none⟩))).run prog W=.ok (.agg #[.slice ca cl cc,.slice oa ol oc,.slice ma ml mc,.int .i64 DE,.int .i64 SL]) W) (fun _=>true) (by kernel_rfl) ?_;refine tk2 0 _ 46 rfl rfl KK ?_;refine tk2 1 _ 47 rfl rfl KK ?_;refine zab.one (i:=2) (by kernel_rfl) rfl (fun KQ hK=>?_);go_simp;refine E1.mono ?_;rintro e wC ⟨rfl,rfl⟩;go_simp;refine hK.out _ _ (fun _=>KK) ?_;clear hK KQ
 (try simp only [jS])
 refine tk2 3 _ 49 rfl rfl KK ?_;refine tk2 4 _ 50 rfl rfl KK ?_;refine tk2 5 _ 51 rfl rfl KK ?_;refine tk2 6 (.bool true) 52 rfl rfl KK ?_;refine tk2 7 _ 53 rfl rfl KK ?_;refine tk2 8 _ 54 rfl rfl KK ?_;refine tk2 9 _ 55 rfl rfl KK ?_;refine tk2 10 _ 56 rfl rfl KK ?_;refine tk2 11 (.bool true) 57 rfl rfl KK ?_;refine tk2 12 _ 58 rfl rfl KK ?_;refine tk2 13 _ 59 rfl rfl KK ?_;refine tk 14 _ 60 rfl rfl (Or.inl ⟨by rfl,fun W hW=>by obtain ⟨q0,q1⟩:=hW;exact zaT 25 q1 (.tmp 9) rfl rfl⟩) KK ?_;refine tk 16 _ 62 rfl rfl (Or.inl ⟨by rfl,fun W hW=>by obtain ⟨q0,q1⟩:=hW;exact zaT 25 q0 (.tmp 4) rfl rfl⟩) KK ?_;refine zab.one (i:=15) (by kernel_rfl) rfl (fun KQ hK=>?_);go_simp;have C1:=scheck_any okk (X7.out.2.2.2.2.1.kn sd);rw [HN.out.2.2.2.1,HN.out.2.2.2.2.1,HC.out.1] at C1;refine C1.mono ?_;rintro e wC ⟨rfl,cC,sC,okk⟩;have sd:=sd.trans sC;have KK:=KNH.out _ _ sd;clear sC C1;go_simp;refine hK.out _ _ (fun _=>KK) ?_;clear hK KQ
 (try simp only [jS])
 refine zab.one (i:=17) (by kernel_rfl) rfl (fun KQ hK=>?_);go_simp;have C1:=check29_any okk (X7.out.1.kn sd);rw [HN.out.2.2.2.1,HN.out.2.2.2.2.1,HC.out.1] at C1;refine C1.mono ?_;rintro e wC ⟨rfl,cC,sC,okk⟩;have sd:=sd.trans sC;have KK:=KNH.out _ _ sd;clear sC C1;go_simp;refine hK.out _ _ (fun _=>KK) ?_;clear hK KQ
 (try simp only [jS])
 refine tk2 18 (.bool true) 64 rfl rfl KK ?_;refine tk2 19 _ 65 rfl rfl KK ?_;refine tk2 20 _ 66 rfl rfl KK ?_;refine tk 21 _ 67 rfl rfl (Or.inl ⟨by rfl,fun W hW=>by obtain ⟨q0,q1⟩:=hW;exact zaT 25 q1 (.tmp 9) rfl rfl⟩) KK ?_;refine tk2 22 _ 68 rfl rfl KK ?_;refine tk 24 _ 70 rfl rfl (Or.inl ⟨by rfl,fun W hW=>by obtain ⟨q0,q1⟩:=hW;exact zaT 25 q0 (.tmp 4) rfl rfl⟩) KK ?_;refine tk2 25 _ 71 rfl rfl KK ?_;refine zab.one (i:=23) (by kernel_rfl) rfl (fun KQ hK=>?_);go_simp;have C1:=mood_any okk (X7.out.2.2.2.2.1.kn sd) nth;rw [HN.out.2.2.2.1,HN.out.2.2.2.2.1,HC.out.2.1] at C1;refine C1.mono ?_;rintro e wC ⟨rfl,cC,sC,okk⟩;have sd:=sd.trans sC;have KK:=KNH.out _ _ sd;clear sC C1;go_simp;refine hK.out _ _ (fun _=>KK) ?_;clear hK KQ
 (try simp only [jS])
 refine zab.one (i:=26) (by kernel_rfl) rfl (fun KQ hK=>?_);go_simp;have C1:=mood29_any okk (X7.out.1.kn sd) nth;rw [HN.out.2.2.2.1,HN.out.2.2.2.2.1,HC.out.2.1] at C1;refine C1.mono ?_;rintro e wC ⟨rfl,cC,sC,okk⟩;have sd:=sd.trans sC;have KK:=KNH.out _ _ sd;clear sC C1;go_simp;refine hK.out _ _ (fun _=>KK) ?_;clear hK KQ
 (try simp only [jS])
 refine tk2 27 (.bool true) 73 rfl rfl KK ?_;refine tk2 28 _ 74 rfl rfl KK ?_;refine tk2 29 _ 75 rfl rfl KK ?_;refine tk2 30 _ 76 rfl rfl KK ?_;refine tk2 32 _ 78 rfl rfl KK ?_;refine zab.one (i:=31) (by kernel_rfl) rfl (fun KQ hK=>?_);go_simp;have C1:=sfault_any mood wC;rw [HC.out.2.2] at C1;refine C1.mono ?_;rintro e wD ⟨rfl,rfl⟩;clear C1;go_simp;refine hK.out _ _ (fun _=>KK) ?_;clear hK KQ
 (try simp only [jS])
 refine zab.one (i:=33) (by kernel_rfl) rfl (fun KQ hK=>?_);go_simp;have C1:=fault29_any mood wD;rw [HC.out.2.2] at C1;refine C1.mono ?_;rintro e wE ⟨rfl,rfl⟩;clear C1;go_simp;refine hK.out _ _ (fun _=>KK) ?_;clear hK KQ
 (try simp only [jS])
 refine tk2 34 (.bool true) 80 rfl rfl KK ?_;refine tk2 35 _ 81 rfl rfl KK ?_;refine zab.one (i:=36) (by kernel_rfl) rfl (fun KQ hK=>?_);go_simp;refine hK.out _ _ (fun _=>KK) ?_;clear hK KQ
 (try simp only [jS])
 refine zab.done (by kernel_rfl) ?_ _;have hR0:=HRn.out;have OB:=overBytes_any okk hq0 (v:=.slice xa Rn xn) (n:=Rn) ⟨R,hR0,by have:=(X7.out.2.2.2.2.2.2.2.1.kn sd).any q;rw [hR0] at this;exact this⟩;have X8:=jh7 (X7.out.1.kn sd) (X7.out.2.1.kn sd) (X7.out.2.2.1.kn sd) (X7.out.2.2.2.1.trans sd) (X7.out.2.2.2.2.1.kn sd) (X7.out.2.2.2.2.2.1.kn sd) (X7.out.2.2.2.2.2.2.1.kn sd);clear X7 KK KNH E1 HC sd okk hR0;go_upto_region 8 with (fail);refine OB.mono ?_;rintro e w8 ⟨rfl,s8,o8,_⟩;have hq0':¬One q 0:=fun e=>absurd e (by show ¬0=q;omega);have hq1':¬One q (q+1):=fun e=>absurd e (by show ¬q+1=q;omega);have hq2':¬One q (q+2):=fun e=>absurd e (by show ¬q+2=q;omega);have st:Step No c w cC w8:=((X8.out.2.2.2.1.ofNo (K:=One q)).trans s8).drop fun b _ (e:c b=q)=>by have:=HQ.out b;omega
 have hv8:=X8.out.2.2.1.keep s8 hq0' hq0';have hl8:=X8.out.2.2.2.2.2.1.keep s8 hq1' hq0';have KB:=keptBytes_any (b:=lb) (off:=lo) (cap:=lc) o8 hv8 (by rw [HN.out.2.2.2.2.2];exact HL.out.1) HL.out.2 (by rw [HN.out.2.2.2.2.2];exact hl8)
 (try rw [HN.out.2.2.2.2.2] at KB)
 have X9:=jh6 (X8.out.1.keep s8 hq0') (X8.out.2.1.keep s8 hq0') (X8.out.2.2.2.2.1.keep s8 hq0') (X8.out.2.2.2.2.2.2.keep s8 hq2') st o8;clear OB X8 s8 o8 st hv8 hl8 hq0' hq1' hq2';go_wp2_with fail;refine KB.mono ?_;rintro e wA ⟨rfl,sA,oA⟩;have aA:=X9.out.2.1.kn sA;have aB:=X9.out.2.2.2.1.kn sA;have y0:=aA.get (i:=0) rfl;have y1:=aB.get (i:=0) rfl;have SB1:=sameBlocks_any oA (X9.out.2.2.1.kn sA).chain (X9.out.1.kn sA).chain;have Y:=jh5 (X9.out.1.kn sA) aA (X9.out.2.2.1.kn sA) aB (X9.out.2.2.2.2.1.trans sA);clear KB X9 sA oA aA aB;go_wp2_with fail;refine SB1.mono ?_;rintro e wD ⟨rfl,sA,oA⟩;have aA:=Y.out.2.1.kn sA;have aB:=Y.out.2.2.2.1.kn sA;have z0:=aA.get (i:=1) rfl;have z1:=aB.get (i:=1) rfl;have SB2:=sameBlocks_any oA (Y.out.2.2.1.kn sA).other (Y.out.1.kn sA).other;have Y2:=jh5 (Y.out.1.kn sA) aA (Y.out.2.2.1.kn sA) aB (Y.out.2.2.2.2.trans sA);clear SB1 Y sA oA aA aB y0 y1;go_wp2_with fail;refine SB2.mono ?_;rintro e wF ⟨rfl,sA,oA⟩;have aA:=Y2.out.2.1.kn sA;have aB:=Y2.out.2.2.2.1.kn sA;have y0:=aA.get (i:=2) rfl;have y1:=aB.get (i:=2) rfl;have SI:=sameInts_any (Y2.out.2.2.1.kn sA).moods (Y2.out.1.kn sA).moods;have AW:∀n,_:=fun n=>awake29_any (oA.drewN n);have Y3:=jh2 (Y2.out.2.2.2.2.trans sA) oA;clear SB2 Y2 sA oA aA aB z0 z1;go_wp2_with fail;refine SI.mono ?_;rintro e wG ⟨rfl,n,rfl⟩;have AW:=AW n;clear SI;go_wp2_with fail;refine AW.mono ?_;rintro e wH ⟨rfl,cH,sH,oH⟩;have Z:=jh2 ((Y3.out.1.drewN n).trans sH) oH;clear AW sH oH;go_wp2;go_ret;exact ⟨rfl,cH,Z.out⟩
end
theorem replies_law {w:World}{s:Srv}{vc vo vm:Value}(hs:s.Raw (fun _=>0) 0 w vc vo vm) {v:Value}{bs:List UInt8}(hv:Sl zag (fun _=>0) 0 0 w v bs) (nth mood:Int) :
  Calls prog 3 #[.agg #[vc,vo,vm,.int .i64 s.delay,.int .i64 s.slow],v,.int .i64 nth,.int .i64 mood] w fun r w'=>r=.returned (.bool true)∧Below w.heap.size w w':=
 (replies_any (Ok.zero w) hs hv nth mood).mono fun e w' h=>by
  match e,h with
  | _,⟨rfl,c',s,_⟩=>exact ⟨rfl,s.below (fun _ _ h=>h)⟩
def TIn {α:Type}(P:Program) (t:TypeId) (T:Ty α):Prop:=
 ∀{H:Type} (enc:TypeId×Value→H) (w:World) (spare:Nat→Bool) (held:Bool) (fuel:Nat) (vs:List Value) (x:DataW H×List MemPlace),DataW.trod enc P w 0 spare held fuel t vs=some x→∃y,T.rd (fun _=>0) 0 w vs y
section
variable {P:Program}
theorem TIn.int {t:TypeId}{k:IntKind}(ht:P.underlying t=some (.int k)):TIn P t (TInt k):=by
 intro H enc w spare held fuel vs x h;obtain ⟨n,rfl,_,hw⟩:=DataW.trod_int ht h;refine ⟨n,rfl,?_⟩;simpa [Lit.wf,IntKind.has] using hw
theorem TIn.byte {t:TypeId}(ht:P.underlying t=some (.int .u8)):TIn P t zag:=by
 intro H enc w spare held fuel vs x h;obtain ⟨n,rfl,_,hw⟩:=DataW.trod_int ht h
 have hb:0≤n∧n≤255:=by
  have:IntKind.u8.min≤n∧n≤IntKind.u8.max:=by simpa [Lit.wf] using hw
  exact ⟨this.1,this.2⟩
 refine ⟨UInt8.ofNat n.toNat,?_⟩;show [Value.int .u8 n]=[Value.int .u8 ((UInt8.ofNat n.toNat).toNat:Int)]
 congr 2
 simp only [UInt8.toNat_ofNat'];omega
theorem slice_in {α:Type}{t e:TypeId}{T:Ty α}(ht:P.underlying t=some (.slice e)) (he:TIn P e T) (hc:P.cellsOf e=T.n) (hn:0<T.n) {H:Type}{enc:TypeId×Value→H}{w:World}{spare:Nat→Bool}{held:Bool}{fuel:Nat}{vs:List Value}{x:DataW H×List MemPlace}
  (h:DataW.trod enc P w 0 spare held fuel t vs=some x):∃v l,vs=[v]∧Sl T (fun _=>0) 0 0 w v l:=by
 rcases DataW.trod_slice ht h with ⟨rfl,_⟩ | ⟨a,len,cap,elems,rest,n,_,rfl,_,_,hlc,hcm,hel,hall,_⟩
 ·exact ⟨_,[],rfl,Sl.nil _ _ _ _ _⟩
 ·by_cases hl0:len=0
  ·subst hl0
   exact ⟨_,[],rfl,.inl ⟨rfl,some a,cap,rfl,hcm,fun h=>by cases h⟩⟩
  ·have key:∀i,i<len→∃cs y,(∀j,j<T.n→w.cell? (a.add (i*T.n+j))=cs[j]?)∧cs.length=T.n∧T.rd (fun _=>0) 0 w cs y:=by
    intro i hi;have hi':=hall i hi;rw [hc] at hi';have hsome:∃z,elems[i]? = some z:=⟨elems[i]'(by omega),by simp [hel,hi]⟩;obtain ⟨z,hz⟩:=hsome;rw [hz] at hi';obtain ⟨cs,hcs,htr⟩:=Option.bind_eq_some_iff.1 hi';obtain ⟨_,hlen,hcell⟩:=World.cells?_some hcs;obtain ⟨y,hy⟩:=he enc w spare held n cs z htr;refine ⟨cs,y,fun j hj=>?_,hlen,hy⟩
    have hadd:(a.add (i*T.n)).add j=a.add (i*T.n+j):=by
     unfold Addr.add;by_cases h1:i*T.n=0 <;> by_cases h2:j=0 <;> simp [h1,h2,Nat.add_assoc]
    rw [←hadd];exact hcell j hj
   have hspot:a.spot=none∧a.block<w.heap.size:=by
    obtain ⟨cs,y,hc1,hc2,_⟩:=key 0 (by omega);have h0:=hc1 0 hn;have h1:∃u,cs[0]? = some u:=⟨cs[0]'(by omega),by simp [hc2,hn]⟩;obtain ⟨u,hu⟩:=h1;rw [hu] at h0;simp [Addr.add] at h0;refine ⟨?_,World.block_lt_of_cell? w a h0⟩;unfold World.cell? at h0
    split at h0
    ·split at h0
     ·cases h0
     ·rename_i hs;simpa using hs
    ·cases h0
   obtain ⟨b,off,sp⟩:=a;obtain ⟨hsp,hbl⟩:=hspot;dsimp only at hsp hbl;subst hsp
   have key2:∀i:Nat,∃y:Option α,i<len→∃y',y=some y'∧∃cs,T.rd (fun _=>0) 0 w cs y'∧zas w b (off+i*T.n) cs:=by
    intro i;by_cases hi:i<len
    ·obtain ⟨cs,y,hc1,hc2,hr⟩:=key i hi
     refine ⟨some y,fun _=>⟨y,rfl,cs,hr,fun j u hu=>?_⟩⟩;have hj:j<cs.length:=(List.getElem?_eq_some_iff.1 hu).1;have:=hc1 j (by omega);rw [hu] at this;have hadd:(⟨b,off,none⟩:Addr).add (i*T.n+j)=⟨b,off+i*T.n+j,none⟩:=by unfold Addr.add;split <;> simp_all [Nat.add_assoc]
     rw [hadd] at this;exact this
    ·exact ⟨none,fun h=>absurd h hi⟩
   obtain ⟨f,hf⟩:=Classical.axiomOfChoice key2;refine ⟨_,(List.range len).filterMap f,rfl,.inr ⟨b,off,cap,?_,?_,hcm,rfl,hbl,?_⟩⟩
   all_goals
    have hmap:(List.range len).filterMap f=(List.range len).pmap (fun i (hi:i<len)=>Classical.choose (hf i hi)) (fun i hi=>List.mem_range.1 hi):=by
     have gen:∀(l:List Nat) (hl:∀i∈l,i<len),l.filterMap f=l.pmap (fun i (hi:i<len)=>Classical.choose (hf i hi)) hl:=by
      intro l
      induction l with
      | nil=>intro _;rfl
      | cons i l ih=>
       intro hl;have hi:=hl i (by simp);have h1:=(Classical.choose_spec (hf i hi)).1;rw [List.filterMap_cons_some h1,List.pmap_cons,ih (fun j hj=>hl j (by simp [hj]))]
     exact gen _ _
    have hlen2:((List.range len).filterMap f).length=len:=by rw [hmap];simp
   ·rw [hlen2]
   ·rw [hlen2];exact hlc
   ·intro i y hy
    have hi:i<len:=by have:=(List.getElem?_eq_some_iff.1 hy).1;omega
    rw [hmap] at hy;have hlp:i<((List.range len).pmap (fun i (hi:i<len)=>Classical.choose (hf i hi)) (fun i hi=>List.mem_range.1 hi)).length:=by simpa using hi
    rw [List.getElem?_eq_getElem hlp,List.getElem_pmap] at hy;have hri:(List.range len)[i]'(by simpa using hi)=i:=List.getElem_range _;have hyy:=Option.some.inj hy;subst hyy
    have gen3:∀(i':Nat) (hi':i'<len),i'=i→∃vs,T.rd (fun _=>0) 0 w vs (Classical.choose (hf i' hi'))∧zas w b (off+i*T.n) vs:=by
     rintro i' hi' rfl;exact (Classical.choose_spec (hf i' hi')).2
    exact gen3 _ (by rw [hri];exact hi) hri
end
end Go.Proofs.YtgcobbapaaihiaaGreat
namespace Go.Proofs.YtgcobbapaaihiaaGreat
open Go.RowKit Go.ChangeShapes Go.WideShapes Go.ChangeAt
theorem has_wf' {a:Int}(h:(Lit.int .i64 a).wf=true):IntKind.i64.has a:=by simpa [Lit.wf,IntKind.has] using h
section
variable {P:Program}{H:Type}{enc:TypeId×Value→H}{w:World}{spare:Nat→Bool}{held:Bool}
theorem trod_bytes {fuel:Nat}{n:Nat}{t e:TypeId}{vs:List Value}{x:DataW H×List MemPlace}(ht:P.underlying t=some (.array n e)) (he:P.underlying e=some (.int .u8)) (hce:P.cellsOf e=1) (hct:P.cellsOf t=n)
  (h:DataW.trod enc P w 0 spare held fuel t vs=some x):∃l:List UInt8,l.length=n∧vs=bC l:=by
 obtain ⟨xs,m,_,_,hlen,hxs,hf⟩:=DataW.trod_array ht h;rw [hct] at hlen
 have key:∀i,i<n→∃y:UInt8,vs[i]? = some (.int .u8 y.toNat):=by
  intro i hi;have g:=hf i hi;rw [hce,Nat.mul_one] at g;have hs:∃z,xs[i]? = some z:=⟨xs[i]'(by rw [hxs];exact hi),by rw [List.getElem?_eq_getElem]⟩;obtain ⟨z,ez⟩:=hs;rw [ez] at g;obtain ⟨y,hy⟩:=TIn.byte he enc w spare held _ _ z g;have hy':(vs.drop i).take 1=[.int .u8 y.toNat]:=hy;refine ⟨y,?_⟩;have:=congrArg (fun l=>l[0]?) hy';simpa [List.getElem?_take,List.getElem?_drop] using this
 refine ⟨vs.map (fun v=>match v with | .int _ n=>UInt8.ofNat n.toNat | _=>0),by rw [List.length_map,hlen],?_⟩;refine List.ext_getElem? fun i=>?_;by_cases hi:i<n
 ·obtain ⟨y,hy⟩:=key i hi
  rw [hy]
  symm
  refine bC_get ?_;rw [List.getElem?_map,hy];simp
 ·rw [List.getElem?_eq_none (by omega),List.getElem?_eq_none (by rw [zaf,List.length_map];omega)]
theorem seg (vs:List Value) (o n:Nat):vs.drop o=(vs.drop o).take n++vs.drop (o+n):=by rw [←List.drop_drop,List.take_append_drop]
end
theorem cK:prog.cellsOf 91=4:=by kernel_rfl
theorem cH:prog.cellsOf 51=32:=by kernel_rfl
theorem cI:prog.cellsOf 3=1:=by kernel_rfl
theorem cU:prog.cellsOf 104=1:=by kernel_rfl
theorem cU8:prog.cellsOf 5=1:=by kernel_rfl
theorem cS:prog.cellsOf 9=1:=by kernel_rfl
theorem cHd:prog.cellsOf 53=131:=by kernel_rfl
theorem cCm:prog.cellsOf 56=34:=by kernel_rfl
theorem cVs:prog.cellsOf 54=1:=by kernel_rfl
theorem cVl:prog.cellsOf 57=1:=by kernel_rfl
theorem cBs:prog.cellsOf 22=1:=by kernel_rfl
theorem cIs:prog.cellsOf 23=1:=by kernel_rfl
section
variable {P:Program}{H:Type}{enc:TypeId×Value→H}{w:World}{spare:Nat→Bool}{held:Bool}
theorem trod_fields {fs:Array Field}{t:TypeId}{fuel:Nat}{vs:List Value}{x:DataW H×List MemPlace}(ht:P.underlying t=some (.struct fs)) (h:DataW.trod enc P w 0 spare held fuel t vs=some x) :
  vs.length=P.cellsOf t∧∃m,∀(i:Nat) (f:Field),fs[i]? = some f→∃z,DataW.trod enc P w 0 spare held m f.type ((vs.drop f.offset).take (P.cellsOf f.type))=some z:=by
 obtain ⟨xs,n,_,_,hlen,hxs,hf⟩:=DataW.trod_struct ht h;refine ⟨hlen,n,fun i f hi=>?_⟩;have hlt:=(Array.getElem?_eq_some_iff.1 hi).1;exact ⟨xs[i]'(by rw [hxs];exact hlt),by rw [hf i f hi,List.getElem?_eq_getElem]⟩
theorem trod_i64 {t:TypeId}{fuel:Nat}{vs:List Value}{x:DataW H×List MemPlace}(ht:P.underlying t=some (.int .i64)) (h:DataW.trod enc P w 0 spare held fuel t vs=some x):∃n,vs=[.int .i64 n]∧IntKind.i64.has n:=by
 obtain ⟨n,e,_,hw⟩:=DataW.trod_int ht h;exact ⟨n,e,has_wf' hw⟩
end
theorem TIn.val:TIn prog 93 TVal:=by
 intro H enc w spare held fuel vs x h;obtain ⟨hlen,m,hf⟩:=trod_fields underlying93 h;rw [show prog.cellsOf 93=5 by kernel_rfl] at hlen;obtain ⟨_,g0⟩:=hf 0 (Field.mk _ 91 0 _ _ _ _) rfl;obtain ⟨_,g1⟩:=hf 1 (Field.mk _ 3 4 _ _ _ _) rfl;dsimp only at g0 g1;rw [cK] at g0;rw [cI] at g1;obtain ⟨k,hk,e0⟩:=trod_bytes underlying91 underlying5 cU8 cK g0;obtain ⟨n,e1,hn⟩:=trod_i64 underlying3 g1;refine ⟨⟨k,n⟩,?_,hk,hn⟩;have s0:=seg vs 0 4;have s1:=seg vs 4 1;rw [e0,List.drop_zero,s1,e1,List.drop_eq_nil_of_le (by omega)] at s0;exact s0
theorem TIn.vot:TIn prog 106 TVot:=by
 intro H enc w spare held fuel vs x h;obtain ⟨hlen,m,hf⟩:=trod_fields underlying106 h;rw [show prog.cellsOf 106=2 by kernel_rfl] at hlen;obtain ⟨_,g0⟩:=hf 0 (Field.mk _ 3 0 _ _ _ _) rfl;obtain ⟨_,g1⟩:=hf 1 (Field.mk _ 104 1 _ _ _ _) rfl;dsimp only at g0 g1;rw [cI] at g0;rw [cU] at g1;obtain ⟨a,e0,ha⟩:=trod_i64 underlying3 g0;obtain ⟨n,e1,_,hw⟩:=DataW.trod_int underlying104 g1
 have hn:0≤n∧n≤18446744073709551615:=by
  have:IntKind.u64.min≤n∧n≤IntKind.u64.max:=by simpa [Lit.wf] using hw
  exact ⟨this.1,this.2⟩
 refine ⟨⟨a,n.toNat⟩,?_,ha,by show n.toNat<_;omega⟩;have s0:=seg vs 0 1;have s1:=seg vs 1 1;rw [e0,List.drop_zero,s1,e1,List.drop_eq_nil_of_le (by omega)] at s0;rw [s0];show [Value.int .i64 a,Value.int .u64 n]=[Value.int .i64 a,Value.int .u64 (n.toNat:Int)];rw [Int.toNat_of_nonneg hn.1]
section
variable {H:Type}{enc:TypeId×Value→H}{w:World}{spare:Nat→Bool}{held:Bool}
theorem trod_hdr {fuel:Nat}{vs:List Value}{x:DataW H×List MemPlace}(h:DataW.trod enc prog w 0 spare held fuel 53 vs=some x) :
  ∃b:Hdr,vs=zaz b∧IntKind.i64.has b.height∧IntKind.i64.has b.time∧b.prev.length=32∧b.vals.length=32∧b.next.length=32∧b.app.length=32:=by
 obtain ⟨hlen,m,hf⟩:=trod_fields underlying53 h;rw [cHd] at hlen;obtain ⟨_,g0⟩:=hf 0 (Field.mk _ 9 0 _ _ _ _) rfl;obtain ⟨_,g1⟩:=hf 1 (Field.mk _ 3 1 _ _ _ _) rfl;obtain ⟨_,g2⟩:=hf 2 (Field.mk _ 3 2 _ _ _ _) rfl;obtain ⟨_,g3⟩:=hf 3 (Field.mk _ 51 3 _ _ _ _) rfl;obtain ⟨_,g4⟩:=hf 4 (Field.mk _ 51 35 _ _ _ _) rfl;obtain ⟨_,g5⟩:=hf 5 (Field.mk _ 51 67 _ _ _ _) rfl;obtain ⟨_,g6⟩:=hf 6 (Field.mk _ 51 99 _ _ _ _) rfl;dsimp only at g0 g1 g2 g3 g4 g5 g6;rw [cS] at g0;rw [cI] at g1 g2;rw [cH] at g3 g4 g5 g6;obtain ⟨st,e0,_,_⟩:=DataW.trod_string underlying9 g0;obtain ⟨a1,e1,h1⟩:=trod_i64 underlying3 g1;obtain ⟨a2,e2,h2⟩:=trod_i64 underlying3 g2;obtain ⟨l3,h3,e3⟩:=trod_bytes underlying51 underlying5 cU8 cH g3;obtain ⟨l4,h4,e4⟩:=trod_bytes underlying51 underlying5 cU8 cH g4;obtain ⟨l5,h5,e5⟩:=trod_bytes underlying51 underlying5 cU8 cH g5;obtain ⟨l6,h6,e6⟩:=trod_bytes underlying51 underlying5 cU8 cH g6;refine ⟨⟨st.data.toList,a1,a2,l3,l4,l5,l6⟩,?_,h1,h2,h3,h4,h5,h6⟩;have s0:=seg vs 0 1;rw [e0,List.drop_zero,seg vs (0+1) 1,e1,seg vs (0+1+1) 1,e2,seg vs (0+1+1+1) 32,e3,seg vs (0+1+1+1+32) 32,e4,seg vs (0+1+1+1+32+32) 32,e5,seg vs (0+1+1+1+32+32+32) 32,e6,@List.drop_eq_nil_of_le _ vs _ (by omega),List.append_nil] at s0;exact s0
theorem trod_cmt {fuel:Nat}{vs:List Value}{x:DataW H×List MemPlace}(h:DataW.trod enc prog w 0 spare held fuel 56 vs=some x) :
  ∃(b:Cmt) (v:Value),vs=cmC b v∧IntKind.i64.has b.height∧b.hash.length=32∧Sl TVot (fun _=>0) 0 0 w v b.votes:=by
 obtain ⟨hlen,m,hf⟩:=trod_fields underlying56 h;rw [cCm] at hlen;obtain ⟨_,g0⟩:=hf 0 (Field.mk _ 3 0 _ _ _ _) rfl;obtain ⟨_,g1⟩:=hf 1 (Field.mk _ 51 1 _ _ _ _) rfl;obtain ⟨_,g2⟩:=hf 2 (Field.mk _ 54 33 _ _ _ _) rfl;dsimp only at g0 g1 g2;rw [cI] at g0;rw [cH] at g1;rw [cVs] at g2;obtain ⟨a0,e0,h0⟩:=trod_i64 underlying3 g0;obtain ⟨l1,h1,e1⟩:=trod_bytes underlying51 underlying5 cU8 cH g1;obtain ⟨v,l,e2,hl⟩:=slice_in underlying54 TIn.vot (by kernel_rfl) (by decide) g2;refine ⟨⟨a0,l1,l⟩,v,?_,h0,h1,hl⟩;have s0:=seg vs 0 1;rw [e0,List.drop_zero,seg vs (0+1) 32,e1,seg vs (0+1+32) 1,e2,@List.drop_eq_nil_of_le _ vs _ (by omega)] at s0;exact s0
end
theorem TIn.blo:TIn prog 59 TBlR:=by
 intro H enc w spare held fuel vs x h;obtain ⟨hlen,m,hf⟩:=trod_fields underlying59 h;rw [show prog.cellsOf 59=166 by kernel_rfl] at hlen;obtain ⟨_,g0⟩:=hf 0 (Field.mk _ 53 0 _ _ _ _) rfl;obtain ⟨_,g1⟩:=hf 1 (Field.mk _ 56 131 _ _ _ _) rfl;obtain ⟨_,g2⟩:=hf 2 (Field.mk _ 57 165 _ _ _ _) rfl;dsimp only at g0 g1 g2;rw [cHd] at g0;rw [cCm] at g1;rw [cVl] at g2;obtain ⟨hd,e0,a1,a2,a3,a4,a5,a6⟩:=trod_hdr g0;obtain ⟨cm,vc,e1,b1,b2,b3⟩:=trod_cmt g1;obtain ⟨vv,l,e2,hl⟩:=slice_in underlying57 TIn.val (by kernel_rfl) (by decide) g2;refine ⟨⟨hd,cm,l⟩,vc,vv,?_,a1,a2,a3,a4,a5,a6,b2,b1,b3,hl⟩;have s0:=seg vs 0 131;rw [e0,List.drop_zero,seg vs (0+131) 34,e1,seg vs (0+131+34) 1,e2,@List.drop_eq_nil_of_le _ vs _ (by omega)] at s0;exact s0
theorem server_in {H:Type}{enc:TypeId×Value→H}{w:World}{spare:Nat→Bool}{held:Bool}{fuel:Nat}{vs:List Value}{x:DataW H×List MemPlace}(h:DataW.trod enc prog w 0 spare held fuel 25 vs=some x) :
  ∃(s:Srv) (vc vo vm:Value),vs=[vc,vo,vm,.int .i64 s.delay,.int .i64 s.slow]∧s.Raw (fun _=>0) 0 w vc vo vm:=by
 obtain ⟨hlen,m,hf⟩:=trod_fields underlying25 h;rw [show prog.cellsOf 25=5 by kernel_rfl] at hlen;obtain ⟨_,g0⟩:=hf 0 (Field.mk _ 22 0 _ _ _ _) rfl;obtain ⟨_,g1⟩:=hf 1 (Field.mk _ 22 1 _ _ _ _) rfl;obtain ⟨_,g2⟩:=hf 2 (Field.mk _ 23 2 _ _ _ _) rfl;obtain ⟨_,g3⟩:=hf 3 (Field.mk _ 3 3 _ _ _ _) rfl;obtain ⟨_,g4⟩:=hf 4 (Field.mk _ 3 4 _ _ _ _) rfl;dsimp only at g0 g1 g2 g3 g4;rw [cBs] at g0 g1;rw [cIs] at g2;rw [cI] at g3 g4;obtain ⟨v0,l0,e0,h0⟩:=slice_in underlying22 TIn.blo (by kernel_rfl) (by decide) g0;obtain ⟨v1,l1,e1,h1⟩:=slice_in underlying22 TIn.blo (by kernel_rfl) (by decide) g1;obtain ⟨v2,l2,e2,h2⟩:=slice_in underlying23 (TIn.int underlying3) (by kernel_rfl) (by decide) g2;obtain ⟨a3,e3,h3⟩:=trod_i64 underlying3 g3;obtain ⟨a4,e4,h4⟩:=trod_i64 underlying3 g4;refine ⟨⟨l0,l1,l2,a3,a4⟩,v0,v1,v2,?_,h0,h1,h2,h3,h4⟩;have s0:=seg vs 0 1;rw [e0,List.drop_zero,seg vs (0+1) 1,e1,seg vs (0+1+1) 1,e2,seg vs (0+1+1+1) 1,e3,seg vs (0+1+1+1+1) 1,e4,@List.drop_eq_nil_of_le _ vs _ (by omega)] at s0;exact s0
