/- ServerReplies, part 44: lemmas, each with its own conditions. -/
import Derived.Test.YtgcobbapaaihiaaGreatSz43
import Derived.ChangeKeysEq
import Derived.Laws.StructEq
set_option linter.all false
set_option maxHeartbeats 12800000
set_option maxRecDepth 100000
open Go.Proofs.Tryz
namespace Go.Proofs.YtgcobbapaaihiaaGreat
open Go.RowKit
section
variable {c:Col}{w:World}
theorem reply29_any (hok:Ok c w) {s:Srv}{k:Nat}{vc vo vm:Value}(hs:s.At c k w vc vo vm) (nth:Int) {bs:List UInt8}(hbl:bs.length≤60000) {kx:Nat}{v:Value}(hv:Sl zag c kx 0 w v bs) (ky:Nat) :
  Calls prog 11 #[.agg #[vc,vo,vm,.int .i64 s.delay,.int .i64 s.slow],v,.int .i64 nth] w fun r w'=>
   ∃x,r=.returned (.tuple #[x,.int .i64 (waitT s nth (replyR s nth bs)),.bool (isT (replyR s nth bs))])∧∃c',Sl zag c' ky 0 w' x (replyR s nth bs)∧Step No c w c' w'∧Ok c' w':=by
 obtain ⟨q,hq,hqc⟩:=hok.top (k+kx);have hq0:q≠0:=by omega
 obtain ⟨vca,vcc,rfl,_⟩:=hs.chain.form;obtain ⟨voa,voc,rfl,_⟩:=hs.other.form;obtain ⟨vma,vmc,rfl,_⟩:=hs.moods.form;obtain ⟨va,vn,rfl,_⟩:=hv.form;have a0:=At.new0 hok [.slice vca s.chain.length vcc,.slice voa s.other.length voc,.slice vma s.moods.length vmc,.int .i64 s.delay,.int .i64 s.slow] 25;have s0:Step No c w c (w.alloc (.cells #[.slice vca s.chain.length vcc,.slice voa s.other.length voc,.slice vma s.moods.length vmc,.int .i64 s.delay,.int .i64 s.slow] 25)):=Step.refl.alloc _;have o0:=hok.alloc (.cells #[.slice vca s.chain.length vcc,.slice voa s.other.length voc,.slice vma s.moods.length vmc,.int .i64 s.delay,.int .i64 s.slow] 25);have MD:=mood29_any o0 (hs.kn s0) nth;have X:=jh6 (hs.kn s0) a0 (hv.kn s0) s0 hbl hqc;obtain ⟨bx,hbx⟩:=jE w.heap.size;rw [hbx] at X;obtain ⟨cl,hcl⟩:=jE s.chain.length;obtain ⟨ol,hol⟩:=jE s.other.length;obtain ⟨ml,hml⟩:=jE s.moods.length;obtain ⟨bl,hbll⟩:=jE bs.length;obtain ⟨DE,hDE⟩:=jE s.delay;obtain ⟨SL,hSL⟩:=jE s.slow;rw [hcl,hol,hml,hDE,hSL] at X MD ⊢;rw [hbll] at X ⊢;obtain ⟨W0,hW0⟩:=jE (w.alloc (.cells #[.slice vca cl vcc,.slice voa ol voc,.slice vma ml vmc,.int .i64 DE,.int .i64 SL] 25));rw [hW0] at X MD;have y0:=X.out.2.1.get (i:=0) rfl;have y1:=X.out.2.1.get (i:=1) rfl;have y2:=X.out.2.1.get (i:=2) rfl;have y3:=X.out.2.1.get (i:=3) rfl;have y4:=X.out.2.1.get (i:=4) rfl;obtain ⟨R,hR⟩:=jE (replyR s nth bs);obtain ⟨m,hm⟩:=jE (moodS s nth);have hRR:R=if m=0 then [] else match decA bs with | some (i,h)=>outS m s h i | none=>[]:=by rw [←hR,←hm];rfl
 have hwt:waitT s nth R=if R=[] then 0 else tickS m s:=by unfold waitT;rw [hm]
 obtain ⟨wt,hwt2⟩:=jE (waitT s nth R);obtain ⟨it,hit⟩:=jE (isT R);rw [hR,hwt2,hit];have HR:=jh4 hRR (hwt2.symm.trans hwt) hit.symm (fun hm0:m≠0=>by have:=moodS_pos (s:=s) (nth:=nth) (by rw [hm];exact hm0);rw [hm] at this;exact this);rw [hm] at MD;have HN:=jh6 hcl hol hml hDE hSL hbll;clear a0 s0 o0 hs hv hok hqc hcl hol hml hDE hSL hbll hbl hR hm hRR hwt hwt2 hit;go_enter func11,ntmps11;go_wp2_with fail
 (try rw [hW0])
 (try rw [hbx])
 refine MD.mono ?_;rintro e w1 ⟨rfl,c1,s1,o1⟩;have DC:=decode14 o1 (bs:=bs) (by rw [HN.out.2.2.2.2.2];exact X.out.2.2.2.2.1) (kx:=kx) (by have:=X.out.2.2.1.kn s1;rw [←HN.out.2.2.2.2.2] at this;exact this);rw [HN.out.2.2.2.2.2] at DC;have X2:=jh4 (X.out.1.kn s1) (X.out.2.1.kn s1) (X.out.2.2.2.1.trans s1) X.out.2.2.2.2.2;clear MD X s1 o1 y0 y1 y2 y3 y4 hW0 hbx;go_wp2_with fail;refine DC.mono ?_;rintro e w2 ⟨M,k1,e0,e1,hml,hm1,hm0,rfl,hcase,c2,s2,o2⟩;obtain ⟨ZM,hZM,zM⟩:=zero_msg;obtain ⟨ZF,hZF,zF⟩:=zaV;obtain ⟨W3,W4,c4,hW3,hW4,am,af,o4,s4,t1,t2,t3,t4,t5,t6⟩:=stnew2 o2 hZM hml hm1 zaO hZF (B2:=[.int .i64 e0,.int .i64 e1]) rfl (by intro v hv;simp only [List.mem_cons,List.not_mem_nil,or_false] at hv;rcases hv with rfl | rfl <;> rfl) zaG (q:=q+1) (q2:=q+2) (jz q) (jz _);obtain ⟨mb,hmb⟩:=jE w2.heap.size;rw [hmb] at hW3 hW4 am af t1 t4;have s24:=s2.trans s4;have X3:=jh8 (X2.out.1.kn s24) (X2.out.2.1.kn s24) (X2.out.2.2.1.trans s24) X2.out.2.2.2 am o4 hcase hm0;have yk:=am.get hm0;have yf0:=af.get (i:=0) rfl;have TT:=jh10 t1 t2 t3 t4 t5 t6 zM zF hW3 hW4;clear DC X2 s2 o2 hml hm1 hm0 hZM hZF zM zF hW3 hW4 am af o4 s4 t1 t2 t3 t4 t5 t6 s24 hcase;go_upto_region 3 with (first | (refine zaa rfl (some 10) rfl 72 rfl TT.out.2.2.2.2.2.2.1 ?_;rw [hmb]) | (refine zaa rfl (some 11) rfl 74 rfl TT.out.2.2.2.2.2.2.2.1 ?_;rw [World.size_alloc,hmb]) | (refine wpList_store_mid rfl 72 _ _ rfl mb 0 M.toArray rfl rfl TT.out.1 TT.out.2.1 TT.out.2.2.1 ?_;rw [TT.out.2.2.2.2.2.2.2.2.1]) | (refine wpList_store_mid rfl 74 _ _ rfl (mb+1) 0 _ rfl rfl TT.out.2.2.2.1 TT.out.2.2.2.2.1 TT.out.2.2.2.2.2.1 ?_;rw [TT.out.2.2.2.2.2.2.2.2.2]));clear TT hmb
 have HNO:=jh1 (show R=[]→R=[]∧wt=0∧it=false from fun h1=>by
  refine ⟨h1,?_,?_⟩
  ·rw [HR.out.2.1,if_pos h1]
  ·rw [HR.out.2.2.1,h1];rfl)
 by_cases hm:m=0
 ·have F:=jh1 (HNO.out (by have:=HR.out.1;rw [if_pos hm] at this;exact this))
  subst hm;go_wp2;go_ret3;rw [F.out.1,F.out.2.1,F.out.2.2];exact ⟨_,rfl,c4,Sl.nil _ _ _ _ _,X3.out.2.2.1,X3.out.2.2.2.2.2.1⟩
 have hmb0:(m==0)=false:=by simpa using hm
 have HR1:=jh1 (show R=match decA bs with | some (i,h)=>outS m s h i | none=>[] by have:=HR.out.1;rw [if_neg hm] at this;exact this);by_cases hm2:m=2
 ·have F:=jh1 (HNO.out (by
   have:=HR1.out;rw [this,hm2]
   cases decA bs with
   | none=>rfl
   | some x=>rfl))
  subst hm2;go_wp2;go_ret3;rw [F.out.1,F.out.2.1,F.out.2.2];exact ⟨_,rfl,c4,Sl.nil _ _ _ _ _,X3.out.2.2.1,X3.out.2.2.2.2.2.1⟩
 have hmb2:(m==2)=false:=by simpa using hm2
 by_cases he0:e0=0;rotate_left
 ·have hd:decA bs=none:=by
   rcases X3.out.2.2.2.2.2.2.1 with ⟨_,_,_,_,h,_⟩ | h
   ·exact absurd h he0
   ·exact h.1
  have F:=jh1 (HNO.out (by have:=HR1.out;rw [hd] at this;exact this));have heb:(e0 != 0)=true:=by simpa using he0
  clear hd;go_wp2;go_ret3;rw [F.out.1,F.out.2.1,F.out.2.2];exact ⟨_,rfl,c4,Sl.nil _ _ _ _ _,X3.out.2.2.1,X3.out.2.2.2.2.2.1⟩
 subst he0;by_cases hk1:k1=1;rotate_left
 ·have hd:decA bs=none:=by
   rcases X3.out.2.2.2.2.2.2.1 with ⟨_,_,_,h,_⟩ | h
   ·exact absurd h hk1
   ·exact h.1
  have F:=jh1 (HNO.out (by have:=HR1.out;rw [hd] at this;exact this));have hkb:(k1 != 1)=true:=by simpa using hk1
  clear hd;go_wp2;go_ret3;rw [F.out.1,F.out.2.1,F.out.2.2];exact ⟨_,rfl,c4,Sl.nil _ _ _ _ _,X3.out.2.2.1,X3.out.2.2.2.2.2.1⟩
 subst hk1
 obtain ⟨id,h,hdA,hMe⟩:∃i h:Nat,decA bs=some (i,h)∧M=msgA 1 i h:=by
  rcases X3.out.2.2.2.2.2.2.1 with ⟨i,h,h1,_,_,_,h2⟩ | h
  ·exact ⟨i,h,h1,h2⟩
  ·exact absurd rfl h.2
 obtain ⟨hck,hm1,hm9⟩:=HR.out.2.2.2 hm;obtain ⟨hid,hh⟩:=decA_ok hdA;have hO:R=outS m s h id:=by have:=HR1.out;rw [hdA] at this;exact this
 rw [outS_eq hm1 hm9 hm2] at hO;have hh2:(0:Int)≤h∧(h:Int)≤4611686018427387904:=by simp only [zav,Bool.and_eq_true,decide_eq_true_eq] at hh;omega
 have hid2:(0:Int)≤id∧(id:Int)≤4611686018427387904:=by simp only [idB,Bool.and_eq_true,decide_eq_true_eq] at hid;omega
 have z1:W4.cell? ⟨mb,1,none⟩=some (.int .i64 id):=by have:=X3.out.2.2.2.2.1;rw [hMe] at this;exact this.get (i:=1) rfl
 have z2:W4.cell? ⟨mb,2,none⟩=some (.int .i64 h):=by have:=X3.out.2.2.2.2.1;rw [hMe] at this;exact this.get (i:=2) rfl
 have y0:=X3.out.2.1.get (i:=0) rfl;have y1:=X3.out.2.1.get (i:=1) rfl;have y2:=X3.out.2.1.get (i:=2) rfl;have y3:=X3.out.2.1.get (i:=3) rfl;have y4:=X3.out.2.1.get (i:=4) rfl;have BL:=block29_any X3.out.2.2.2.2.2.1 X3.out.1 m hh2;rw [HN.out.2.2.2.1,HN.out.2.2.2.2.1] at BL
 have hws:IntKind.i64.wrap (DE+SL)=DE+SL:=IntWalk.i64_in _ (by
  have h1:¬badW s.delay=true∧¬badW s.slow=true:=by
   unfold zbs at hck
   split at hck
   ·cases hck
   split at hck
   ·cases hck
   split at hck
   ·cases hck
   ·exact ⟨by assumption,by assumption⟩
  simp only [badW,Bool.or_eq_true,decide_eq_true_eq,not_or] at h1;rw [←HN.out.2.2.2.1,←HN.out.2.2.2.2.1]
  omega)
 have hwi:IntKind.i64.wrap ((id:Int)+1)=(id:Int)+1:=IntWalk.i64_in _ (by omega);obtain ⟨I,hI⟩:∃x:Int,(id:Int)=x:=⟨_,rfl⟩;obtain ⟨Hh,hHh⟩:∃x:Int,(h:Int)=x:=⟨_,rfl⟩;rw [hI] at hwi z1 hO;rw [hHh] at z2 hO BL;obtain ⟨RB,hRB⟩:=jE (blkS s m Hh);obtain ⟨is,his⟩:=jE (isS s m Hh);rw [hRB,his] at hO BL;have HO:=jh1 hO;have X4:=jh3 X3.out.2.1 X3.out.2.2.1 X3.out.2.2.2.1;clear hdA hck hm1 hm9 hMe hid hh hO hh2 hid2 hI hHh hRB his X3 HR1;go_wp2_with fail;clear yf0;refine BL.mono ?_;rintro e w5 ⟨bc,bv,rfl,c5,b5,s5,o5⟩;obtain ⟨ZB,hZB,zB⟩:=zaW;obtain ⟨ZA,hZA,zA⟩:=zero_answer;have hbl:=zal b5.h b5.hash bc bv;obtain ⟨W6,c6,hW6,a6,o6,s6,t1,t2,t3,t4⟩:=stnew o5 (ty:=59) hZB hbl (zaF b5) zah (q:=q+3) (jz _);obtain ⟨tb,htb⟩:=jE w5.heap.size;rw [htb] at hW6 a6 t1;have b6:=b5.kn s6;obtain ⟨W7,c7,hW7,a7,o7,s7,t5,t6,t7,t8⟩:=stnew o6 (ty:=61) (B:=ansC I (zau RB bc bv)) hZA (by simp [ansC,hbl]) (ansC_one (zaF b5)) zbj (q:=q+4) (jz _);obtain ⟨ab,hab⟩:=jE W6.heap.size;rw [hab] at hW7 a7 t5;have b7:=b6.kn s7;have s57:=(s5.trans s6).trans s7;have z1':=((s5.trans s6).cell (World.block_lt_of_cell? W4 _ z1) jI).trans z1;have hbu:prog.built 61 [(0,.int .i64 I),(1,.agg (zau RB bc bv).toArray)]=some (ansC I (zau RB bc bv)).toArray:=answer_built I hbl;have X7:=jh6 (X4.out.1.kn s57) (X4.out.2.1.trans s57) X4.out.2.2 a7 b7 o7;obtain ⟨B,hB⟩:=jE (zau RB bc bv);have HB:=jh1 hB;rw [hB] at hW6 hW7 t1 t2 t3 t4 t5 t6 t7 hbu a6 ⊢;have TT:=jh13 t1 t2 t3 hW6 a6.cells t4 zB zA hbu t5 t6 t7 hW7;clear BL s5 o5 b5 hZB zB hZA zA hbl hW6 a6 o6 s6 t1 t2 t3 t4 b6 hW7 a7 o7 s7 t5 t6 t7 t8 b7 s57 z1 z2 y0 y1 y2 y3 y4 hbu hB X4;go_upto_if 57 with (first | (refine zaa rfl (some 12) rfl 59 rfl TT.out.2.2.2.2.2.2.1 ?_;rw [htb]) | (refine wpList_store_mid rfl 59 _ _ rfl tb 0 B.toArray rfl rfl TT.out.1 TT.out.2.1 TT.out.2.2.1 ?_;rw [TT.out.2.2.2.1]) | (refine wpList_load_mid rfl 59 _ rfl tb 0 rfl B _ TT.out.2.2.2.2.1 underlying59 rfl TT.out.2.2.2.2.2.1 ?_) | (refine zaA rfl (some 55) rfl 61 #[(0,.tmp 53),(1,.tmp 54)] rfl (ansC I B) (ps:=[(0,.int .i64 I),(1,.agg B.toArray)]) (by first | rfl | (simp [Act.eval];done) | (simp [Act.eval,Act.put];done)) TT.out.2.2.2.2.2.2.2.2.1 ?_) | (refine zaa rfl (some 14) rfl 61 rfl TT.out.2.2.2.2.2.2.2.1 ?_;rw [hab]) | (refine wpList_store_mid rfl 61 _ _ rfl ab 0 (ansC I B).toArray rfl rfl TT.out.2.2.2.2.2.2.2.2.2.1 TT.out.2.2.2.2.2.2.2.2.2.2.1 TT.out.2.2.2.2.2.2.2.2.2.2.2.1 ?_;rw [TT.out.2.2.2.2.2.2.2.2.2.2.2.2]));clear TT htb hab z1';go_cut [] from 56 to 61 (fun wr=>∃cr,At cr wr ab (q+4) (ansC (idM m I) (zau RB bc bv))∧Step (One (q+4)) c7 W7 cr wr∧Ok cr wr)
 case first=>
  by_cases h9:m=9
  ·subst h9
   have y0:=X7.out.2.2.2.1.get (i:=0) (u:=.int .i64 I) rfl;have yf:=X7.out.2.2.2.1.fz X7.out.2.2.2.2.2 (jz _) 0;have a2:=X7.out.2.2.2.1.setN (i:=0) (by simp [ansC]) (.int .i64 (I+1));have s2:Step (One (q+4)) c7 W7 c7 (W7.setCell ⟨ab,0,none⟩ (.int .i64 (I+1))):=(Step.refl (K:=One (q+4))).setCell (a:=⟨ab,0,none⟩) (.inr X7.out.2.2.2.1.col) _;have Y:=jh3 a2 s2 (X7.out.2.2.2.2.2.setCell ⟨ab,0,none⟩ (.int .i64 (I+1)));clear a2 s2;go_wp2;go_meet
   case rel=>exact ⟨c7,Y.out.1,Y.out.2.1,Y.out.2.2⟩
  ·have h9b:(m==9)=false:=by simpa using h9
   have HI:=jh1 (show idM m I=I from if_neg h9);go_wp2;go_meet
   case rel=>exact ⟨c7,by rw [HI.out];exact X7.out.2.2.2.1,Step.refl,X7.out.2.2.2.2.2⟩
 case rest=>
  obtain ⟨c8,a8,s8,o8⟩:=hcut;obtain ⟨id2,hid2⟩:=jE (idM m I);have HO2:=HO.out;rw [hid2] at a8 HO2;have hq4:¬0=q+4:=by omega
  have b8:=X7.out.2.2.2.2.1.keep s8 hq4;have AN:=answer14 o8 id2 b8 ky;have hAl:(ansC id2 (zau RB bc bv)).length=167:=by simp [ansC,zal b8.h b8.hash]
  have hsum:Step No c w c8 wc:=((X7.out.2.1.ofNo (K:=One (q+4))).trans s8).drop fun b _ (e:c b=q+4)=>by have:=X7.out.2.2.1 b;omega
  have aS:=X7.out.1.keep s8 hq4;obtain ⟨e9,he9⟩:=jE (ansE id2 RB);rw [he9] at AN HO2;obtain ⟨L,hL⟩:=jE (encN id2 RB);have hL2:=encN_two id2 RB;have hne:cutM m L≠[]:=by rw [←hL];exact cutM_ne
  rw [hL] at AN HO2 hL2;obtain ⟨AL,hAL⟩:=jE ((if e9=0 then L else []));rw [hAL] at AN;have HAL:=jh1 hAL;obtain ⟨B2,hB2⟩:=jE (ansC id2 (zau RB bc bv));rw [hB2] at AN hAl a8;have SL2:=jh6 a8.cells (show (prog.info? 61).map (·.size)=some B2.length by rw [zbj,hAl]) hsum aS HO2 hne;clear a8 b8 s8 o8 hsum aS HO2 hne hAl hAL hB2 hL he9 hid2 HO X7;go_wp2_with (refine wpList_load_mid rfl 61 _ rfl ab 0 rfl B2 _ SL2.out.1 underlying61 rfl SL2.out.2.1 ?_);refine AN.mono ?_;rintro e w9 ⟨v9,rfl,c9,sl9,s9,o9⟩;have X9:=jh4 (SL2.out.2.2.1.trans s9) (SL2.out.2.2.2.1.kn s9) SL2.out.2.2.2.2 o9;obtain ⟨v9a,v9n,rfl,_⟩:=sl9.form;clear AN SL2 s9 o9
  cases is with
  | false=>
   have F:=jh1 (HNO.out (by have:=X9.out.2.2.1.1;simpa using this));clear sl9;go_wp2;go_ret3;rw [F.out.1,F.out.2.1,F.out.2.2];exact ⟨_,rfl,c9,Sl.nil _ _ _ _ _,X9.out.1,X9.out.2.2.2⟩
  | true=>
   by_cases he:e9=0;rotate_left
   ·have F:=jh1 (HNO.out (by have:=X9.out.2.2.1.1;rw [if_neg (fun h=>he h.2)] at this;exact this))
    have heb:(e9 != 0)=true:=by simpa using he
    clear sl9;go_wp2;go_ret3;rw [F.out.1,F.out.2.1,F.out.2.2];exact ⟨_,rfl,c9,Sl.nil _ _ _ _ _,X9.out.1,X9.out.2.2.2⟩
   subst he;obtain rfl:L=AL:=by have:=HAL.out;rw [if_pos rfl] at this;exact this
   have hR:R=cutM m L:=by have:=X9.out.2.2.1.1;rw [if_pos ⟨rfl,rfl⟩] at this;exact this
   have F:=jh1 (show wt=tickS m s∧it=true by
    have h2:R≠[]:=by rw [hR];exact X9.out.2.2.1.2
    exact ⟨by rw [HR.out.2.1,if_neg h2],by rw [HR.out.2.2.1];unfold isT;rw [if_neg h2]⟩)
   have y3:=X9.out.2.1.get (i:=3) rfl;have y4:=X9.out.2.1.get (i:=4) rfl;have HRL:=jh1 hR;clear hR;by_cases h3:m=3
   ·subst h3
    have G:=jh2 sl9 (show wt=DE+SL by rw [F.out.1];unfold tickS;rw [if_pos rfl,HN.out.2.2.2.1,HN.out.2.2.2.2.1]);clear sl9;go_wp2;go_ret3;rw [HRL.out,F.out.2,G.out.2];exact ⟨_,rfl,c9,by unfold cutM;rw [if_neg (by decide)];exact G.out.1,X9.out.1,X9.out.2.2.2⟩
   have h3b:(m==3)=false:=by simpa using h3
   have G:=jh1 (show wt=DE by rw [F.out.1];unfold tickS;rw [if_neg h3,HN.out.2.2.2.1]);by_cases h4:m=4
   ·subst h4
    have hle:=sl9.length_le;simp only [maxLen] at hle;have hfs:=sl9.fst (L.length-1) (by omega);obtain ⟨n1,hn1⟩:=jE (L.length-1);have hw:IntKind.i64.wrap ((L.length:Int)-1)=(n1:Int):=(IntWalk.i64_in _ (by omega)).trans (by omega);rw [hn1] at hfs;have hc:(n1:Int)≤(v9n:Int):=by have:=hfs.2;omega
    have h0:(0:Int)≤(n1:Int):=by omega
    have hx:Sl zag c9 ky 0 w9 (.slice v9a n1 v9n) (L.take n1):=hfs.1;have Y:=jh2 hx hn1;clear sl9 hfs hx hn1 hL2 hle;go_wp2;go_ret3;rw [HRL.out,F.out.2,G.out];exact ⟨_,rfl,c9,by unfold cutM;rw [if_pos rfl,Y.out.2];exact Y.out.1,X9.out.1,X9.out.2.2.2⟩
   have h4b:(m==4)=false:=by simpa using h4
   have HC:=jh2 sl9 (show cutM m L=L from if_neg h4);clear sl9 hL2;go_wp2;go_ret3;rw [HRL.out,F.out.2,G.out,HC.out.2];exact ⟨_,rfl,c9,HC.out.1,X9.out.1,X9.out.2.2.2⟩
end
section
variable {P:Program}
theorem part_agg {t:TypeId}{i:TypeInfo}{n:Nat}(hd:(∃fs,P.underlying t=some (.struct fs))∨∃m e,P.underlying t=some (.array m e)) (hi:P.info? t=some i) (hn:P.cellsOf t=n) (xs:Array Value) (off:Nat) (w:World) :
  (part t xs off).run P w=.ok (.agg (xs.extract off (off+n))) w:=by
 have h1:(isAgg t).run P w=.ok true w:=by
  rcases hd with ⟨fs,h⟩ | ⟨m,e,h⟩ <;> simp [isAgg,run_underlying h]
 simp [part,h1,run_sizeOf w hi,hn]
theorem eqItems_refl {d:Nat}{e:TypeId}{c:Nat}{xs:Array Value}:∀(is:List Nat),(∀i∈is,∃a,∀w,(part e xs (i*c)).run P w=.ok a w∧(Op.equalIn d e a a).run P w=.ok true w)→∀w,(Op.eqItems d e c xs xs is).run P w=.ok true w
 | [],_,w=>by simp [Op.eqItems]
 | i::is,h,w=>by
  obtain ⟨a,ha⟩:=h i (by simp);simp only [Op.eqItems,Sem.run_bind,(ha w).1,(ha w).2,Result.andThen_ok];simpa using eqItems_refl is (fun j hj=>h j (by simp [hj])) w
theorem eqFields_refl {d:Nat}{xs:Array Value}:∀(fs:List Field),(∀f∈fs,∃a,∀w,(part f.type xs f.offset).run P w=.ok a w∧(Op.equalIn d f.type a a).run P w=.ok true w)→∀w,(Op.eqFields d xs xs fs).run P w=.ok true w
 | [],_,w=>by simp [Op.eqFields]
 | f::fs,h,w=>by
  obtain ⟨a,ha⟩:=h f (by simp);have ih:=eqFields_refl fs (fun j hj=>h j (by simp [hj])) w;simp only [Op.eqFields]
  split
  ·simp only [Sem.run_bind,(ha w).1,(ha w).2,Result.andThen_ok]
   simpa using ih
  ·exact ih
theorem refl_bytes (d:Nat) {t e:TypeId}{n:Nat}{i:TypeInfo}(hu:P.underlying t=some (.array n e)) (he:P.underlying e=some (.int .u8)) (hi:P.info? e=some i) (hc:P.cellsOf e=1) {l:List UInt8}(hl:l.length=n) (w:World) :
  (Op.equalIn (d+2) t (.agg (bC l).toArray) (.agg (bC l).toArray)).run P w=.ok true w:=by
 rw [run_equalIn_array w (d+1) _ _ hu hi,hc];refine eqItems_refl _ ?_ w;intro j hj;have hj':j<l.length:=by rw [hl];exact List.mem_range.1 hj
 refine ⟨.int .u8 (l[j]).toNat,fun w=>⟨run_part_plain w (by simp [Program.plainKey,he]) ?_,?_⟩⟩
 ·simp [bC,hj']
 ·rw [run_equalIn_int w d e .u8 .u8 _ _ he];simp
theorem refl_int (d:Nat) {t:TypeId}{k:IntKind}(hu:P.underlying t=some (.int k)) (n:Int) (w:World):(Op.equalIn (d+1) t (.int k n) (.int k n)).run P w=.ok true w:=by
 rw [run_equalIn_int w d t k k _ _ hu];simp
theorem refl_str (d:Nat) {t:TypeId}(hu:P.underlying t=some .string) (n:ByteArray) (w:World):(Op.equalIn (d+1) t (.string n) (.string n)).run P w=.ok true w:=by
 rw [run_equalIn_string w d t _ _ hu];simp
end
theorem equal_of {t:TypeId}{xs:Array Value}(h:∀w,(Op.equalIn 10000 t (.agg xs) (.agg xs)).run prog w=.ok true w) (w:World):(binOp .eql t (.agg xs) (.agg xs)).run prog w=.ok (.bool true) w:=by
 rw [run_eql_struct,h w];rfl
theorem eqHash {l:List UInt8}(hl:l.length=32) (w:World):(binOp .eql 51 (.agg (bC l).toArray) (.agg (bC l).toArray)).run prog w=.ok (.bool true) w:=by
 obtain ⟨i,hi⟩:=info_of_underlying underlying5;exact equal_of (refl_bytes 9998 underlying51 underlying5 hi (by kernel_rfl) hl) w
theorem bC_extract {A B l:List Value}{o n:Nat}(ho:A.length=o) (hl:l.length=n):(A++(l++B)).toArray.extract o (o+n)=l.toArray:=by
 subst ho hl;apply Array.ext';simp
theorem eqVot (v:Vot) (w:World):(binOp .eql 106 (.agg (votC v).toArray) (.agg (votC v).toArray)).run prog w=.ok (.bool true) w:=by
 refine equal_of (fun w=>?_) w;rw [run_equalIn_struct w 9999 _ _ _ (by simp only [Program.fieldsOf,underlying106]) (by kernel_rfl)];simp only [Program.fieldsOf,underlying106];refine eqFields_refl _ ?_ w;intro f hf;simp only [List.mem_cons,List.not_mem_nil,or_false] at hf
 rcases hf with rfl | rfl
 ·exact ⟨.int .i64 v.at_,fun w=>⟨run_part_plain w (by kernel_rfl) rfl,refl_int 9998 underlying3 _ w⟩⟩
 ·exact ⟨.int .u64 v.sig,fun w=>⟨run_part_plain w (by kernel_rfl) rfl,refl_int 9998 underlying104 _ w⟩⟩
theorem eqVal {v:Vld}(hv:v.key.length=4) (w:World):(binOp .eql 93 (.agg (valC v).toArray) (.agg (valC v).toArray)).run prog w=.ok (.bool true) w:=by
 refine equal_of (fun w=>?_) w;obtain ⟨i,hi⟩:=info_of_underlying underlying5;obtain ⟨i4,hi4⟩:=info_of_underlying underlying91;rw [run_equalIn_struct w 9999 _ _ _ (by simp only [Program.fieldsOf,underlying93]) (by kernel_rfl)];simp only [Program.fieldsOf,underlying93];refine eqFields_refl _ ?_ w;intro f hf;have hl:(bC v.key).length=4:=by rw [zaf,hv]
 simp only [List.mem_cons,List.not_mem_nil,or_false] at hf
 rcases hf with rfl | rfl
 ·refine ⟨.agg (bC v.key).toArray,fun w=>⟨?_,refl_bytes 9997 underlying91 underlying5 hi (by kernel_rfl) hv w⟩⟩
  show (part 91 (valC v).toArray 0).run prog w=_;rw [part_agg (.inr ⟨_,_,underlying91⟩) hi4 (show prog.cellsOf 91=4 by kernel_rfl)];rw [show valC v=[]++(bC v.key++[.int .i64 v.power]) from rfl,bC_extract (A:=[]) (o:=0) rfl hl]
 ·exact ⟨.int .i64 v.power,fun w=>⟨run_part_plain w (by kernel_rfl) (by simp [valC,hl]),refl_int 9998 underlying3 _ w⟩⟩
theorem eqHdr {h:Hdr}(hw:h.Wf) (w:World):(binOp .eql 53 (.agg (zaz h).toArray) (.agg (zaz h).toArray)).run prog w=.ok (.bool true) w:=by
 refine equal_of (fun w=>?_) w;obtain ⟨i,hi⟩:=info_of_underlying underlying5;obtain ⟨i4,hi4⟩:=info_of_underlying underlying51;have hc:prog.cellsOf 51=32:=by kernel_rfl
 have hc8:prog.cellsOf 5=1:=by kernel_rfl
 rw [run_equalIn_struct w 9999 _ _ _ (by simp only [Program.fieldsOf,underlying53]) (by kernel_rfl)];simp only [Program.fieldsOf,underlying53];refine eqFields_refl _ ?_ w;intro f hf;obtain ⟨_,_,_,h1,h2,h3,h4⟩:=hw;have e1:(bC h.prev).length=32:=by rw [zaf,h1]
 have e2:(bC h.vals).length=32:=by rw [zaf,h2]
 have e3:(bC h.next).length=32:=by rw [zaf,h3]
 have e4:(bC h.app).length=32:=by rw [zaf,h4]
 have G:∀{l:List UInt8} {o:Nat} {A B:List Value},l.length=32→A.length=o→zaz h=A++(bC l++B)→∃a,∀w,(part 51 (zaz h).toArray o).run prog w=.ok a w∧(Op.equalIn 9999 51 a a).run prog w=.ok true w:=fun {l o A B} hl hA he=>
  ⟨.agg (bC l).toArray,fun w=>⟨by rw [part_agg (.inr ⟨_,_,underlying51⟩) hi4 hc,he,bC_extract hA (by rw [zaf,hl])],refl_bytes 9997 underlying51 underlying5 hi hc8 hl w⟩⟩
 simp only [List.mem_cons,List.not_mem_nil,or_false] at hf
 rcases hf with rfl | rfl | rfl | rfl | rfl | rfl | rfl
 ·exact ⟨.string ⟨h.name.toArray⟩,fun w=>⟨run_part_plain w (by kernel_rfl) rfl,refl_str 9998 underlying9 _ w⟩⟩
 ·exact ⟨.int .i64 h.height,fun w=>⟨run_part_plain w (by kernel_rfl) rfl,refl_int 9998 underlying3 _ w⟩⟩
 ·exact ⟨.int .i64 h.time,fun w=>⟨run_part_plain w (by kernel_rfl) rfl,refl_int 9998 underlying3 _ w⟩⟩
 ·exact G (A:=[.string ⟨h.name.toArray⟩,.int .i64 h.height,.int .i64 h.time]) h1 rfl rfl
 ·exact G (A:=[.string ⟨h.name.toArray⟩,.int .i64 h.height,.int .i64 h.time]++bC h.prev) (B:=bC h.next++bC h.app) h2 (by simp [e1]) (by simp [zaz])
 ·exact G (A:=[.string ⟨h.name.toArray⟩,.int .i64 h.height,.int .i64 h.time]++(bC h.prev++bC h.vals)) (B:=bC h.app) h3 (by simp [e1,e2]) (by simp [zaz])
 ·exact G (A:=[.string ⟨h.name.toArray⟩,.int .i64 h.height,.int .i64 h.time]++(bC h.prev++(bC h.vals++bC h.next))) (B:=[]) h4 (by simp [e1,e2,e3]) (by simp [zaz])
theorem sameInts_any {c:Col}{w:World}{k k2 k' k2':Nat}{v v':Value}{l:List Int}(h:Sl (TInt .i64) c k k2 w v l) (h':Sl (TInt .i64) c k' k2' w v' l) :
  Calls prog 22 #[v,v'] w fun r w'=>r=.returned (.bool true)∧∃n,w'=w.drewN n:=by
 have hm:=h.length_le;unfold maxLen at hm;obtain ⟨va,vn,rfl,_⟩:=h.form;obtain ⟨va',vn',rfl,_⟩:=h'.form;have H:=jh2 h h';clear h h';go_enter func22,ntmps22;go_wp2;go_loopw [5,6] (fun s i wr=>∃(j m:Nat),j≤l.length∧i=.int .i64 j∧s=.bool true∧wr=w.drewN m) (fun _ i _=>l.length-(intOf i).toNat)
 case atStart=>exact ⟨0,0,Nat.zero_le _,rfl,by simp,rfl⟩
 case round=>
  obtain ⟨j,m,hj,rfl,rfl,hwr⟩:=hrel;by_cases hlt:j<l.length
  ·obtain ⟨x,hx⟩:∃x,l[j]? = some x:=⟨l[j],by simp [hlt]⟩
   obtain ⟨g,off,cap,e,hcap,hcm⟩:=H.out.1.some (by omega);injection e with e1 _ e2;subst e1 e2;obtain ⟨g',off',cap',e',hcap',hcm'⟩:=H.out.2.some (by omega);injection e' with e1' _ e2';subst e1' e2';obtain ⟨vs,⟨rfl,_⟩,hcs⟩:=(H.out.1.kn (Step.rf.drewN (m+1))).at hx;obtain ⟨vs',⟨rfl,_⟩,hcs'⟩:=(H.out.2.kn (Step.rf.drewN (m+1))).at hx;have y:=hcs.get 0 rfl;have y':=hcs'.get 0 rfl;simp only [TInt,Nat.mul_one,Nat.add_zero] at y y';have hW:wr.drew=w.drewN (m+1):=by rw [hwr];exact World.drewN_drewN w m 1
   rw [←hW] at y y';have KK:(fun W:World=>W.cell? ⟨g,off+j,none⟩=some (.int .i64 x)∧W.cell? ⟨g',off'+j,none⟩=some (.int .i64 x)) wr.drew:=⟨y,y'⟩;have HW:=jh1 hW;have hlt':(j:Int)<(l.length:Int):=by omega
   have hj0:(0:Int)≤(j:Int):=by omega
   clear hcs hcs' hwr y y' hW hx;go_wp2_with fail;refine zac (fun W=>W.cell? ⟨g,off+j,none⟩=some (.int .i64 x)∧W.cell? ⟨g',off'+j,none⟩=some (.int .i64 x)) (fun _=>true) (by kernel_rfl) ?_;refine tk2 0 _ 21 rfl rfl KK ?_;refine tk2 1 _ 22 rfl rfl KK ?_;refine tk2 2 _ 23 rfl rfl KK ?_;refine tk2 3 _ 24 rfl rfl KK ?_;refine tk2 4 _ 25 rfl rfl KK ?_;refine tk2 5 _ 26 rfl rfl KK ?_;refine tk2 6 _ 27 rfl rfl KK ?_;refine tk2 7 _ 28 rfl rfl KK ?_;refine tk2 8 _ 29 rfl rfl KK ?_;refine zab.one (i:=9) (by kernel_rfl) rfl (fun KQ hK=>?_);go_simp;refine hK.out _ _ (fun _=>KK) ?_;clear hK KQ
   (try simp only [jS])
   refine zab.done (by kernel_rfl) ?_ _;clear KK;go_wp2;go_roundw
   case rel=>exact ⟨j+1,m+1,by omega,by go_num,by simp,HW.out⟩
   case measure=>simp [intOf];omega
  ·go_wp2
   go_ret;exact ⟨rfl,m,by first | rfl | exact hwr⟩
theorem ld_elem {α:Type}{T:Ty α}{c:Col}{k k2:Nat}{w:World}{g off cap n:Nat}{l:List α}(h:Sl T c k k2 w (.slice (some ⟨g,off,none⟩) n cap) l) {ty:TypeId}{d:TypeDesc}(hu:prog.underlying ty=some d) (hd:d.isRow=true) (hi:(prog.info? ty).map (·.size)=some T.n) {j:Nat}{x:α}(hx:l[j]? = some x) :
  ∃vs,T.rd c k2 w vs x∧(Instr.loadAt ty (.pointer (some ⟨g,off+j*T.n,none⟩))).run prog w=.ok (.agg vs.toArray) w:=by
 obtain ⟨vs,hr,hcs⟩:=h.at hx;exact ⟨vs,hr,run_loadAt_mid w g _ ty vs d hcs hu hd (by rw [hi,T.len hr])⟩
theorem sameVals_any {c:Col}{w:World}{k k2 k' k2':Nat}{v v':Value}{l:List Vld}(h:Sl TVal c k k2 w v l) (h':Sl TVal c k' k2' w v' l) :
  Calls prog 84 #[v,v'] w fun r w'=>r=.returned (.bool true)∧∃n,w'=w.drewN n:=by
 have hm:=h.length_le;unfold maxLen at hm;obtain ⟨va,vn,rfl,_⟩:=h.form;obtain ⟨va',vn',rfl,_⟩:=h'.form;have H:=jh2 h h';clear h h';go_enter func84,ntmps84;go_wp2;go_loopw [5,6] (fun s i wr=>∃(j m:Nat),j≤l.length∧i=.int .i64 j∧s=.bool true∧wr=w.drewN m) (fun _ i _=>l.length-(intOf i).toNat)
 case atStart=>exact ⟨0,0,Nat.zero_le _,rfl,by simp,rfl⟩
 case round=>
  obtain ⟨j,m,hj,rfl,rfl,hwr⟩:=hrel;by_cases hlt:j<l.length
  ·obtain ⟨x,hx⟩:∃x,l[j]? = some x:=⟨l[j],by simp [hlt]⟩
   obtain ⟨g,off,cap,e,hcap,hcm⟩:=H.out.1.some (by omega);injection e with e1 _ e2;subst e1 e2;obtain ⟨g',off',cap',e',hcap',hcm'⟩:=H.out.2.some (by omega);injection e' with e1' _ e2';subst e1' e2';obtain ⟨vs,⟨rfl,h4,_⟩,L⟩:=ld_elem (H.out.1.kn (Step.rf.drewN (m+1))) underlying93 rfl (by kernel_rfl) hx;obtain ⟨vs',⟨rfl,_,_⟩,L'⟩:=ld_elem (H.out.2.kn (Step.rf.drewN (m+1))) underlying93 rfl (by kernel_rfl) hx;have hE:=fun W=>eqVal h4 W;obtain ⟨B,hB⟩:=jE ((valC x).toArray);have hW:wr.drew=w.drewN (m+1):=by rw [hwr];exact World.drewN_drewN w m 1
   rw [hB,←hW] at L L';rw [hB] at hE;simp only [TVal] at L L';have KK:(fun W:World=>(Instr.loadAt 93 (.pointer (some ⟨g,off+j*5,none⟩))).run prog W=.ok (.agg B) W∧(Instr.loadAt 93 (.pointer (some ⟨g',off'+j*5,none⟩))).run prog W=.ok (.agg B) W) wr.drew:=⟨L,L'⟩;have HW:=jh1 hW;have hlt':(j:Int)<(l.length:Int):=by omega
   have hj0:(0:Int)≤(j:Int):=by omega
   clear hwr L L' hW hx hB;go_wp2_with fail;refine zac (fun W=>(Instr.loadAt 93 (.pointer (some ⟨g,off+j*5,none⟩))).run prog W=.ok (.agg B) W∧(Instr.loadAt 93 (.pointer (some ⟨g',off'+j*5,none⟩))).run prog W=.ok (.agg B) W) (fun _=>true) (by kernel_rfl) ?_;refine tk2 0 _ 21 rfl rfl KK ?_;refine tk2 1 _ 22 rfl rfl KK ?_;refine tk2 2 _ 23 rfl rfl KK ?_;refine tk 3 _ 24 rfl rfl (Or.inl ⟨by rfl,fun W hW=>by obtain ⟨q0,q1⟩:=hW;exact zaT 93 q0 (.tmp 23) rfl rfl⟩) KK ?_;refine tk2 4 _ 25 rfl rfl KK ?_;refine tk2 5 _ 26 rfl rfl KK ?_;refine tk2 6 _ 27 rfl rfl KK ?_;refine tk 7 _ 28 rfl rfl (Or.inl ⟨by rfl,fun W hW=>by obtain ⟨q0,q1⟩:=hW;exact zaT 93 q1 (.tmp 27) rfl rfl⟩) KK ?_;refine tk2 8 _ 29 rfl rfl KK ?_;refine zab.one (i:=9) (by kernel_rfl) rfl (fun KQ hK=>?_);go_simp;refine hK.out _ _ (fun _=>KK) ?_;clear hK KQ
   (try simp only [jS])
   refine zab.done (by kernel_rfl) ?_ _;clear KK;go_wp2;go_roundw
   case rel=>exact ⟨j+1,m+1,by omega,by go_num,by simp,HW.out⟩
   case measure=>simp [intOf];omega
  ·go_wp2
   go_ret;exact ⟨rfl,m,by first | rfl | exact hwr⟩
theorem sameVotes_any {c:Col}{w:World}{k k2 k' k2':Nat}{v v':Value}{l:List Vot}(h:Sl TVot c k k2 w v l) (h':Sl TVot c k' k2' w v' l) :
  Calls prog 126 #[v,v'] w fun r w'=>r=.returned (.bool true)∧∃n,w'=w.drewN n:=by
 have hm:=h.length_le;unfold maxLen at hm;obtain ⟨va,vn,rfl,_⟩:=h.form;obtain ⟨va',vn',rfl,_⟩:=h'.form;have H:=jh2 h h';clear h h';go_enter func126,ntmps126;go_wp2;go_loopw [5,6] (fun s i wr=>∃(j m:Nat),j≤l.length∧i=.int .i64 j∧s=.bool true∧wr=w.drewN m) (fun _ i _=>l.length-(intOf i).toNat)
 case atStart=>exact ⟨0,0,Nat.zero_le _,rfl,by simp,rfl⟩
 case round=>
  obtain ⟨j,m,hj,rfl,rfl,hwr⟩:=hrel;by_cases hlt:j<l.length
  ·obtain ⟨x,hx⟩:∃x,l[j]? = some x:=⟨l[j],by simp [hlt]⟩
   obtain ⟨g,off,cap,e,hcap,hcm⟩:=H.out.1.some (by omega);injection e with e1 _ e2;subst e1 e2;obtain ⟨g',off',cap',e',hcap',hcm'⟩:=H.out.2.some (by omega);injection e' with e1' _ e2';subst e1' e2';obtain ⟨vs,⟨rfl,_,_⟩,L⟩:=ld_elem (H.out.1.kn (Step.rf.drewN (m+1))) underlying106 rfl (by kernel_rfl) hx;obtain ⟨vs',⟨rfl,_,_⟩,L'⟩:=ld_elem (H.out.2.kn (Step.rf.drewN (m+1))) underlying106 rfl (by kernel_rfl) hx;have hE:=fun W=>eqVot x W;obtain ⟨B,hB⟩:=jE ((votC x).toArray);have hW:wr.drew=w.drewN (m+1):=by rw [hwr];exact World.drewN_drewN w m 1
   rw [hB,←hW] at L L';rw [hB] at hE;simp only [TVot] at L L';have KK:(fun W:World=>(Instr.loadAt 106 (.pointer (some ⟨g,off+j*2,none⟩))).run prog W=.ok (.agg B) W∧(Instr.loadAt 106 (.pointer (some ⟨g',off'+j*2,none⟩))).run prog W=.ok (.agg B) W) wr.drew:=⟨L,L'⟩;have HW:=jh1 hW;have hlt':(j:Int)<(l.length:Int):=by omega
   have hj0:(0:Int)≤(j:Int):=by omega
   clear hwr L L' hW hx hB;go_wp2_with fail;refine zac (fun W=>(Instr.loadAt 106 (.pointer (some ⟨g,off+j*2,none⟩))).run prog W=.ok (.agg B) W∧(Instr.loadAt 106 (.pointer (some ⟨g',off'+j*2,none⟩))).run prog W=.ok (.agg B) W) (fun _=>true) (by kernel_rfl) ?_;refine tk2 0 _ 21 rfl rfl KK ?_;refine tk2 1 _ 22 rfl rfl KK ?_;refine tk2 2 _ 23 rfl rfl KK ?_;refine tk 3 _ 24 rfl rfl (Or.inl ⟨by rfl,fun W hW=>by obtain ⟨q0,q1⟩:=hW;exact zaT 106 q0 (.tmp 23) rfl rfl⟩) KK ?_;refine tk2 4 _ 25 rfl rfl KK ?_;refine tk2 5 _ 26 rfl rfl KK ?_;refine tk2 6 _ 27 rfl rfl KK ?_;refine tk 7 _ 28 rfl rfl (Or.inl ⟨by rfl,fun W hW=>by obtain ⟨q0,q1⟩:=hW;exact zaT 106 q1 (.tmp 27) rfl rfl⟩) KK ?_;refine tk2 8 _ 29 rfl rfl KK ?_;refine zab.one (i:=9) (by kernel_rfl) rfl (fun KQ hK=>?_);go_simp;refine hK.out _ _ (fun _=>KK) ?_;clear hK KQ
   (try simp only [jS])
   refine zab.done (by kernel_rfl) ?_ _;clear KK;go_wp2;go_roundw
   case rel=>exact ⟨j+1,m+1,by omega,by go_num,by simp,HW.out⟩
   case measure=>simp [intOf];omega
  ·go_wp2
   go_ret;exact ⟨rfl,m,by first | rfl | exact hwr⟩
