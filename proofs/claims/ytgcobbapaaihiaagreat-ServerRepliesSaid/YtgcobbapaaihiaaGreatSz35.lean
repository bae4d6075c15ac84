/- ServerReplies, part 35: lemmas, each with its own conditions. -/
import Derived.Test.YtgcobbapaaihiaaGreatSz34
set_option linter.all false
set_option maxHeartbeats 12800000
set_option maxRecDepth 100000
open Go.Proofs.Tryz
namespace Go.Proofs.YtgcobbapaaihiaaGreat
open Go.RowKit
def replyR (s:Srv) (nth:Int) (bs:List UInt8):List UInt8:=if moodS s nth=0 then [] else match decA bs with
 | some (i,h)=>outS (moodS s nth) s h i
 | none=>[]
theorem mayR_ok {may:Int→Bool}{bs:List UInt8}{a n a':Nat}(h:mayR may bs a=some (n,a')):may n=true:=by
 unfold mayR at h
 split at h
 ·split at h
  ·next hm=>injection h with h;injection h with h1 h2;subst h1;exact hm
  ·cases h
 ·cases h
theorem decA_ok {bs:List UInt8}{i h:Nat}(hd:decA bs=some (i,h)):idB i=true∧zav h=true:=by
 unfold decA at hd
 split at hd
 ·split at hd
  ·split at hd
   ·next hi=>
    split at hd
    ·next hh=>
     split at hd
     ·injection hd with hd;injection hd with h1 h2;subst h1 h2;exact ⟨mayR_ok hi,mayR_ok hh⟩
     ·cases hd
    ·cases hd
   ·cases hd
  ·cases hd
 ·cases hd
section
variable {c:Col}{w:World}
theorem replyX_any (hok:Ok c w) {s:Srv}{k:Nat}{vc vo vm:Value}(hs:s.At c k w vc vo vm) (nth:Int) {bs:List UInt8}(hbl:bs.length≤60000) {kx:Nat}{v:Value}(hv:Sl zag c kx 0 w v bs) (ky:Nat) :
  Calls prog 10 #[.agg #[vc,vo,vm,.int .i64 s.delay,.int .i64 s.slow],v,.int .i64 nth] w fun r w'=>
   ∃x,r=.returned (.tuple #[x,.int .i64 (waitT s nth (replyR s nth bs)),.bool (isT (replyR s nth bs))])∧∃c',Sl zag c' ky 0 w' x (replyR s nth bs)∧Step No c w c' w'∧Ok c' w':=by
 obtain ⟨q,hq,hqc⟩:=hok.top (k+kx);have hq0:q≠0:=by omega
 obtain ⟨vca,vcc,rfl,_⟩:=hs.chain.form;obtain ⟨voa,voc,rfl,_⟩:=hs.other.form;obtain ⟨vma,vmc,rfl,_⟩:=hs.moods.form;obtain ⟨va,vn,rfl,_⟩:=hv.form;have a0:=At.new0 hok [.slice vca s.chain.length vcc,.slice voa s.other.length voc,.slice vma s.moods.length vmc,.int .i64 s.delay,.int .i64 s.slow] 25;have s0:Step No c w c (w.alloc (.cells #[.slice vca s.chain.length vcc,.slice voa s.other.length voc,.slice vma s.moods.length vmc,.int .i64 s.delay,.int .i64 s.slow] 25)):=Step.refl.alloc _;have o0:=hok.alloc (.cells #[.slice vca s.chain.length vcc,.slice voa s.other.length voc,.slice vma s.moods.length vmc,.int .i64 s.delay,.int .i64 s.slow] 25);have MD:=mood_any o0 (hs.kn s0) nth;have X:=jh6 (hs.kn s0) a0 (hv.kn s0) s0 hbl hqc;obtain ⟨bx,hbx⟩:=jE w.heap.size;rw [hbx] at X;obtain ⟨cl,hcl⟩:=jE s.chain.length;obtain ⟨ol,hol⟩:=jE s.other.length;obtain ⟨ml,hml⟩:=jE s.moods.length;obtain ⟨bl,hbll⟩:=jE bs.length;obtain ⟨DE,hDE⟩:=jE s.delay;obtain ⟨SL,hSL⟩:=jE s.slow;rw [hcl,hol,hml,hDE,hSL] at X MD ⊢;rw [hbll] at X ⊢;obtain ⟨W0,hW0⟩:=jE (w.alloc (.cells #[.slice vca cl vcc,.slice voa ol voc,.slice vma ml vmc,.int .i64 DE,.int .i64 SL] 25));rw [hW0] at X MD;have y0:=X.out.2.1.get (i:=0) rfl;have y1:=X.out.2.1.get (i:=1) rfl;have y2:=X.out.2.1.get (i:=2) rfl;have y3:=X.out.2.1.get (i:=3) rfl;have y4:=X.out.2.1.get (i:=4) rfl;obtain ⟨R,hR⟩:=jE (replyR s nth bs);obtain ⟨m,hm⟩:=jE (moodS s nth);have hRR:R=if m=0 then [] else match decA bs with | some (i,h)=>outS m s h i | none=>[]:=by rw [←hR,←hm];rfl
 have hwt:waitT s nth R=if R=[] then 0 else tickS m s:=by unfold waitT;rw [hm]
 obtain ⟨wt,hwt2⟩:=jE (waitT s nth R);obtain ⟨it,hit⟩:=jE (isT R);rw [hR,hwt2,hit];have HR:=jh4 hRR (hwt2.symm.trans hwt) hit.symm (fun hm0:m≠0=>by have:=moodS_pos (s:=s) (nth:=nth) (by rw [hm];exact hm0);rw [hm] at this;exact this);rw [hm] at MD;have HN:=jh6 hcl hol hml hDE hSL hbll;clear a0 s0 o0 hs hv hok hqc hcl hol hml hDE hSL hbll hbl hR hm hRR hwt hwt2 hit;go_enter func10,ntmps10;go_wp2_with fail
 (try rw [hW0])
 (try rw [hbx])
 refine MD.mono ?_;rintro e w1 ⟨rfl,c1,s1,o1⟩;have DC:=msgX_any o1 (bs:=bs) (by rw [HN.out.2.2.2.2.2];exact X.out.2.2.2.2.1) (kx:=kx) (by have:=X.out.2.2.1.kn s1;rw [←HN.out.2.2.2.2.2] at this;exact this);rw [HN.out.2.2.2.2.2] at DC;have X2:=jh5 (X.out.1.kn s1) (X.out.2.1.kn s1) (X.out.2.2.2.1.trans s1) True.intro X.out.2.2.2.2.2;clear MD X s1 o1 y0 y1 y2 y3 y4;go_wp2_with fail;refine DC.mono ?_;rintro e w2 ⟨M,k1,e0,e1,hml,hm1,hm0,rfl,hcase,c2,s2,o2⟩;obtain ⟨ZM,hZM,zM⟩:=zero_msg;obtain ⟨ZF,hZF,zF⟩:=zaV;obtain ⟨W3,W4,c4,hW3,hW4,am,af,o4,s4,t1,t2,t3,t4,t5,t6⟩:=stnew2 o2 hZM hml hm1 zaO hZF (B2:=[.int .i64 e0,.int .i64 e1]) rfl (by intro v hv;simp only [List.mem_cons,List.not_mem_nil,or_false] at hv;rcases hv with rfl | rfl <;> rfl) zaG (q:=q+1) (q2:=q+2) (jz q) (jz _);obtain ⟨mb,hmb⟩:=jE w2.heap.size;rw [hmb] at hW3 hW4 am af t1 t4;have s24:=s2.trans s4;have X3:=jh10 (X2.out.1.kn s24) (X2.out.2.1.kn s24) (X2.out.2.2.1.trans s24) X2.out.2.2.2.1 X2.out.2.2.2.2 am af o4 hcase hm0;have yk:=am.get hm0;have yf0:=af.get (i:=0) rfl;have yf1:=af.get (i:=1) rfl;have TT:=jh10 t1 t2 t3 t4 t5 t6 zM zF hW3 hW4;clear DC X2 s2 o2 hml hm1 hm0 hZM hZF zM zF hW3 hW4 am af o4 s4 t1 t2 t3 t4 t5 t6 s24 hcase
 have HNO:=jh1 (show (m=0∨decA bs=none)→R=[]∧wt=0∧it=false from fun hb=>by
  have h1:R=[]:=by
   have:=HR.out.1;by_cases hm:m=0
   ·rw [if_pos hm] at this;exact this
   ·rw [if_neg hm] at this
    rcases hb with hb | hb
    ·exact absurd hb hm
    ·rw [hb] at this;exact this
  refine ⟨h1,?_,?_⟩
  ·rw [HR.out.2.1,if_pos h1]
  ·rw [HR.out.2.2.1,h1];rfl)
 by_cases hm:m=0
 ·have F:=jh1 (HNO.out (.inl hm))
  clear HNO;subst hm;go_wp2_with (first | (refine zaa rfl (some 10) rfl 72 rfl TT.out.2.2.2.2.2.2.1 ?_;rw [hmb]) | (refine zaa rfl (some 11) rfl 74 rfl TT.out.2.2.2.2.2.2.2.1 ?_;rw [World.size_alloc,hmb]) | (refine wpList_store_mid rfl 72 _ _ rfl mb 0 M.toArray rfl rfl TT.out.1 TT.out.2.1 TT.out.2.2.1 ?_;rw [TT.out.2.2.2.2.2.2.2.2.1]) | (refine wpList_store_mid rfl 74 _ _ rfl (mb+1) 0 _ rfl rfl TT.out.2.2.2.1 TT.out.2.2.2.2.1 TT.out.2.2.2.2.2.1 ?_;rw [TT.out.2.2.2.2.2.2.2.2.2]));go_ret3;rw [F.out.1,F.out.2.1,F.out.2.2];exact ⟨_,rfl,c4,Sl.nil _ _ _ _ _,X3.out.2.2.1,X3.out.2.2.2.2.2.2.2.1⟩
 have hmb0:(m==0)=false:=by simpa using hm
 by_cases he0:e0=0
 ·by_cases he1:e1=0
  ·by_cases hk1:k1=1
   ·clear HNO
    subst he0 he1 hk1
    obtain ⟨id,h,hdA,_,_,_,hMe⟩:∃i h:Nat,decA bs=some (i,h)∧True∧True∧True∧M=msgA 1 i h:=by
     rcases X3.out.2.2.2.2.2.2.2.2.1 with ⟨i,h,h1,_,_,_,h2⟩ | h
     ·exact ⟨i,h,h1,trivial,trivial,trivial,h2⟩
     ·exact absurd ⟨rfl,rfl,rfl⟩ h.2
    obtain ⟨hck,hm1,hm9⟩:=HR.out.2.2.2 hm;obtain ⟨hid,hh⟩:=decA_ok hdA;have hO:R=outS m s h id:=by have:=HR.out.1;rw [if_neg hm,hdA] at this;exact this
    have z1:W4.cell? ⟨mb,1,none⟩=some (.int .i64 id):=by have:=X3.out.2.2.2.2.2.1;rw [hMe] at this;exact this.get (i:=1) rfl
    have z2:W4.cell? ⟨mb,2,none⟩=some (.int .i64 h):=by have:=X3.out.2.2.2.2.2.1;rw [hMe] at this;exact this.get (i:=2) rfl
    have y0:=X3.out.2.1.get (i:=0) rfl;have y1:=X3.out.2.1.get (i:=1) rfl;have y2:=X3.out.2.1.get (i:=2) rfl;have y3:=X3.out.2.1.get (i:=3) rfl;have y4:=X3.out.2.1.get (i:=4) rfl;obtain ⟨ad,od,sd⟩:=zan X3.out.2.2.2.2.2.2.2.1 [.slice vca cl vcc,.slice voa ol voc,.slice vma ml vmc,.int .i64 DE,.int .i64 SL,.int .i64 id,.int .i64 h,.int .i64 DE] 79 q;obtain ⟨db,hdb⟩:=jE W4.heap.size;obtain ⟨W5,hW5⟩:=jE (W4.alloc (.cells #[.slice vca cl vcc,.slice voa ol voc,.slice vma ml vmc,.int .i64 DE,.int .i64 SL,.int .i64 id,.int .i64 h,.int .i64 DE] 79));rw [hdb] at ad od sd;rw [hW5] at ad od sd;have WY:=ways_any od db;have hHR:=jh6 hO hck hid hh hm1 hm9;have X5:=jh4 ad (X3.out.1.kn sd) (X3.out.2.2.1.trans sd) X3.out.2.2.2.2.1;have hix:∀W,(Instr.index 81 (.agg (waysC db).toArray) (.int .i64 m)).run prog W=.ok (.func (.func (fnW m)) #[.pointer (some ⟨db,0,none⟩)] #[]) W:=fun W=>index_ways hm1 hm9 db W;have hen:=fun args W=>fnW_enters hm1 hm9 args W;obtain ⟨f,hf⟩:=jE (fnW m);rw [hf] at hix hen;have HF:=jh1 hf;clear hdA hck hm1 hm9 hMe hid hh hO ad od sd X3 hf;go_wp2_with (first | (refine zaa rfl (some 10) rfl 72 rfl TT.out.2.2.2.2.2.2.1 ?_;rw [hmb]) | (refine zaa rfl (some 11) rfl 74 rfl TT.out.2.2.2.2.2.2.2.1 ?_;rw [World.size_alloc,hmb]) | (refine wpList_store_mid rfl 72 _ _ rfl mb 0 M.toArray rfl rfl TT.out.1 TT.out.2.1 TT.out.2.2.1 ?_;rw [TT.out.2.2.2.2.2.2.2.2.1]) | (refine wpList_store_mid rfl 74 _ _ rfl (mb+1) 0 _ rfl rfl TT.out.2.2.2.1 TT.out.2.2.2.2.1 TT.out.2.2.2.2.2.1 ?_;rw [TT.out.2.2.2.2.2.2.2.2.2]))
    (try rw [hdb])
    (try rw [hW5])
    refine WY.mono ?_;rintro e w6 ⟨rfl,c6,s6,o6⟩;obtain ⟨hO,hck,hid,hh,hm1,hm9⟩:=hHR.out
    have ad6:At c6 w6 db q (deskC s (.slice vca cl vcc) (.slice voa ol voc) (.slice vma ml vmc) id h s.delay):=by
     have:=X5.out.1.kn s6;unfold deskC;rw [HN.out.2.2.2.1,HN.out.2.2.2.2.1];exact this
    have WA:=way_any o6 (show ¬k=q by omega) hq0 (X5.out.2.1.kn s6) hid hh ad6 hck hm1 hm9 ky;rw [HF.out] at WA;obtain ⟨L,hL⟩:=jE (outS m s h id);rw [hL] at WA hO;obtain ⟨tk,htk⟩:=jE (tickS m s);rw [htk] at WA;have X6:=jh4 hO (X5.out.2.2.1.trans s6) X5.out.2.2.2 htk;clear WY s6 o6 hO hck hid hh hm1 hm9 ad6 hL htk X5;go_wp2_with fail;refine WA.mono ?_;rintro e w7 ⟨x,rfl,c7,sl7,a7,s7,o7⟩;obtain ⟨xa,xn,rfl,_⟩:=sl7.form;have hqc:=X6.out.2.2.1;have sAll:Step No c w c7 w7:=((X6.out.2.1.ofNo (K:=One q)).trans s7).drop fun b _ (e:c b=q)=>by have:=hqc b;omega
    have y7:=a7.get (i:=7) rfl;have KK:(fun W:World=>W.cell? ⟨db,7,none⟩=some (.int .i64 tk)) w7.drew:=(a7.kn (Step.rf.drewN (K:=No) 1)).get (i:=7) rfl;have X7:=jh5 sl7 sAll o7 X6.out.1 X6.out.2.2.2;clear WA s7 o7 a7 sl7 sAll hqc X6 hix hen;by_cases hl:L=[]
    ·have F:=jh1 (show R=[]∧wt=0∧it=false by
      have h1:R=[]:=by rw [X7.out.2.2.2.1,hl]
      exact ⟨h1,by rw [HR.out.2.1,if_pos h1],by rw [HR.out.2.2.1,h1];rfl⟩)
     subst hl;go_wp2;go_ret3;rw [F.out.1,F.out.2.1,F.out.2.2];exact ⟨_,rfl,c7,Sl.nil _ _ _ _ _,X7.out.2.1,X7.out.2.2.1⟩
    ·have F:=jh1 (show R=L∧wt=tk∧it=true by
      have h1:R=L:=X7.out.2.2.2.1;have h2:R≠[]:=by rw [h1];exact hl
      exact ⟨h1,by rw [HR.out.2.1,if_neg h2];exact X7.out.2.2.2.2,by rw [HR.out.2.2.1];unfold isT;rw [if_neg h2]⟩)
     have hn0:((L.length:Int)==0)=false:=by
      have:L.length≠0:=fun h=>hl (List.eq_nil_of_length_eq_zero h);simpa using this
     have hn1:L.length≠0:=fun h=>hl (List.eq_nil_of_length_eq_zero h);clear hl;go_wp2_with fail;refine zac (fun W=>W.cell? ⟨db,7,none⟩=some (.int .i64 tk)) (fun _=>true) (by kernel_rfl) ?_;refine tk1 0 _ 49 rfl rfl KK ?_;refine tk1 1 _ 50 rfl rfl KK ?_;refine tk1 2 _ 51 rfl rfl KK ?_;refine tk1 3 _ 52 rfl rfl KK ?_;refine tk1 4 _ 53 rfl rfl KK ?_;refine zab.one (i:=5) (by kernel_rfl) rfl (fun KQ hK=>?_);go_simp;refine hK.out _ _ (fun _=>KK) ?_;clear hK KQ
     (try simp only [jS])
     refine zab.one (i:=6) (by kernel_rfl) rfl (fun KQ hK=>?_);go_simp;refine hK.out _ _ (fun _=>KK) ?_;clear hK KQ
     (try simp only [jS])
     refine zab.one (i:=7) (by kernel_rfl) rfl (fun KQ hK=>?_);go_simp;refine hK.out _ _ (fun _=>KK) ?_;clear hK KQ
     (try simp only [jS])
     refine zab.done (by kernel_rfl) ?_ _;go_wp2;go_ret3;rw [F.out.1,F.out.2.1,F.out.2.2];exact ⟨_,rfl,c7,X7.out.1.kn (Step.rf.drewN 1),X7.out.2.1.drewN 1,X7.out.2.2.1.drewN 1⟩
   ·have F:=jh1 (HNO.out (.inr (by rcases X3.out.2.2.2.2.2.2.2.2.1 with ⟨_,_,_,h,_⟩ | h;exact absurd h hk1;exact h.1)))
    clear HNO;subst he0 he1;have hkb:(k1 != 1)=true:=by simpa using hk1
    go_wp2_with (first | (refine zaa rfl (some 10) rfl 72 rfl TT.out.2.2.2.2.2.2.1 ?_;rw [hmb]) | (refine zaa rfl (some 11) rfl 74 rfl TT.out.2.2.2.2.2.2.2.1 ?_;rw [World.size_alloc,hmb]) | (refine wpList_store_mid rfl 72 _ _ rfl mb 0 M.toArray rfl rfl TT.out.1 TT.out.2.1 TT.out.2.2.1 ?_;rw [TT.out.2.2.2.2.2.2.2.2.1]) | (refine wpList_store_mid rfl 74 _ _ rfl (mb+1) 0 _ rfl rfl TT.out.2.2.2.1 TT.out.2.2.2.2.1 TT.out.2.2.2.2.2.1 ?_;rw [TT.out.2.2.2.2.2.2.2.2.2]));go_ret3;rw [F.out.1,F.out.2.1,F.out.2.2];exact ⟨_,rfl,c4,Sl.nil _ _ _ _ _,X3.out.2.2.1,X3.out.2.2.2.2.2.2.2.1⟩
  ·have F:=jh1 (HNO.out (.inr (by rcases X3.out.2.2.2.2.2.2.2.2.1 with ⟨_,_,_,_,_,h,_⟩ | h;exact absurd h he1;exact h.1)))
   clear HNO;subst he0;have heb:(e1==0)=false:=by simpa using he1
   go_wp2_with (first | (refine zaa rfl (some 10) rfl 72 rfl TT.out.2.2.2.2.2.2.1 ?_;rw [hmb]) | (refine zaa rfl (some 11) rfl 74 rfl TT.out.2.2.2.2.2.2.2.1 ?_;rw [World.size_alloc,hmb]) | (refine wpList_store_mid rfl 72 _ _ rfl mb 0 M.toArray rfl rfl TT.out.1 TT.out.2.1 TT.out.2.2.1 ?_;rw [TT.out.2.2.2.2.2.2.2.2.1]) | (refine wpList_store_mid rfl 74 _ _ rfl (mb+1) 0 _ rfl rfl TT.out.2.2.2.1 TT.out.2.2.2.2.1 TT.out.2.2.2.2.2.1 ?_;rw [TT.out.2.2.2.2.2.2.2.2.2]));go_ret3;rw [F.out.1,F.out.2.1,F.out.2.2];exact ⟨_,rfl,c4,Sl.nil _ _ _ _ _,X3.out.2.2.1,X3.out.2.2.2.2.2.2.2.1⟩
 ·have F:=jh1 (HNO.out (.inr (by rcases X3.out.2.2.2.2.2.2.2.2.1 with ⟨_,_,_,_,h,_⟩ | h;exact absurd h he0;exact h.1)))
  clear HNO;have heb:(e0==0)=false:=by simpa using he0
  go_wp2_with (first | (refine zaa rfl (some 10) rfl 72 rfl TT.out.2.2.2.2.2.2.1 ?_;rw [hmb]) | (refine zaa rfl (some 11) rfl 74 rfl TT.out.2.2.2.2.2.2.2.1 ?_;rw [World.size_alloc,hmb]) | (refine wpList_store_mid rfl 72 _ _ rfl mb 0 M.toArray rfl rfl TT.out.1 TT.out.2.1 TT.out.2.2.1 ?_;rw [TT.out.2.2.2.2.2.2.2.2.1]) | (refine wpList_store_mid rfl 74 _ _ rfl (mb+1) 0 _ rfl rfl TT.out.2.2.2.1 TT.out.2.2.2.2.1 TT.out.2.2.2.2.2.1 ?_;rw [TT.out.2.2.2.2.2.2.2.2.2]));go_ret3;rw [F.out.1,F.out.2.1,F.out.2.2];exact ⟨_,rfl,c4,Sl.nil _ _ _ _ _,X3.out.2.2.1,X3.out.2.2.2.2.2.2.2.1⟩
end
structure IsR4 (c:Col) (k:Nat) (w:World) (p:Nat) (bs:List UInt8) (a:Nat) (f:Int×Int):Prop where
 row:∃g cap,At c w p k [.slice (some ⟨g,0,none⟩) bs.length cap,.int .i64 a,.int .i64 f.1,.int .i64 f.2]∧Own zag 5 c 0 0 w (.slice (some ⟨g,0,none⟩) bs.length cap) bs∧bs.length≤cap
 le:a≤bs.length
 few:bs.length≤1000000000
theorem IsR4.keep {K:Nat→Prop}{c c':Col}{k:Nat}{w w':World}{p:Nat}{bs:List UInt8}{a:Nat}{f:Int×Int}(h:IsR4 c k w p bs a f) (hs:Step K c w c' w') (hk:¬K k) (h0:¬K 0):IsR4 c' k w' p bs a f:=by
 obtain ⟨g,cap,x,o,l⟩:=h.row;exact ⟨⟨g,cap,x.keep hs hk,o.keep hs h0 h0,l⟩,h.le,h.few⟩
theorem IsR4.kn {c c':Col}{k:Nat}{w w':World}{p:Nat}{bs:List UInt8}{a:Nat}{f:Int×Int}(h:IsR4 c k w p bs a f) (hs:Step No c w c' w'):IsR4 c' k w' p bs a f:=h.keep hs jI jI
theorem IsR4.lt {c:Col}{k:Nat}{w:World}{p:Nat}{bs:List UInt8}{a:Nat}{f:Int×Int}(h:IsR4 c k w p bs a f):p<w.heap.size:=by obtain ⟨_,_,x,_⟩:=h.row;exact x.lt
theorem IsR4.col {c:Col}{k:Nat}{w:World}{p:Nat}{bs:List UInt8}{a:Nat}{f:Int×Int}(h:IsR4 c k w p bs a f):c p=k:=by obtain ⟨_,_,x,_⟩:=h.row;exact x.col
theorem IsR4.move {c:Col}{k:Nat}{w:World}{p:Nat}{bs:List UInt8}{a:Nat}{f:Int×Int}(h:IsR4 c k w p bs a f) (hk:k≠0) {a':Nat}(hl:a'≤bs.length) :
  IsR4 c k (w.setCell ⟨p,1,none⟩ (.int .i64 a')) p bs a' f:=by
 obtain ⟨g,cap,x,o,l⟩:=h.row;have hc:c p=k:=x.col;exact ⟨⟨g,cap,x.setN (i:=1) (by simp) (.int .i64 a'),o.set (a:=⟨p,1,none⟩) (by show c p≠0;omega) (by show c p≠0;omega) _,l⟩,hl,h.few⟩
def failF (f:Int×Int) (e x:Int):Int×Int:=if f.1=0 then (e,x) else f
def zbv (bs:List UInt8) (a:Nat) (f:Int×Int) (n:Nat) (x:Int):List UInt8×Nat×(Int×Int):=
 if f.1≠0 then ([],a,f) else if bs.length<a+n then ([],a,(6,x)) else ((bs.drop a).take n,a+n,f)
theorem app0_form {e:TypeId}{c:Col}{k k2:Nat}{w:World}{v:Value}{l:List UInt8}{x:Addr}(h:Own zag e c k k2 w v ([]++l)) (h4:v=.slice none 0 0↔(Value.slice (some x) 0 0=.slice none 0 0∧l=[])):∃g cap,v=.slice (some ⟨g,0,none⟩) l.length cap∧l.length≤cap:=by
 rcases h.form2 with ⟨rfl,_⟩ | ⟨g,cap,h1,h2⟩
 ·exact absurd (h4.1 rfl).1 (by intro h;cases h)
 ·exact ⟨g,cap,h1,h2⟩
section
variable {c:Col}{w:World}
theorem newReader4 (hok:Ok c w) {kx:Nat}{v:Value}{bs:List UInt8}(hv:Sl zag c kx 0 w v bs) (hl:bs.length≤1000000000) (k:Nat) :
  Calls prog 69 #[v] w fun r w'=>∃p,r=.returned (.pointer (some ⟨p,0,none⟩))∧∃c',IsR4 c' k w' p bs 0 (0,0)∧Step No c w c' w'∧Ok c' w'∧w.heap.size≤p:=by
 obtain ⟨va,vc,rfl,hva⟩:=hv.form;obtain ⟨q,hq,hqc⟩:=hok.spare 0;have hqk:0≠q:=by omega
 have hq0:q≠0:=by omega
 obtain ⟨o1,o2,o3⟩:=Own.new0 zag 5 hok q 0;have hx':=hv.kn o3;have hml:([]:List UInt8).length+bs.length≤maxLen:=by simp [maxLen];omega
 have hbl:(([]:List UInt8).length+bs.length)*1≤140737488355328:=by simp;omega
 clear hv hva;go_enter func69,ntmps69;go_wp2_with (at_builtin;refine zaq zag o2 rfl _ _ 26 rfl 5 underlying26 zbp rfl (by decide) rfl rfl o1 hx' hqk hml hbl ?_;intro v' w' c' a1 a2 a3 a4;obtain ⟨g,cap,rfl,hcap⟩:=app0_form a1 a4;have HX:=jh4 a1 a2 a3 hcap;clear a1 a2 a3 a4 hcap);go_ret;obtain ⟨a1,a2,a3,hcap⟩:=HX.out;have b1:Own zag 5 (c'.turn q 0) 0 0 w' _ _:=a1.turn hqk;have b2:Step No c w (c'.turn q 0) w':=((o3.ofNo.trans a2).turn rfl).own hqc;have b3:Ok (c'.turn q 0) w':=a3.turn hq0;obtain ⟨d1,d2,d3⟩:=zan b3 [.slice (some ⟨g,0,none⟩) bs.length cap,.int .i64 0,.int .i64 0,.int .i64 0] 126 k;exact ⟨_,rfl,_,⟨⟨g,cap,d1,b1.kn d3,hcap⟩,Nat.zero_le _,hl⟩,b2.trans d3,d2,b2.size⟩
theorem fails4 (hok:Ok c w) {k p:Nat}{bs:List UInt8}{a:Nat}{f:Int×Int}(h:IsR4 c k w p bs a f) (hk0:k≠0) (e x:Int) :
  Calls prog 71 #[.pointer (some ⟨p,0,none⟩),.int .i64 e,.int .i64 x] w fun r w'=>r=.returned (.tuple #[])∧IsR4 c k w' p bs a (failF f e x)∧Step (One k) c w c w'∧Ok c w':=by
 obtain ⟨g,cap,ar,ow,hl⟩:=h.row;have hle:=h.le;have hfew:=h.few;have y2:=ar.get (i:=2) rfl;have y3:=ar.get (i:=3) rfl;have y2f:=ar.fz hok hk0 2;have y3f:=ar.fz hok hk0 3;have hcp:c p=k:=ar.col;obtain ⟨f1,f2⟩:=f;have H:=jh5 hok ar ow hle hfew;have HC:=jh3 hcp hk0 hl;clear h hok ar ow hle hfew hcp;by_cases hf:f1=0
 ·subst hf
  go_enter func71,ntmps71;go_wp2_with fail
  first | go_end0 | refine bodyPost_ret (results_none rfl _ _ _) rfl ?_
  obtain ⟨hok,ar,ow,hle,hfew⟩:=H.out;obtain ⟨hcp,hk0,hl⟩:=HC.out;refine ⟨rfl,⟨⟨g,cap,(ar.setN (i:=2) (by simp) (.int .i64 e)).setN (i:=3) (by simp) (.int .i64 x),(ow.set (a:=⟨p,2,none⟩) (by show c p≠0;omega) (by show c p≠0;omega) _).set (a:=⟨p,3,none⟩) (by show c p≠0;omega) (by show c p≠0;omega) _,hl⟩,hle,hfew⟩,((Step.refl (K:=One k)).setCell (a:=⟨p,2,none⟩) (.inr hcp) _).setCell (a:=⟨p,3,none⟩) (.inr hcp) _,(hok.setCell _ _).setCell _ _⟩
 ·have hf1:(f1==0)=false:=beq_eq_false_iff_ne.2 hf
  have hF:=jh1 (show failF (f1,f2) e x=(f1,f2) by simp [failF,hf]);clear hf;go_enter func71,ntmps71;go_wp2_with fail
  first | go_end0 | refine bodyPost_ret (results_none rfl _ _ _) rfl ?_
  obtain ⟨hok,ar,ow,hle,hfew⟩:=H.out;rw [hF.out];exact ⟨rfl,⟨⟨g,cap,ar,ow,HC.out.2.2⟩,hle,hfew⟩,Step.refl,hok⟩
theorem take4_end {k q p:Nat}{bs l:List UInt8}{a n:Nat}{f:Int×Int}(hkq:¬k=q) (hqk:0≠q) (hqc:∀b,c b≠q) (hcp:c p=k) (hk0:k≠0) {c4:Col}{w4:World}{v:Value}(b1:Own zag 5 c4 q 0 w4 v ([]++l)) (st:Step No c w c4 w4) (b3:Ok c4 w4) (i4:IsR4 c4 k w4 p bs a f) (hn:a+n≤bs.length) :
  ∃c',Sl zag c' 0 0 (w4.setCell ⟨p,1,none⟩ (.int .i64 ((a:Int)+(n:Int)))) v l∧IsR4 c' k (w4.setCell ⟨p,1,none⟩ (.int .i64 ((a:Int)+(n:Int)))) p bs (a+n) f∧Step (One k) c w c' (w4.setCell ⟨p,1,none⟩ (.int .i64 ((a:Int)+(n:Int))))∧Ok c' (w4.setCell ⟨p,1,none⟩ (.int .i64 ((a:Int)+(n:Int)))):=by
 have i5:=i4.move hk0 (a':=a+n) hn;rw [Int.natCast_add] at i5;have hc4:=i4.col;have sA:Step (One k) c w c4 (w4.setCell ⟨p,1,none⟩ (.int .i64 ((a:Int)+(n:Int)))):=st.ofNo.setCell (a:=⟨p,1,none⟩) (.inr hcp) _;refine ⟨c4.turn q 0,((b1.set (a:=⟨p,1,none⟩) (by show c4 p≠q;omega) (by show c4 p≠0;omega) _).turn hqk).sl,i5.keep ((Step.refl (K:=One q)).turn (k:=0) rfl) hkq hqk,?_,(b3.setCell _ _).turn (fun e=>hqk e.symm)⟩;refine ((sA.mono (K':=Two k q) fun _ h=>.inl h).turn (q:=q) (k:=0) (.inr rfl)).drop fun b _ e=>?_
 rcases e with e | e
 ·exact e
 ·exact absurd e (hqc b)
theorem take4 (hok:Ok c w) {k p:Nat}{bs:List UInt8}{a:Nat}{f:Int×Int}(h:IsR4 c k w p bs a f) (hk0:k≠0) (n:Nat) (hn:n≤9223372036854775807) (at0:Int) :
  Calls prog 115 #[.pointer (some ⟨p,0,none⟩),.int .i64 n,.int .i64 at0] w fun r w'=>∃v,r=.returned v∧∃c',Sl zag c' 0 0 w' v (zbv bs a f n at0).1∧IsR4 c' k w' p bs (zbv bs a f n at0).2.1 (zbv bs a f n at0).2.2∧Step (One k) c w c' w'∧Ok c' w':=by
 obtain ⟨g,cap,ar,ow,hl⟩:=h.row;have hle:=h.le;have hfew:=h.few;have y0:=ar.get (i:=0) rfl;have y1:=ar.get (i:=1) rfl;have y2:=ar.get (i:=2) rfl;obtain ⟨f1,f2⟩:=f;by_cases hf:f1≠0
 ·have hfn:(f1 != 0)=true:=by simpa using hf
  have hT:=jh1 (show zbv bs a (f1,f2) n at0=([],a,(f1,f2)) by simp [zbv,hf]);have H:=jh2 h hok;clear h hok ar ow hf;go_enter func115,ntmps115;go_wp2;go_ret;rw [hT.out];exact ⟨_,rfl,c,Sl.nil _ _ _ _ _,H.out.1,Step.refl,H.out.2⟩
 obtain rfl:f1=0:=by omega
 clear hf;have hw:IntKind.i64.wrap ((bs.length:Int)-(a:Int))=(bs.length:Int)-(a:Int):=IntWalk.i64_in _ (by omega);have K1:(fun W=>W.cell? ⟨p,0,none⟩=some (.slice (some ⟨g,0,none⟩) bs.length cap)∧W.cell? ⟨p,1,none⟩=some (.int .i64 a)) w.drew:=⟨y0,y1⟩;by_cases hlong:bs.length<a+n
 ·have hd:decide ((bs.length:Int)-(a:Int)<(n:Int))=true:=by simp;omega
  have hT:=jh1 (show zbv bs a (0,f2) n at0=([],a,(6,at0)) by simp [zbv,hlong]);have F:=fails4 (w:=w.drew) (hok.drewN 1) (h.kn (Step.rf.drewN 1)) hk0 6 at0;clear h hok ar ow hlong;go_enter func115,ntmps115;go_wp2_with fail;refine zac (fun W=>W.cell? ⟨p,0,none⟩=some (.slice (some ⟨g,0,none⟩) bs.length cap)∧W.cell? ⟨p,1,none⟩=some (.int .i64 a)) (fun _=>true) (by kernel_rfl) ?_;refine tk2 0 _ 14 rfl rfl K1 ?_;refine tk2 1 _ 15 rfl rfl K1 ?_;refine tk2 2 _ 16 rfl rfl K1 ?_;refine tk2 3 _ 17 rfl rfl K1 ?_;refine tk2 4 _ 18 rfl rfl K1 ?_;refine tk2 5 _ 19 rfl rfl K1 ?_;refine tk2 6 _ 20 rfl rfl K1 ?_;refine tk2 7 _ 21 rfl rfl K1 ?_;refine tk2 8 _ 22 rfl rfl K1 ?_;refine tk2 9 _ 23 rfl rfl K1 ?_;refine tk2 10 _ 24 rfl rfl K1 ?_;refine tk2 11 (.bool true) 25 rfl rfl K1 ?_;refine zab.done (by kernel_rfl) ?_ _;go_wp2_with fail;refine F.mono ?_;rintro e w1 ⟨rfl,i1,s1,o1⟩;have H:=jh3 i1 s1 o1;clear F i1 s1 o1;go_wp2;go_ret;rw [hT.out];exact ⟨_,rfl,c,Sl.nil _ _ _ _ _,H.out.1,(Step.rf.drewN 1).ofNo.trans H.out.2.1,H.out.2.2⟩
 ·have hd:decide ((bs.length:Int)-(a:Int)<(n:Int))=false:=by simp;omega
  have hT:=jh1 (show zbv bs a (0,f2) n at0=((bs.drop a).take n,a+n,(0,f2)) by simp [zbv,hlong]);have hw2:IntKind.i64.wrap ((a:Int)+(n:Int))=(a:Int)+(n:Int):=IntWalk.i64_in _ (by omega);have hw3:IntKind.i64.wrap (a:Int)=(a:Int):=IntWalk.i64_in _ (by omega);have ht:((a:Int)+(n:Int)).toNat-a=n:=by omega
  have ha0:(0:Int)≤(a:Int):=by omega
  have ha1:(a:Int)≤(a:Int)+(n:Int):=by omega
  have ha2:(a:Int)+(n:Int)≤(cap:Int):=by omega
  obtain ⟨q,hq,hqc⟩:=hok.spare k;have hqk:0≠q:=by omega
  have hq0:q≠0:=by omega
  have hkq:¬k=q:=by omega
  have s1:Step No c w c (w.drewN 2):=Step.rf.drewN 2;obtain ⟨o1,o2,o3⟩:=Own.new0 zag 5 (hok.drewN 2) q 0;have ow2:=(ow.kn s1).kn o3;have h2:=(h.kn s1).kn o3;have hml:([]:List UInt8).length+((bs.drop a).take n).length≤maxLen:=by simp [maxLen];omega
  have hbl:(([]:List UInt8).length+((bs.drop a).take n).length)*1≤140737488355328:=by simp;omega
  have HP:=jh5 h.col hqc h2 (s1.trans o3) (show a+n≤bs.length by omega);have hln:((bs.drop a).take n).length=n:=by rw [List.length_take,List.length_drop];omega
  have KF:Hid (∀{c1:Col} {w1:World},Step No c w c1 w1→w1.cell? ⟨p,0,none⟩=some (.slice (some ⟨g,0,none⟩) bs.length cap)∧w1.cell? ⟨p,1,none⟩=some (.int .i64 a)):=jh1 fun s=>⟨(ar.keep s jI).get (i:=0) rfl,(ar.keep s jI).get (i:=1) rfl⟩;have K2:(fun W=>W.cell? ⟨p,0,none⟩=some (.slice (some ⟨g,0,none⟩) bs.length cap)∧W.cell? ⟨p,1,none⟩=some (.int .i64 a)) (w.drewN 2):=⟨y0,y1⟩;have K3:(fun W=>W.cell? ⟨p,0,none⟩=some (.slice (some ⟨g,0,none⟩) bs.length cap)∧W.cell? ⟨p,1,none⟩=some (.int .i64 a)) ((w.drewN 2).alloc (.cells #[] 5)):=KF.out (s1.trans o3)
  obtain ⟨va,hsv,SL⟩:∃va,va=(if cap=a then some ⟨g,0,none⟩ else some ⟨g,a,none⟩)∧Sl zag (c.put (w.drewN 2).heap.size q) 0 0 ((w.drewN 2).alloc (.cells #[] 5)) (.slice va n (cap-a)) ((bs.drop a).take n):=by
   refine ⟨_,rfl,?_⟩;by_cases hca:cap=a
   ·rw [if_pos hca,show n=0 by omega,show cap-a=0 by omega]
    exact .inl ⟨by simp,_,_,rfl,Nat.zero_le _,fun _=>rfl⟩
   ·rw [if_neg hca]
    have:=ow2.sl.sub a n (by omega);rwa [Nat.zero_add] at this
  by_cases hca:cap=a
  ·have hca1:(cap=a)=True:=eq_true hca
   have hva:cap-a=0:=by omega
   rw [if_pos hca] at hsv;subst hsv;rw [hva] at SL;clear hca h hok ar hlong hqc;go_enter func115,ntmps115;go_wp2_with fail;refine zac (fun W=>W.cell? ⟨p,0,none⟩=some (.slice (some ⟨g,0,none⟩) bs.length cap)∧W.cell? ⟨p,1,none⟩=some (.int .i64 a)) (fun _=>true) (by kernel_rfl) ?_;refine tk2 0 _ 14 rfl rfl K1 ?_;refine tk2 1 _ 15 rfl rfl K1 ?_;refine tk2 2 _ 16 rfl rfl K1 ?_;refine tk2 3 _ 17 rfl rfl K1 ?_;refine tk2 4 _ 18 rfl rfl K1 ?_;refine tk2 5 _ 19 rfl rfl K1 ?_;refine tk2 6 _ 20 rfl rfl K1 ?_;refine tk2 7 _ 21 rfl rfl K1 ?_;refine tk2 8 _ 22 rfl rfl K1 ?_;refine tk2 9 _ 23 rfl rfl K1 ?_;refine tk2 10 _ 24 rfl rfl K1 ?_;refine tk2 11 (.bool false) 25 rfl rfl K1 ?_;refine zab.done (by kernel_rfl) ?_ _;go_wp2_with fail;refine zac (fun W=>W.cell? ⟨p,0,none⟩=some (.slice (some ⟨g,0,none⟩) bs.length cap)∧W.cell? ⟨p,1,none⟩=some (.int .i64 a)) (fun _=>true) (by kernel_rfl) ?_;refine tk2 1 _ 30 rfl rfl K2 ?_;refine tk2 2 _ 31 rfl rfl K2 ?_;refine tk2 3 _ 32 rfl rfl K2 ?_;refine tk2 4 _ 33 rfl rfl K2 ?_;refine tk2 5 _ 34 rfl rfl K2 ?_;refine tk2 6 _ 35 rfl rfl K2 ?_;refine tk2 7 _ 36 rfl rfl K2 ?_;refine tk2 8 _ 37 rfl rfl K2 ?_;refine tk2 9 _ 38 rfl rfl K2 ?_;refine tk2 10 _ 39 rfl rfl K2 ?_;refine tk2 11 _ 40 rfl rfl K2 ?_;refine tk2 12 _ 41 rfl rfl K2 ?_;refine tk2 13 _ 42 rfl rfl K2 ?_;refine tk2 14 _ 43 rfl rfl K2 ?_;refine tk2 15 (.slice (some ⟨g,0,none⟩) n 0) 44 rfl rfl K2 ?_;refine zab.one (i:=0) (by kernel_rfl) rfl (fun KQ hK=>?_);go_simp;refine hK.out _ _ (fun _=>K3) ?_;clear hK KQ
   (try simp only [jS])
   refine zab.one (i:=16) (by kernel_rfl) rfl (fun KQ hK=>?_);refine step_app zag o2 rfl _ _ 26 rfl 5 underlying26 zbp rfl (by decide) rfl rfl o1 SL hqk hml hbl ?_;rintro v4 w4 c4 b1 b2 b3 -;have st:Step No c w c4 w4:=(HP.out.2.2.2.1.ofNo.trans b2).own HP.out.2.1;have i4:=HP.out.2.2.1.keep b2 hkq hqk;have K4:(fun W=>W.cell? ⟨p,0,none⟩=some (.slice (some ⟨g,0,none⟩) bs.length cap)∧W.cell? ⟨p,1,none⟩=some (.int .i64 a)) w4:=KF.out st;have z1:=K4.2;obtain ⟨bz,bcp,rfl,_⟩:=b1.sl.form;rw [show (([]:List UInt8)++(bs.drop a).take n).length=n from hln] at b1
   (try rw [show (([]:List UInt8)++(bs.drop a).take n).length=n from hln])
   have zf:w4.frozen? ⟨p,1,none⟩=false:=b3.soft p 1 (by rw [i4.col];exact hk0);have B:=jh4 b1 st b3 i4;clear b1 b2 b3 st i4 SL o1 o2 o3;refine hK.out _ _ (fun _=>K4) ?_;clear hK KQ
   (try simp only [jS])
   refine zab.one (i:=17) (by kernel_rfl) rfl (fun KQ hK=>?_);go_simp;refine hK.out _ _ (fun _=>K4) ?_;clear hK KQ
   (try simp only [jS])
   refine zab.done (by kernel_rfl) ?_ _;go_wp2;go_ret;obtain ⟨b1,st,b3,i4⟩:=B.out;rw [hT.out];exact ⟨_,rfl,take4_end hkq hqk HP.out.2.1 HP.out.1 hk0 b1 st b3 i4 HP.out.2.2.2.2⟩
  ·rw [if_neg hca] at hsv
   subst hsv;clear h hok ar hlong hqc;go_enter func115,ntmps115;go_wp2_with fail;refine zac (fun W=>W.cell? ⟨p,0,none⟩=some (.slice (some ⟨g,0,none⟩) bs.length cap)∧W.cell? ⟨p,1,none⟩=some (.int .i64 a)) (fun _=>true) (by kernel_rfl) ?_;refine tk2 0 _ 14 rfl rfl K1 ?_;refine tk2 1 _ 15 rfl rfl K1 ?_;refine tk2 2 _ 16 rfl rfl K1 ?_;refine tk2 3 _ 17 rfl rfl K1 ?_;refine tk2 4 _ 18 rfl rfl K1 ?_;refine tk2 5 _ 19 rfl rfl K1 ?_;refine tk2 6 _ 20 rfl rfl K1 ?_;refine tk2 7 _ 21 rfl rfl K1 ?_;refine tk2 8 _ 22 rfl rfl K1 ?_;refine tk2 9 _ 23 rfl rfl K1 ?_;refine tk2 10 _ 24 rfl rfl K1 ?_;refine tk2 11 (.bool false) 25 rfl rfl K1 ?_;refine zab.done (by kernel_rfl) ?_ _;go_wp2_with fail;refine zac (fun W=>W.cell? ⟨p,0,none⟩=some (.slice (some ⟨g,0,none⟩) bs.length cap)∧W.cell? ⟨p,1,none⟩=some (.int .i64 a)) (fun _=>true) (by kernel_rfl) ?_;refine tk2 1 _ 30 rfl rfl K2 ?_;refine tk2 2 _ 31 rfl rfl K2 ?_;refine tk2 3 _ 32 rfl rfl K2 ?_;refine tk2 4 _ 33 rfl rfl K2 ?_;refine tk2 5 _ 34 rfl rfl K2 ?_;refine tk2 6 _ 35 rfl rfl K2 ?_;refine tk2 7 _ 36 rfl rfl K2 ?_;refine tk2 8 _ 37 rfl rfl K2 ?_;refine tk2 9 _ 38 rfl rfl K2 ?_;refine tk2 10 _ 39 rfl rfl K2 ?_;refine tk2 11 _ 40 rfl rfl K2 ?_;refine tk2 12 _ 41 rfl rfl K2 ?_;refine tk2 13 _ 42 rfl rfl K2 ?_;refine tk2 14 _ 43 rfl rfl K2 ?_;refine tk2 15 (.slice (some ⟨g,a,none⟩) n (cap-a)) 44 rfl rfl K2 ?_;refine zab.one (i:=0) (by kernel_rfl) rfl (fun KQ hK=>?_);go_simp;refine hK.out _ _ (fun _=>K3) ?_;clear hK KQ
   (try simp only [jS])
   refine zab.one (i:=16) (by kernel_rfl) rfl (fun KQ hK=>?_);refine step_app zag o2 rfl _ _ 26 rfl 5 underlying26 zbp rfl (by decide) rfl rfl o1 SL hqk hml hbl ?_;rintro v4 w4 c4 b1 b2 b3 -;have st:Step No c w c4 w4:=(HP.out.2.2.2.1.ofNo.trans b2).own HP.out.2.1;have i4:=HP.out.2.2.1.keep b2 hkq hqk;have K4:(fun W=>W.cell? ⟨p,0,none⟩=some (.slice (some ⟨g,0,none⟩) bs.length cap)∧W.cell? ⟨p,1,none⟩=some (.int .i64 a)) w4:=KF.out st;have z1:=K4.2;obtain ⟨bz,bcp,rfl,_⟩:=b1.sl.form;rw [show (([]:List UInt8)++(bs.drop a).take n).length=n from hln] at b1
   (try rw [show (([]:List UInt8)++(bs.drop a).take n).length=n from hln])
   have zf:w4.frozen? ⟨p,1,none⟩=false:=b3.soft p 1 (by rw [i4.col];exact hk0);have B:=jh4 b1 st b3 i4;clear b1 b2 b3 st i4 SL o1 o2 o3;refine hK.out _ _ (fun _=>K4) ?_;clear hK KQ
   (try simp only [jS])
   refine zab.one (i:=17) (by kernel_rfl) rfl (fun KQ hK=>?_);go_simp;refine hK.out _ _ (fun _=>K4) ?_;clear hK KQ
   (try simp only [jS])
   refine zab.done (by kernel_rfl) ?_ _;go_wp2;go_ret;obtain ⟨b1,st,b3,i4⟩:=B.out;rw [hT.out];exact ⟨_,rfl,take4_end hkq hqk HP.out.2.1 HP.out.1 hk0 b1 st b3 i4 HP.out.2.2.2.2⟩
end
