/- ServerReplies, part 41: lemmas, each with its own conditions. -/
import Derived.Test.YtgcobbapaaihiaaGreatSz40
set_option linter.all false
set_option maxHeartbeats 12800000
set_option maxRecDepth 100000
open Go.Proofs.Tryz
namespace Go.Proofs.YtgcobbapaaihiaaGreat
open Go.RowKit
def IsW4 (c:Col) (k:Nat) (w:World) (p:Nat) (lim:Int) (s:List UInt8×Int):Prop:=
 ∃bv,At c w p k [.int .i64 lim,bv,.int .i64 s.2]∧Sl zag c 0 0 w bv s.1
theorem IsW4.keep {K:Nat→Prop}{c c':Col}{k:Nat}{w w':World}{p:Nat}{lim:Int}{s:List UInt8×Int}(h:IsW4 c k w p lim s) (hs:Step K c w c' w') (hk:¬K k) (h0:¬K 0):IsW4 c' k w' p lim s:=by
 obtain ⟨bv,a,o⟩:=h;exact ⟨bv,a.keep hs hk,o.keep hs h0 h0⟩
theorem IsW4.kn {c c':Col}{k:Nat}{w w':World}{p:Nat}{lim:Int}{s:List UInt8×Int}(h:IsW4 c k w p lim s) (hs:Step No c w c' w'):IsW4 c' k w' p lim s:=h.keep hs jI jI
section
variable {c:Col}{w:World}
theorem newWriter04 (hok:Ok c w) (lim:Int) (h0:0≤lim) (h1:lim≤1048576) (k:Nat) :
  Calls prog 79 #[.int .i64 lim] w fun r w'=>r=.returned (.tuple #[.pointer (some ⟨w.heap.size,0,none⟩),.int .i64 0]) ∧
   ∃c',IsW4 c' k w' w.heap.size lim ([],0)∧Step No c w c' w'∧Ok c' w':=by
 obtain ⟨a1,o1,s1⟩:=zan hok [.int .i64 lim,.slice none 0 0,.int .i64 0] 187 k;have H:=jh3 a1 o1 s1;clear a1 o1 s1 hok;go_enter func79,ntmps79;go_wp2;go_ret2;obtain ⟨a1,o1,s1⟩:=H.out;exact ⟨rfl,_,⟨_,a1,Sl.nil _ _ _ _ _⟩,s1,o1⟩
def PutQ (c:Col) (w:World) (k p:Nat) (lim:Int) (s:List UInt8×Int) (x:List UInt8) (r:Ending) (w':World):Prop:=
 r=.returned (.int .i64 (putS lim s true x).2)∧∃c',IsW4 c' k w' p lim (putS lim s true x)∧Step (One k) c w c' w'∧Ok c' w'
theorem PutQ.after {c1:Col}{w1:World}{k p:Nat}{lim:Int}{s:List UInt8×Int}{x:List UInt8}{r:Ending}{w':World}(h:PutQ c1 w1 k p lim s x r w') (hs:Step No c w c1 w1):PutQ c w k p lim s x r w':=by
 obtain ⟨e,c',i,s',o⟩:=h;exact ⟨e,c',i,hs.ofNo.trans s',o⟩
theorem put04 (hok:Ok c w) {k p:Nat}{lim:Int}{s:List UInt8×Int}(h:IsW4 c k w p lim s) (hk0:k≠0) (hlim:lim≤1048576) (hl0:(s.1.length:Int)≤lim)
  {kx:Nat} {v:Value} {x:List UInt8} (hv:Sl zag c kx 0 w v x) (hx:x.length≤1000000000) :
  Calls prog 123 #[.pointer (some ⟨p,0,none⟩),v] w (PutQ c w k p lim s x):=by
 obtain ⟨bs,e⟩:=s;obtain ⟨bv,a1,sb⟩:=h;obtain ⟨ba,bc,rfl,_⟩:=sb.form;obtain ⟨va,vc,rfl,_⟩:=hv.form;have hl0:(bs.length:Int)≤lim:=hl0;have y0:=a1.get (i:=0) rfl;have y1:=a1.get (i:=1) rfl;have y2:=a1.get (i:=2) rfl;have y2f:=a1.fz hok hk0 2;have hcp:c p=k:=a1.col;have sb:Sl zag c 0 0 w (.slice ba bs.length bc) bs:=sb;have H:=jh4 a1 sb hok hcp;have hwl:IntKind.i64.wrap ((bs.length:Int)+x.length)=(bs.length:Int)+x.length:=IntWalk.i64_in _ (by omega);by_cases he:e=0
 ·subst he
  by_cases hlong:lim<(bs.length:Int)+x.length
  ·have HP:=jh1 (show putS lim (bs,0) true x=(bs,4) by simp [putS,hlong])
   clear hok a1 sb hcp hv;go_enter func123,ntmps123;go_wp2_with fail;go_quiet (fail);go_wp2;go_ret;unfold PutQ;rw [HP.out];obtain ⟨a1,sb,hok,hcp⟩:=H.out;refine ⟨rfl,c,⟨_,(a1.keep (Step.rf.drewN (K:=No) _) jI).setN (i:=2) (by simp) (.int .i64 4),(sb.kn (Step.rf.drewN _)).set (a:=⟨p,2,none⟩) (by show c p≠0;omega) (by show c p≠0;omega) _⟩,((Step.refl (K:=One k)).drewN _).setCell (a:=⟨p,2,none⟩) (.inr hcp) _,(hok.drewN _).setCell _ _⟩
  ·have HP:=jh1 (show putS lim (bs,0) true x=(bs++x,0) by simp [putS,hlong])
   obtain ⟨q,hq,hqc⟩:=hok.spare (k+kx);have hqk:0≠q:=by omega
   have hq0:q≠0:=by omega
   have hkq:¬k=q:=by omega
   have hxq:¬kx=q:=by omega
   have H2:=jh2 hqc hv;clear hok a1 sb hcp hv hqc;go_enter func123,ntmps123;go_wp2_with fail;go_quiet (fail);obtain ⟨a1,sb,hok,hcp⟩:=H.out;obtain ⟨o1,o2,o3⟩:=Own.new0 zag 5 (hok.drewN nq) q 0;have s13:Step No c w (c.put (w.drewN nq).heap.size q) ((w.drewN nq).alloc (.cells #[] 5)):=(Step.rf.drewN nq).trans o3;have hb1:=sb.kn s13;have z0:=(a1.keep s13 jI).get (i:=1) rfl;have hx1:=H2.out.2.kn s13;have hm1:([]:List UInt8).length+bs.length≤maxLen:=by simp [maxLen];omega
   have hm2:(([]:List UInt8).length+bs.length)*1≤140737488355328:=by simp;omega
   have hm3:([]++bs:List UInt8).length+x.length≤maxLen:=by simp [maxLen];omega
   have hm4:(([]++bs:List UInt8).length+x.length)*1≤140737488355328:=by simp;omega
   have A1:=jh4 (a1.keep s13 jI) hx1 s13 hk0;clear a1 sb hok hcp s13 hx1 o3;go_wp2_with (first | (at_builtin;refine zaq zag o2 rfl _ _ 26 rfl 5 underlying26 zbp rfl (by decide) rfl rfl o1 hb1 hqk hm1 hm2 ?_;rintro v4 w4 c4 b1 b2 b3 -;have hx4:=A1.out.2.1.keep b2 hxq hqk;have A4:=jh2 (A1.out.1.keep b2 hkq) (A1.out.2.2.1.ofNo.trans b2);clear b2) | (at_builtin;refine zaq zag b3 rfl _ _ 26 rfl 5 underlying26 zbp rfl (by decide) rfl rfl b1 hx4 hqk hm3 hm4 ?_;rintro v5 w5 c5 d1 d2 d3 -;obtain ⟨ga,gc,hv5,_⟩:=d1.sl.form;rw [show ((([]:List UInt8)++bs)++x).length=bs.length+x.length by simp] at hv5;subst hv5;have a5:=A4.out.1.keep d2 hkq;have z1:=a5.get (i:=1) rfl;have z2:=a5.get (i:=2) rfl;have z1f:=a5.fz d3 hk0 1;have A5:=jh4 a5 (A4.out.2.trans d2) d1 d3;clear a5 d1 d2 d3));go_ret;unfold PutQ;rw [HP.out];obtain ⟨a5,s5,d1,d3⟩:=A5.out;have hc5:c5 p=k:=a5.col;have hcp:=H.out.2.2.2;refine ⟨rfl,c5.turn q 0,⟨_,(a5.setN (i:=1) (by simp) _).keep ((Step.refl (K:=One q)).turn (k:=0) rfl) hkq,((d1.set (a:=⟨p,1,none⟩) (by show c5 p≠q;omega) (by show c5 p≠0;omega) _).turn hqk).sl⟩,?_,(d3.setCell _ _).turn hq0⟩;refine (((s5.mono (K':=Two k q) fun _ h=>.inr h).setCell (a:=⟨p,1,none⟩) (.inr (.inl hcp)) _).turn (q:=q) (k:=0) (.inr rfl)).drop fun b _ e=>?_
   rcases e with e | e
   ·exact e
   ·exact absurd e (H2.out.1 b)
 ·have HP:=jh1 (show putS lim (bs,e) true x=(bs,e) by simp [putS,he])
  have he':(e==0)=false:=beq_eq_false_iff_ne.2 he;clear hok a1 sb hcp hv;go_enter func123,ntmps123;go_wp2_with fail;go_quiet (fail);go_wp2;go_ret;unfold PutQ;rw [HP.out];obtain ⟨a1,sb,hok,hcp⟩:=H.out;exact ⟨rfl,c,⟨_,a1.keep (Step.rf.drewN (K:=No) _) jI,sb.kn (Step.rf.drewN _)⟩,(Step.refl (K:=One k)).drewN _,hok.drewN _⟩
end
section
variable {c:Col}{w:World}
theorem putS_stuck {lim:Int}{s:List UInt8×Int}(h:s.2≠0) (m:Bool) (x:List UInt8):putS lim s m x=s:=by unfold putS;rw [if_pos h]
theorem wnum04 (hok:Ok c w) {k p:Nat}{lim:Int}{s:List UInt8×Int}(h:IsW4 c k w p lim s) (hk0:k≠0) (hlim:lim≤1048576) (hl0:(s.1.length:Int)≤lim) (n:Nat) (hn:n<9223372036854775808) :
  Calls prog 80 #[.pointer (some ⟨p,0,none⟩),.int .i64 n] w (PutQ c w k p lim s (zay n)):=by
 have y2:w.cell? ⟨p,2,none⟩=some (.int .i64 s.2):=by obtain ⟨_,a,_⟩:=h;exact a.get (i:=2) rfl
 have hn0:¬(n:Int)<0:=by omega
 by_cases he:s.2=0
 ·rw [he] at y2
  have N:=number04 hok n hn 0;have H:=jh1 h;clear h hok;go_enter func80,ntmps80;go_wp2_with fail;refine N.mono ?_;rintro e w1 ⟨v1,rfl,c1,p1,s1,o1⟩;have P:=put04 o1 (H.out.kn s1) hk0 hlim hl0 p1.sl (Nat.le_trans (zae n) (by omega));obtain ⟨va,vc,rfl,_⟩:=p1.sl.form;have S:=jh1 s1;obtain ⟨nb,hnb⟩:=jE (zay n);rw [hnb] at P ⊢;have HN:=jh1 hnb;clear N p1 s1 o1 hnb;go_wp2_with fail;refine P.mono ?_;intro e w2 Q;have Q2:=jh1 (Q.after S.out);obtain ⟨rfl,_⟩:=Q;clear P S;go_wp2;go_ret;rw [HN.out];exact Q2.out
 ·have hb:(s.2 != 0)=true:=by simpa using he
  have X:=jh1 (show PutQ c w k p lim s (zay n) (.returned (.int .i64 s.2)) w by unfold PutQ;rw [putS_stuck he];exact ⟨rfl,c,h,Step.refl,hok⟩);clear h hok he;go_enter func80,ntmps80;go_wp2;go_ret;exact X.out
theorem wbytes04 (hok:Ok c w) {k p:Nat}{lim:Int}{s:List UInt8×Int}(h:IsW4 c k w p lim s) (hk0:k≠0) (hlim:lim≤1048576) (hl0:(s.1.length:Int)≤lim) {kx:Nat}{v:Value}{x:List UInt8}(hv:Sl zag c kx 0 w v x) (hx:x.length≤100000000) :
  Calls prog 81 #[.pointer (some ⟨p,0,none⟩),v] w (PutQ c w k p lim s (zay x.length++x)):=by
 obtain ⟨va,vc,rfl,_⟩:=hv.form;have N:=counted04 hok hv hx;have H:=jh1 h;clear h hok hv;go_enter func81,ntmps81;go_wp2_with fail;refine N.mono ?_;rintro e w1 ⟨v1,rfl,c1,p1,s1,o1⟩;have P:=put04 o1 (H.out.kn s1) hk0 hlim hl0 p1 (by have:=zae x.length;rw [List.length_append];omega);obtain ⟨va1,vc1,rfl,_⟩:=p1.form;have S:=jh1 s1;obtain ⟨nb,hnb⟩:=jE ((zay x.length++x));rw [hnb] at P ⊢;have HN:=jh1 hnb;clear N p1 s1 o1 hnb;go_wp2_with fail;refine P.mono ?_;intro e w2 Q;have Q2:=jh1 (Q.after S.out);obtain ⟨rfl,_⟩:=Q;clear P S;go_wp2;go_ret;rw [HN.out];exact Q2.out
theorem wword04 (hok:Ok c w) {k p:Nat}{lim:Int}{s:List UInt8×Int}(h:IsW4 c k w p lim s) (hk0:k≠0) (hlim:lim≤1048576) (hl0:(s.1.length:Int)≤lim) (n:Nat) (hn:n<18446744073709551616) :
  Calls prog 155 #[.pointer (some ⟨p,0,none⟩),.int .u64 n] w (PutQ c w k p lim s (wordB n)):=by
 skip
 have N:=word04 hok n hn;have H:=jh1 h;clear h hok;go_enter func155,ntmps155;go_wp2_with fail;refine N.mono ?_;rintro e w1 ⟨v1,rfl,c1,p1,s1,o1⟩;have P:=put04 o1 (H.out.kn s1) hk0 hlim hl0 p1 (by unfold wordB;rw [zbr];omega);obtain ⟨va1,vc1,rfl,_⟩:=p1.form;have S:=jh1 s1;obtain ⟨nb,hnb⟩:=jE ((wordB n));rw [hnb] at P ⊢;have HN:=jh1 hnb;clear N p1 s1 o1 hnb;go_wp2_with fail;refine P.mono ?_;intro e w2 Q;have Q2:=jh1 (Q.after S.out);obtain ⟨rfl,_⟩:=Q;clear P S;go_wp2;go_ret;rw [HN.out];exact Q2.out
theorem wtext04 (hok:Ok c w) {k p:Nat}{lim:Int}{s:List UInt8×Int}(h:IsW4 c k w p lim s) (hk0:k≠0) (hlim:lim≤1048576) (hl0:(s.1.length:Int)≤lim) (x:List UInt8) (hx:x.length≤100000000) :
  Calls prog 181 #[.pointer (some ⟨p,0,none⟩),.string ⟨x.toArray⟩] w (PutQ c w k p lim s (zay x.length++x)):=by
 obtain ⟨q1,q2,q3⟩:=conv_any hok x hx 5 0;have N:=counted04 q3 q1 hx;have hr:=Go.Lib.run_convert_string_bytes (P:=prog) w 9 26 5 ⟨x.toArray⟩ underlying9 underlying26 underlying5;have hsz:(⟨x.toArray⟩:ByteArray).size=x.length:=by simp [ByteArray.size]
 rw [hsz] at hr;have H:=jh2 (h.kn q2) q2;clear q1 q2 q3 h hok hsz;go_enter func181,ntmps181;go_wp2_with fail;refine N.mono ?_;rintro e w1 ⟨v1,rfl,c1,p1,s1,o1⟩;have P:=put04 o1 (H.out.1.kn s1) hk0 hlim hl0 p1 (by have:=zae x.length;rw [List.length_append];omega);obtain ⟨va1,vc1,rfl,_⟩:=p1.form;have S:=jh1 (H.out.2.trans s1);obtain ⟨nb,hnb⟩:=jE ((zay x.length++x));rw [hnb] at P ⊢;have HN:=jh1 hnb;clear N p1 s1 o1 hnb;go_wp2_with fail;refine P.mono ?_;intro e w2 Q;have Q2:=jh1 (Q.after S.out);obtain ⟨rfl,_⟩:=Q;clear P S;go_wp2;go_ret;rw [HN.out];exact Q2.out
theorem whash04 (hok:Ok c w) {k p:Nat}{lim:Int}{s:List UInt8×Int}(h:IsW4 c k w p lim s) (hk0:k≠0) (hlim:lim≤1048576) (hl0:(s.1.length:Int)≤lim) (x:List UInt8) (hx:x.length=32) :
  Calls prog 154 #[.pointer (some ⟨p,0,none⟩),.agg (bC x).toArray] w (PutQ c w k p lim s x):=by
 obtain ⟨q,hq,hqc⟩:=hok.spare k;have hqk:0≠q:=by omega
 have hq0:q≠0:=by omega
 obtain ⟨a1,o1,s1⟩:=zan hok (bC x) 51 0;have sl1:=a1.sl (k2:=0) 0 32 (by omega) 32 (Nat.le_refl _) (by simp only [maxLen];omega);rw [List.drop_zero,List.take_of_length_le (by omega)] at sl1;have hsl:=fun W=>run_arr0 (t:=51) underlying51 W w.heap.size;obtain ⟨b1,hb1⟩:=jE w.heap.size;rw [hb1] at sl1 hsl o1 s1;obtain ⟨B,hB⟩:=jE (bC x);rw [hB] at o1 s1 sl1 ⊢;obtain ⟨W1,hW1⟩:=jE (w.alloc (.cells B.toArray 51));rw [hW1] at o1 s1 sl1;obtain ⟨n1,n2,n3⟩:=Own.new0 zag 5 o1 q 0;have hx1:=sl1.kn n3;have hml:([]:List UInt8).length+x.length≤maxLen:=by simp [maxLen];omega
 have hbl:(([]:List UInt8).length+x.length)*1≤140737488355328:=by simp;omega
 have H:=jh5 (h.kn s1) s1 n3 hqc hok;clear h hok a1 o1 s1 sl1 n3 hB hqc;go_enter func154,ntmps154;go_wp2_with (first | (rw [hb1];rw [hW1]) | (at_builtin;refine zaq zag n2 rfl _ _ 26 rfl 5 underlying26 zbp rfl (by decide) rfl rfl n1 hx1 hqk hml hbl ?_;rintro v4 w4 c4 d1 d2 d3 -;obtain ⟨ga,gc,hv5,_⟩:=d1.sl.form;rw [show (([]:List UInt8)++x).length=32 by simpa using hx] at hv5;subst hv5;have D:=jh3 d1 d2 d3;clear d1 d2 d3));obtain ⟨d1,d2,d3⟩:=D.out;obtain ⟨h1,s1,n3,hqc,hok⟩:=H.out;have sA:Step (One q) c w c4 w4:=(s1.trans n3).ofNo.trans d2;have sB:Step No c w (c4.turn q 0) w4:=(sA.turn rfl).own hqc;have P:=put04 (d3.turn (q:=q) (k:=0) hq0) (((h1.kn n3).keep d2 (show ¬k=q by omega) hqk).keep ((Step.refl (K:=One q)).turn (k:=0) rfl) (show ¬k=q by omega) hqk) hk0 hlim hl0 (d1.turn hqk).sl (by simp;omega);rw [List.nil_append] at P;have S:=jh1 sB;clear d1 d2 d3 h1 s1 n3 hqc hok sA sB D H hx1 n1 n2;go_wp2_with fail;refine P.mono ?_;intro e w2 Q;have Q2:=jh1 (Q.after S.out);obtain ⟨rfl,_⟩:=Q;clear P S;go_wp2;go_ret;exact Q2.out
theorem wkey04 (hok:Ok c w) {k p:Nat}{lim:Int}{s:List UInt8×Int}(h:IsW4 c k w p lim s) (hk0:k≠0) (hlim:lim≤1048576) (hl0:(s.1.length:Int)≤lim) (x:List UInt8) (hx:x.length=4) :
  Calls prog 156 #[.pointer (some ⟨p,0,none⟩),.agg (bC x).toArray] w (PutQ c w k p lim s x):=by
 obtain ⟨q,hq,hqc⟩:=hok.spare k;have hqk:0≠q:=by omega
 have hq0:q≠0:=by omega
 obtain ⟨a1,o1,s1⟩:=zan hok (bC x) 91 0;have sl1:=a1.sl (k2:=0) 0 4 (by omega) 4 (Nat.le_refl _) (by simp only [maxLen];omega);rw [List.drop_zero,List.take_of_length_le (by omega)] at sl1;have hsl:=fun W=>run_arr0 (t:=91) underlying91 W w.heap.size;obtain ⟨b1,hb1⟩:=jE w.heap.size;rw [hb1] at sl1 hsl o1 s1;obtain ⟨B,hB⟩:=jE (bC x);rw [hB] at o1 s1 sl1 ⊢;obtain ⟨W1,hW1⟩:=jE (w.alloc (.cells B.toArray 91));rw [hW1] at o1 s1 sl1;obtain ⟨n1,n2,n3⟩:=Own.new0 zag 5 o1 q 0;have hx1:=sl1.kn n3;have hml:([]:List UInt8).length+x.length≤maxLen:=by simp [maxLen];omega
 have hbl:(([]:List UInt8).length+x.length)*1≤140737488355328:=by simp;omega
 have H:=jh5 (h.kn s1) s1 n3 hqc hok;clear h hok a1 o1 s1 sl1 n3 hB hqc;go_enter func156,ntmps156;go_wp2_with (first | (rw [hb1];rw [hW1]) | (at_builtin;refine zaq zag n2 rfl _ _ 26 rfl 5 underlying26 zbp rfl (by decide) rfl rfl n1 hx1 hqk hml hbl ?_;rintro v4 w4 c4 d1 d2 d3 -;obtain ⟨ga,gc,hv5,_⟩:=d1.sl.form;rw [show (([]:List UInt8)++x).length=4 by simpa using hx] at hv5;subst hv5;have D:=jh3 d1 d2 d3;clear d1 d2 d3));obtain ⟨d1,d2,d3⟩:=D.out;obtain ⟨h1,s1,n3,hqc,hok⟩:=H.out;have sA:Step (One q) c w c4 w4:=(s1.trans n3).ofNo.trans d2;have sB:Step No c w (c4.turn q 0) w4:=(sA.turn rfl).own hqc;have P:=put04 (d3.turn (q:=q) (k:=0) hq0) (((h1.kn n3).keep d2 (show ¬k=q by omega) hqk).keep ((Step.refl (K:=One q)).turn (k:=0) rfl) (show ¬k=q by omega) hqk) hk0 hlim hl0 (d1.turn hqk).sl (by simp;omega);rw [List.nil_append] at P;have S:=jh1 sB;clear d1 d2 d3 h1 s1 n3 hqc hok sA sB D H hx1 n1 n2;go_wp2_with fail;refine P.mono ?_;intro e w2 Q;have Q2:=jh1 (Q.after S.out);obtain ⟨rfl,_⟩:=Q;clear P S;go_wp2;go_ret;exact Q2.out
theorem wdone04 (hok:Ok c w) {k p:Nat}{lim:Int}{s:List UInt8×Int}(h:IsW4 c k w p lim s) (he:s.2=0) (hl:s.1.length≤1000000000) (kx:Nat) :
  Calls prog 82 #[.pointer (some ⟨p,0,none⟩)] w fun r w'=>∃v,r=.returned (.tuple #[v,.int .i64 0])∧∃c',Sl zag c' kx 0 w' v s.1∧Step No c w c' w'∧Ok c' w':=by
 obtain ⟨bs,e⟩:=s;obtain rfl:e=0:=he;obtain ⟨bv,a1,sb⟩:=h;obtain ⟨ba,bc,rfl,_⟩:=sb.form;have sb:Sl zag c 0 0 w (.slice ba bs.length bc) bs:=sb;have hl:bs.length≤1000000000:=hl;obtain ⟨q,hq,hqc⟩:=hok.spare 0;have hqk:0≠q:=by omega
 have hq0:q≠0:=by omega
 obtain ⟨o1,o2,o3⟩:=Own.new0 zag 5 hok q 0;have hx':=sb.kn o3;have y1:=(a1.keep o3 jI).get (i:=1) rfl;have y2:=a1.get (i:=2) rfl;have hml:([]:List UInt8).length+bs.length≤maxLen:=by simp [maxLen];omega
 have hbl:(([]:List UInt8).length+bs.length)*1≤140737488355328:=by simp;omega
 have H:=jh2 o3 hqc;clear a1 sb hok o3 hqc;go_enter func82,ntmps82;go_wp2_with (at_builtin;refine zaq zag o2 rfl _ _ 26 rfl 5 underlying26 zbp rfl (by decide) rfl rfl o1 hx' hqk hml hbl ?_;rintro v4 w4 c4 d1 d2 d3 d4;obtain ⟨ga,gc,rfl,_⟩:=app0_form d1 d4;have D:=jh3 d1 d2 d3;clear d1 d2 d3 d4);go_ret2;obtain ⟨d1,d2,d3⟩:=D.out;exact ⟨_,rfl,c4.turn q kx,(d1.turn (k:=kx) hqk).sl,((H.out.1.ofNo.trans d2).turn rfl).own H.out.2,d3.turn hq0⟩
end
def PutF (c:Col) (w:World) (k p:Nat) (lim:Int) (s x:List UInt8) (r:Ending) (w':World):Prop:=
 r=.returned (.int .i64 0)∧∃c',IsW4 c' k w' p lim (s++x,0)∧Step (One k) c w c' w'∧Ok c' w'
section
variable {c:Col}{w:World}
theorem zbb {fn:FuncId}{args:Array Value}{k p:Nat}{lim:Int}{s x:List UInt8}(h:Calls prog fn args w (PutQ c w k p lim (s,0) x)) (hf:(s.length:Int)+x.length≤lim):Calls prog fn args w (PutF c w k p lim s x):=by
 refine h.mono ?_;intro r w' q;unfold PutQ at q;rw [zaB hf] at q;exact q
theorem put06 (hok:Ok c w) {k p:Nat}{s:List UInt8}(hi:IsW4 c k w p 1048576 (s,0)) (hk0:k≠0) (h:Hdr) (hw:h.Wf) (hc:zaL h=0) (hs:s.length≤100000) :
  Calls prog 153 #[.pointer (some ⟨p,0,none⟩),.agg (zaz h).toArray] w fun r w'=>r=.returned (.tuple #[])∧∃c',IsW4 c' k w' p 1048576 (s++zbB h,0)∧Step (One k) c w c' w'∧Ok c' w':=by
 obtain ⟨hn,hh,ht⟩:=checkH_ok hc;simp only [zav,timeB,Bool.and_eq_true,decide_eq_true_eq] at hh ht;have hnl:h.name.length≤32:=by simp only [nameB,Bool.and_eq_true,decide_eq_true_eq] at hn;exact hn.1.2
 obtain ⟨a0,o0,s0⟩:=zan hok (zaz h) 53 0;obtain ⟨b,hb⟩:=jE w.heap.size;rw [hb] at a0 o0 s0;have Y0:∀c' w',At c' w' b 0 (zaz h)→w'.cell? ⟨b,0,none⟩=some (.string ⟨h.name.toArray⟩)∧w'.cell? ⟨b,1,none⟩=some (.int .i64 h.height)∧w'.cell? ⟨b,2,none⟩=some (.int .i64 h.time):=fun _ _ a=>⟨a.get (i:=0) rfl,a.get (i:=1) rfl,a.get (i:=2) rfl⟩;have HD:∀c' w',At c' w' b 0 (zaz h)→_:=fun c' w' (a:At c' w' b 0 (zaz h))=>hdr_at hw a.cells;obtain ⟨B,hB⟩:=jE (zaz h);rw [hB] at a0 o0 s0 Y0 HD ⊢;obtain ⟨W0,hW0⟩:=jE (w.alloc (.cells B.toArray 53));rw [hW0] at a0 o0 s0;have T1:=zbb (wtext04 o0 (hi.kn s0) hk0 (by omega) (by simp;omega) h.name (by omega)) (by have:=zae h.name.length;simp;omega);have HY:=jh2 Y0 HD;have e1:((h.height.toNat:Nat):Int)=h.height:=Int.toNat_of_nonneg (by omega);have e2:((h.time.toNat:Nat):Int)=h.time:=Int.toNat_of_nonneg (by omega);have HK:=jh8 hw hnl hh ht e1 e2 hs hk0;have X0:=jh2 a0 s0;have y0:=(Y0 _ _ a0).1;obtain ⟨nm,hnm⟩:∃x:ByteArray,⟨h.name.toArray⟩=x:=⟨_,rfl⟩;rw [hnm] at y0 T1;clear a0 o0 s0 hi hok hB hc hn hh ht hnl Y0 HD e1 e2 hw hnm;go_enter func153,ntmps153;go_wp2_with fail
 (try rw [hb])
 (try rw [hW0])
 refine T1.mono ?_;rintro e w1 ⟨rfl,c1,i1,s1,o1⟩;have a1:=X0.out.1.keep s1 (show ¬0=k from fun e=>HK.out.2.2.2.2.2.2.2 e.symm);have L1:(s++(zay h.name.length++h.name)).length≤100041:=by have:=zae h.name.length;have:=HK.out.2.1;have:=HK.out.2.2.2.2.2.2.1;simp;omega
 have T2:=zbb (wnum04 o1 i1 hk0 (by omega) (by dsimp only;omega) h.height.toNat (by have:=HK.out.2.2.1;omega)) (by have:=zae h.height.toNat;omega);rw [HK.out.2.2.2.2.1] at T2;have y1:=(HY.out.1 _ _ a1).2.1;have X1:=jh3 a1 (X0.out.2.ofNo.trans s1) L1;clear T1 y0 X0 i1 s1 o1 a1 L1;go_wp2_with fail;refine T2.mono ?_;rintro e w2 ⟨rfl,c2,i2,s2,o2⟩;have a2:=X1.out.1.keep s2 (show ¬0=k from fun e=>HK.out.2.2.2.2.2.2.2 e.symm);have L2:(s++(zay h.name.length++h.name)++zay h.height.toNat).length≤100050:=by have:=zae h.height.toNat;have:=X1.out.2.2;rw [List.length_append];omega
 have T3:=zbb (wnum04 o2 i2 hk0 (by omega) (by dsimp only;omega) h.time.toNat (by have:=HK.out.2.2.2.1;omega)) (by have:=zae h.time.toNat;omega);rw [HK.out.2.2.2.2.2.1] at T3;have y2:=(HY.out.1 _ _ a2).2.2;have X2:=jh3 a2 (X1.out.2.1.trans s2) L2;clear T2 y1 X1 i2 s2 o2 a2 L2;go_wp2_with fail;refine T3.mono ?_;rintro e w3 ⟨rfl,c3,i3,s3,o3⟩;have a3:=X2.out.1.keep s3 (show ¬0=k from fun e=>HK.out.2.2.2.2.2.2.2 e.symm);have L3:(s++(zay h.name.length++h.name)++zay h.height.toNat++zay h.time.toNat).length≤100059:=by have:=zae h.time.toNat;have:=X2.out.2.2;rw [List.length_append];omega
 obtain ⟨S3,hS3⟩:=jE (s++(zay h.name.length++h.name)++zay h.height.toNat++zay h.time.toNat);rw [hS3] at i3 L3;have X3:=jh5 a3 (X2.out.2.1.trans s3) L3 i3 o3;have HS:=jh1 hS3;clear T3 y2 X2 i3 s3 o3 a3 L3 hS3;have G4:=(HY.out.2 _ _ X3.out.1).1;have T4:=zbb (whash04 X3.out.2.2.2.2 X3.out.2.2.2.1 hk0 (by omega) (by have:=X3.out.2.2.1;dsimp only;omega) h.prev HK.out.1.prev) (by have:=HK.out.1.prev;have:=X3.out.2.2.1;omega);have hN4:(prog.info? 51).map (·.size)=some (bC h.prev).length:=by rw [zai,zaf,HK.out.1.prev]
 obtain ⟨B4,hB4⟩:=jE (bC h.prev);rw [hB4] at G4 T4 hN4;have GG4:=jh2 G4 hN4;clear G4 hN4 hB4;go_wp2_with (refine wpList_load_mid rfl 51 _ rfl b 3 rfl B4 _ GG4.out.1 underlying51 rfl GG4.out.2 ?_);refine T4.mono ?_;rintro e w4 ⟨rfl,c4,i4,s4,o4⟩;have a4:=X3.out.1.keep s4 (show ¬0=k from fun e=>HK.out.2.2.2.2.2.2.2 e.symm);have L4:(S3++h.prev).length≤100091:=by have:=HK.out.1.prev;have:=X3.out.2.2.1;rw [List.length_append];omega
 have X4:=jh5 a4 (X3.out.2.1.trans s4) L4 i4 o4;clear T4 GG4 X3 i4 s4 o4 a4 L4;have G5:=(HY.out.2 _ _ X4.out.1).2.1;have T5:=zbb (whash04 X4.out.2.2.2.2 X4.out.2.2.2.1 hk0 (by omega) (by have:=X4.out.2.2.1;dsimp only;omega) h.vals HK.out.1.vals) (by have:=HK.out.1.vals;have:=X4.out.2.2.1;omega);have hN5:(prog.info? 51).map (·.size)=some (bC h.vals).length:=by rw [zai,zaf,HK.out.1.vals]
 obtain ⟨B5,hB5⟩:=jE (bC h.vals);rw [hB5] at G5 T5 hN5;have GG5:=jh2 G5 hN5;clear G5 hN5 hB5;go_wp2_with (refine wpList_load_mid rfl 51 _ rfl b 35 rfl B5 _ GG5.out.1 underlying51 rfl GG5.out.2 ?_);refine T5.mono ?_;rintro e w5 ⟨rfl,c5,i5,s5,o5⟩;have a5:=X4.out.1.keep s5 (show ¬0=k from fun e=>HK.out.2.2.2.2.2.2.2 e.symm);have L5:(S3++h.prev++h.vals).length≤100123:=by have:=HK.out.1.vals;have:=X4.out.2.2.1;rw [List.length_append];omega
 have X5:=jh5 a5 (X4.out.2.1.trans s5) L5 i5 o5;clear T5 GG5 X4 i5 s5 o5 a5 L5;have G6:=(HY.out.2 _ _ X5.out.1).2.2.1;have T6:=zbb (whash04 X5.out.2.2.2.2 X5.out.2.2.2.1 hk0 (by omega) (by have:=X5.out.2.2.1;dsimp only;omega) h.next HK.out.1.next) (by have:=HK.out.1.next;have:=X5.out.2.2.1;omega);have hN6:(prog.info? 51).map (·.size)=some (bC h.next).length:=by rw [zai,zaf,HK.out.1.next]
 obtain ⟨B6,hB6⟩:=jE (bC h.next);rw [hB6] at G6 T6 hN6;have GG6:=jh2 G6 hN6;clear G6 hN6 hB6;go_wp2_with (refine wpList_load_mid rfl 51 _ rfl b 67 rfl B6 _ GG6.out.1 underlying51 rfl GG6.out.2 ?_);refine T6.mono ?_;rintro e w6 ⟨rfl,c6,i6,s6,o6⟩;have a6:=X5.out.1.keep s6 (show ¬0=k from fun e=>HK.out.2.2.2.2.2.2.2 e.symm);have L6:(S3++h.prev++h.vals++h.next).length≤100155:=by have:=HK.out.1.next;have:=X5.out.2.2.1;rw [List.length_append];omega
 have X6:=jh5 a6 (X5.out.2.1.trans s6) L6 i6 o6;clear T6 GG6 X5 i6 s6 o6 a6 L6;have G7:=(HY.out.2 _ _ X6.out.1).2.2.2;have T7:=zbb (whash04 X6.out.2.2.2.2 X6.out.2.2.2.1 hk0 (by omega) (by have:=X6.out.2.2.1;dsimp only;omega) h.app HK.out.1.app) (by have:=HK.out.1.app;have:=X6.out.2.2.1;omega);have hN7:(prog.info? 51).map (·.size)=some (bC h.app).length:=by rw [zai,zaf,HK.out.1.app]
 obtain ⟨B7,hB7⟩:=jE (bC h.app);rw [hB7] at G7 T7 hN7;have GG7:=jh2 G7 hN7;clear G7 hN7 hB7;go_wp2_with (refine wpList_load_mid rfl 51 _ rfl b 99 rfl B7 _ GG7.out.1 underlying51 rfl GG7.out.2 ?_);refine T7.mono ?_;rintro e w7 ⟨rfl,c7,i7,s7,o7⟩;have a7:=X6.out.1.keep s7 (show ¬0=k from fun e=>HK.out.2.2.2.2.2.2.2 e.symm);have L7:(S3++h.prev++h.vals++h.next++h.app).length≤100187:=by have:=HK.out.1.app;have:=X6.out.2.2.1;rw [List.length_append];omega
 have X7:=jh5 a7 (X6.out.2.1.trans s7) L7 i7 o7;clear T7 GG7 X6 i7 s7 o7 a7 L7;go_wp2_with fail
 first | go_end0 | refine bodyPost_ret (results_none rfl _ _ _) rfl ?_
 have hE:s++zbB h=S3++h.prev++h.vals++h.next++h.app:=by rw [←HS.out];unfold zbB;simp only [List.append_assoc]
 rw [hE];exact ⟨rfl,c7,X7.out.2.2.2.1,X7.out.2.1,X7.out.2.2.2.2⟩
theorem encode06 (hok:Ok c w) (h:Hdr) (hw:h.Wf) (hc:zaL h=0) (kx:Nat) :
  Calls prog 120 #[.agg (zaz h).toArray] w fun r w'=>∃v,r=.returned (.tuple #[v,.int .i64 0])∧∃c',Sl zag c' kx 0 w' v (zbB h)∧Step No c w c' w'∧Ok c' w':=by
 obtain ⟨q,hq,hqc⟩:=hok.spare 0;have hq0:q≠0:=by omega
 obtain ⟨a1,o1,s1⟩:=zan hok (zaz h) 53 0;have C:=check06 o1 h hw;rw [hc] at C;have hl:=zaj hw;have hE0:=encH0_len hc;obtain ⟨b1,hb1⟩:=jE w.heap.size;rw [hb1] at a1 o1 s1 C;obtain ⟨B,hB⟩:=jE (zaz h);rw [hB] at a1 o1 s1 C hl ⊢;have hi:Hid ((prog.info? 53).map (·.size)=some B.length):=jh1 (by rw [zat,hl]);have HA:=jh7 a1 s1 hqc hw hc hB hE0;clear a1 o1 s1 hl hok hB hqc hw hc hE0;go_enter func120,ntmps120;go_wp2_with (refine wpList_load_mid rfl 53 _ rfl b1 0 rfl B _ HA.out.1.cells underlying53 rfl hi.out ?_)
 (try rw [hb1])
 refine C.mono ?_;rintro e w1 ⟨rfl,c1,s1,o1⟩;have N:=newWriter04 o1 1048576 (by omega) (by omega) q;have X1:=jh2 (HA.out.1.keep s1 jI) (HA.out.2.1.trans s1);clear C s1 o1;go_wp2_with fail;refine N.mono ?_;rintro e w2 ⟨rfl,c2,i2,s2,o2⟩;obtain ⟨p,hp⟩:=jE w1.heap.size;rw [hp] at i2 ⊢;have P:=put06 o2 i2 hq0 h HA.out.2.2.2.1 HA.out.2.2.2.2.1 (by simp);rw [HA.out.2.2.2.2.2.1,List.nil_append] at P;have X2:=jh2 (X1.out.1.keep s2 jI) (X1.out.2.trans s2);clear N i2 s2 o2 X1 hp;go_wp2_with (refine wpList_load_mid rfl 53 _ rfl b1 0 rfl B _ X2.out.1.cells underlying53 rfl hi.out ?_);refine P.mono ?_;rintro e w3 ⟨rfl,c3,i3,s3,o3⟩;have D:=wdone04 o3 i3 rfl (by have:=HA.out.2.2.2.2.2.2;have h1:=encH_len HA.out.2.2.2.1 HA.out.2.2.2.2.1;dsimp only;omega) kx;dsimp only at D;have X3:=jh1 ((X2.out.2.ofNo.trans s3).own HA.out.2.2.1);clear P i3 s3 o3 X2;go_wp2_with fail;refine D.mono ?_;rintro e w4 ⟨v,rfl,c4,p4,s4,o4⟩;obtain ⟨va,vc,rfl,_⟩:=p4.form;obtain ⟨E,hE⟩:=jE (zbB h);rw [hE] at p4 ⊢;have X4:=jh3 p4 (X3.out.trans s4) o4;have HE:=jh1 hE;clear D p4 s4 o4 hE;go_wp2;go_ret2;rw [HE.out];exact ⟨_,rfl,c4,X4.out⟩
end
section
variable {c:Col}{w:World}
theorem encode05 (hok:Ok c w) {kx kx2:Nat}{v:Value}{l:List Vld}(hv:Sl TVal c kx kx2 w v l) (hc:zaJ l=0) (ky:Nat) :
  Calls prog 122 #[v] w fun r w'=>∃v',r=.returned (.tuple #[v',.int .i64 0])∧∃c',Sl zag c' ky 0 w' v' (encV l)∧Step No c w c' w'∧Ok c' w':=by
 obtain ⟨q,hq,hqc⟩:=hok.top (kx+kx2);have hq0:q≠0:=by omega
 obtain ⟨hlen0,hlen,hpow⟩:=checkV_ok hc;have C:=check05 hok hv (by omega);rw [hc] at C;have hval:=hv.val;obtain ⟨g,off,cap,rfl,hcap,hcm⟩:=hv.some hlen0;have HL:=jh3 hlen hpow hval;have X0:=jh1 hv;clear hv hok hc hlen hpow hval;go_enter func122,ntmps122;go_wp2_with fail;refine C.mono ?_;rintro e w1 ⟨rfl,c1,s1,o1⟩;have N:=newWriter04 o1 65536 (by omega) (by omega) q;have X1:=jh2 (X0.out.kn s1) s1;clear C s1 o1 X0;go_wp2_with fail;refine N.mono ?_;rintro e w2 ⟨rfl,c2,i2,s2,o2⟩;obtain ⟨p,hp⟩:=jE w1.heap.size;rw [hp] at i2 ⊢;have T:=zbb (wnum04 o2 i2 hq0 (by omega) (by simp) l.length (by have:=HL.out.1;omega)) (by have:=zae l.length;simp;omega);unfold PutF at T;have X2:=jh2 (X1.out.1.kn s2) (X1.out.2.trans s2);clear N i2 s2 o2 hp X1;go_wp2_with fail;refine T.mono ?_;rintro e w3 ⟨rfl,c3,i3,s3,o3⟩;have X3:=jh4 i3 (X2.out.1.keep s3 (show ¬kx=q by omega) (show ¬kx2=q by omega)) ((X2.out.2.ofNo).trans s3) o3;clear T i3 s3 o3 X2;go_wp2;go_loopw [7] (fun vi wr=>∃(i:Nat) (cr:Col),i≤l.length∧vi=.int .i64 i∧IsW4 cr q wr p 65536 (zay l.length++((l.take i).map vB).flatten,0)∧Sl TVal cr kx kx2 wr (.slice (some ⟨g,off,none⟩) l.length cap) l∧Step (One q) c w cr wr∧Ok cr wr) (fun vi _=>l.length-(intOf vi).toNat)
 case atStart=>exact ⟨0,_,Nat.zero_le _,rfl,by simpa using X3.out.1,X3.out.2⟩
 case round=>
  clear X3;obtain ⟨i,cr,hi,rfl,iw,sl,st,ok⟩:=hrel;by_cases hlt:i<l.length
  ·obtain ⟨x,hx⟩:∃x,l[i]? = some x:=⟨l[i],by simp [hlt]⟩
   have hp1:=HL.out.2.1 x (List.mem_of_getElem? hx)
   have hlen13:((l.take i).map vB).flatten.length≤832:=by
    have:=vB_len (l:=l.take i) (fun y hy=>(HL.out.2.2 y (List.mem_of_mem_take hy)).1);have h2:(l.take i).length≤64:=by rw [List.length_take];have:=HL.out.1;omega
    omega
   have hk4:x.key.length=4:=(HL.out.2.2 x (List.mem_of_getElem? hx)).1
   have hxc:∀(c':Col) (w':World),Sl TVal c' kx kx2 w' (.slice (some ⟨g,off,none⟩) l.length cap) l→w'.cell? ⟨g,off+i*5+4,none⟩=some (.int .i64 x.power)∧zas w' g (off+i*5) (bC x.key):=fun c' w' s=>by
    obtain ⟨vs,⟨rfl,hk4,hpw⟩,hcs⟩:=s.at hx;obtain ⟨c1,c2⟩:=zam (xs:=bC x.key) (ys:=[.int .i64 x.power]) hcs;rw [zaf,hk4] at c2;exact ⟨c2.get 0 rfl,c1⟩
   have hn9:=zae l.length;have KY:=zbb (wkey04 ok iw hq0 (by omega) (by simp only [List.length_append];omega) x.key hk4) (by simp only [List.length_append,hk4];omega);unfold PutF at KY;have hKi:(prog.info? 91).map (·.size)=some (bC x.key).length:=by rw [info_keyQ,zaf,hk4]
   have hcs:=(hxc _ _ sl).2;have HXC:=jh1 hxc;obtain ⟨KV,hKV⟩:=jE (bC x.key);rw [hKV] at KY hKi hcs;have SL:=jh2 hcs hKi;have X2:=jh7 sl st hp1 hk4 hlen13 hx hi;have hlt':(i:Int)<(l.length:Int):=by omega
   have hi64:(i:Int)<64:=by have:=HL.out.1;omega
   clear hcs iw sl st ok hk4 hp1 hlen13 hn9 hKi hKV hx hxc;go_wp2_with (first | (refine wpList_load_mid rfl 91 _ rfl g (off+i*5) rfl KV _ SL.out.1 underlying91 rfl SL.out.2 ?_));refine KY.mono ?_;rintro e1 w3 ⟨rfl,c3,i3,s3,o3⟩;have sl3:=X2.out.1.keep s3 (show ¬kx=q by omega) (show ¬kx2=q by omega);have NM:=zbb (wnum04 o3 i3 hq0 (by omega) (by have:=X2.out.2.2.2.2.1;have:=X2.out.2.2.2.1;have:=zae l.length;simp only [List.length_append];omega) x.power.toNat (by have:=X2.out.2.2.1;omega)) (by have:=X2.out.2.2.2.2.1;have:=X2.out.2.2.2.1;have:=zae l.length;have:=zae x.power.toNat;simp only [List.length_append];omega);unfold PutF at NM;rw [Int.toNat_of_nonneg (by have:=X2.out.2.2.1;omega)] at NM;have z4:=(HXC.out _ _ sl3).1;have X3:=jh2 sl3 (X2.out.2.1.trans s3);clear KY i3 s3 o3 sl3;go_wp2_with fail;refine NM.mono ?_;rintro e1 w4 ⟨rfl,c4,i4,s4,o4⟩;have X4:=jh4 i4 (X3.out.1.keep s4 (show ¬kx=q by omega) (show ¬kx2=q by omega)) (X3.out.2.trans s4) o4;clear NM i4 s4 o4 z4;go_wp2;go_roundw
   case rel=>
    refine ⟨i+1,c4,by omega,by go_num,?_,X4.out.2⟩
    have e1:zay l.length++((l.take (i+1)).map vB).flatten=zay l.length++((l.take i).map vB).flatten++x.key++zay x.power.toNat:=by
     rw [List.take_add_one,X2.out.2.2.2.2.2.1];simp [vB]
    rw [e1];exact X4.out.1
   case measure=>simp [intOf];omega
  ·have hil:i=l.length:=by omega
   subst hil;rw [List.take_length] at iw;have hE:zay l.length++(l.map vB).flatten=encV l:=rfl;rw [hE] at iw
   have hle:(encV l).length≤1000000000:=by
    have:=vB_len (l:=l) (fun y hy=>(HL.out.2.2 y hy).1);have:=HL.out.1;have:=zae l.length;rw [←hE,List.length_append];omega
   have D:=wdone04 ok iw rfl hle ky;have X3:=jh1 (st.drop (K':=No) fun b _ (e:c b=q)=>by have:=hqc b;omega);clear iw sl st ok;go_wp2_with fail;refine D.mono ?_;rintro e1 w8 ⟨v',rfl,c8,p8,s8,o8⟩;have X8:=jh3 p8 (X3.out.trans s8) o8;clear D p8 s8 o8;go_wp2;go_ret2;exact ⟨v',rfl,c8,X8.out⟩
end
