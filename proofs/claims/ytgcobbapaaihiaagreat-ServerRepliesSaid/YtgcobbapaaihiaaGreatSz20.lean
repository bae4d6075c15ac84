/- ServerReplies, part 20: lemmas, each with its own conditions. -/
import Derived.Test.YtgcobbapaaihiaaGreatSz19
set_option linter.all false
set_option maxHeartbeats 12800000
set_option maxRecDepth 100000
open Go.Proofs.Tryz
namespace Go.Proofs.YtgcobbapaaihiaaGreat
open Go.RowKit
def numR (bs:List UInt8) (a:Nat):Option (Nat×Nat):=
 match bs.drop a with
 | []=>none
 | x::r=>if 8<x.toNat then none else if r.length<x.toNat then none else if firstB 1 (r.take x.toNat)=0 then none else if 9223372036854775807<bigN (r.take x.toNat) then none else some (bigN (r.take x.toNat),a+1+x.toNat)
def NumIn (bs:List UInt8) (a:Nat) (c:Col) (w:World) (k p:Nat) (f:Int×Int) (r:Ending) (w':World):Prop:=
 ∃c' a',IsRd c' k w' p bs a' f∧Step (One k) c w c' w'∧Ok c' w'∧((∃n:Nat,n≤9223372036854775807∧numR bs a=some (n,a')∧r=.returned (.int .i64 n))∨(numR bs a=none∧∃e x,r=wrongP e x∧e≠0))
theorem numIn_step {c:Col}{w w1 w2:World}{k q:Nat}{c1 c2:Col}(h1:Step (One k) c w c1 w1) (h2:Step (Two k q) c1 w1 c2 w2) (hq:∀b,c b≠q):Step (One k) c w c2 w2:=
 ((h1.mono (K':=Two k q) fun _ h=>.inl h).trans h2).drop fun b _ e=>by
  rcases e with e | e
  ·exact e
  ·exact absurd e (hq b)
section
variable {c:Col}{w:World}
theorem rnumX_any (hok:Ok c w) {k p:Nat}{bs:List UInt8}{a:Nat}{f:Int×Int}(h:IsRd c k w p bs a f) (hk0:k≠0) (at0:Int) :
  Calls prog 97 #[.pointer (some ⟨p,0,none⟩),.int .i64 at0] w (NumIn bs a c w k p f):=by
 have hle:=h.le;have hfew:=h.few;obtain ⟨q,hq,hqc⟩:=hok.spare k;have hq0:q≠0:=by omega
 rcases hd:bs.drop a with _ | ⟨x,r⟩
 ·have hl:bs.length≤a:=by have:=congrArg List.length hd;rw [List.length_drop] at this;simp at this;omega
  have hnone:numR bs a=none:=by unfold numR;rw [hd]
  have T1:=takeN_no hok h 1 (by omega) at0 (.func (.func 136) #[] #[]);have X:=jh1 hnone;clear h hok hd hnone hl hle hfew hqc;go_enter func97,ntmps97;go_wp2_with fail;refine T1.mono ?_;rintro e w1 ⟨rfl,i1,s1,o1⟩;unfold wrongP;have Y:=jh3 i1 s1 o1;clear T1 i1 s1 o1;go_wp2_with fail;exact ⟨rfl,c,a,Y.out.1,Y.out.2.1.ofNo,Y.out.2.2,.inr ⟨X.out,6,at0,rfl,by decide⟩⟩
 have hlen:bs.length=a+1+r.length:=by have:=congrArg List.length hd;rw [List.length_drop] at this;simp at this;omega
 have hd1:(bs.drop a).take 1=[x]:=by rw [hd];rfl
 have hd2:∀n,(bs.drop (a+1)).take n=r.take n:=fun n=>by rw [←List.drop_drop,hd];rfl
 have hN:numR bs a=if 8<x.toNat then none else if r.length<x.toNat then none else if firstB 1 (r.take x.toNat)=0 then none else if 9223372036854775807<bigN (r.take x.toNat) then none else some (bigN (r.take x.toNat),a+1+x.toNat):=by unfold numR;rw [hd]
 obtain ⟨m,hm⟩:=jE x.toNat;rw [hm] at hN;have hm256:m<256:=by rw [←hm];exact x.toNat_lt
 have T1:Calls prog 135 #[.pointer (some ⟨p,0,none⟩),.int .i64 1,.int .i64 at0,.func (.func 136) #[] #[]] w fun r w'=>r=.returned (.int .u64 m)∧IsRd c k w' p bs (a+1) f∧Step (One k) c w c w'∧Ok c w':=by
  have:=takeN_any hok h hk0 1 (by omega) (by omega) at0;rw [hd1,show bigN [x]=m by simp [bigN,bigF,hm]] at this;exact this
 have hwm:IntKind.i64.wrap (m:Int)=(m:Int):=IntWalk.i64_in _ (by omega);have HB:=jh5 hN hlen hd2 hqc hm256;clear h hok hd hd1 hd2 hN hlen hqc hm hm256 hle hfew;go_enter func97,ntmps97;go_wp2_with fail;refine T1.mono ?_;rintro e w1 ⟨rfl,i1,s1,o1⟩;obtain ⟨a2,o2,s2⟩:=zan o1 [.int .i64 m] 3 q;have z2:=a2.c0;by_cases h8:(m:Int)≤8;rotate_left
 ·have M1:=must_no (w1.alloc (.cells #[.int .i64 m] 3)) 5 at0
  have Y:=jh3 (i1.kn s2) (s1.trans s2.ofNo) o2;have H8:=jh1 h8;have hd8:decide ((m:Int)≤8)=false:=decide_eq_false h8;clear T1 i1 s1 o1 a2 o2 s2;go_wp2_with fail;refine M1.mono ?_;rintro e w2 ⟨rfl,rfl⟩;go_wp2_with fail;exact ⟨rfl,_,_,Y.out.1,Y.out.2.1,Y.out.2.2,.inr ⟨by rw [HB.out.1,if_pos (by have:=H8.out;omega)],5,at0,rfl,by decide⟩⟩
 have M1:=zbF (w1.alloc (.cells #[.int .i64 m] 3)) 5 at0;obtain ⟨a3,o3,s3⟩:=zan o2 [.int .u8 1] 5 q;rw [World.size_alloc] at a3 o3 s3;by_cases hr:m≤r.length;rotate_left
 ·have T2:=takeN_no o3 ((i1.kn s2).kn s3) m (by rw [HB.out.2.1];omega) at0 (.func (.func 137) #[] #[.pointer (some ⟨w1.heap.size,0,none⟩),.pointer (some ⟨w1.heap.size+1,0,none⟩)])
  have S1:=jh3 (s1.trans (s2.trans s3).ofNo) h8 hr;clear T1 i1 s1 o1 a2 o2 s2 a3 o3 s3 hr;go_wp2_with fail;refine M1.mono ?_;rintro e w2 ⟨rfl,rfl⟩;go_wp2_with fail;refine T2.mono ?_;rintro e w3 ⟨rfl,i3,s3,o3⟩;unfold wrongP;have Y:=jh3 i3 s3 o3;clear T2 M1 i3 s3 o3;go_wp2_with fail;obtain ⟨S1,h8,hr⟩:=S1.out;exact ⟨rfl,_,_,Y.out.1,S1.trans Y.out.2.1.ofNo,Y.out.2.2,.inr ⟨by rw [HB.out.1,if_neg (by omega),if_pos (by omega)],6,at0,rfl,by decide⟩⟩
 have a23:=a2.keep s3 jI;have T2:=takeF_any o3 ((i1.kn s2).kn s3) hk0 m (by rw [HB.out.2.1];omega) (by omega) a23 a3 hq0 (by omega) at0;rw [HB.out.2.2.1] at T2;have hbl:bigN (r.take m)<18446744073709551616:=Nat.lt_of_lt_of_le (bigN_lt (r.take m)) (Nat.le_trans (Nat.pow_le_pow_right (n:=256) (j:=8) (by decide) (by rw [List.length_take];omega)) (by decide));obtain ⟨n,hn⟩:=jE (bigN (r.take m));obtain ⟨fb,hfb⟩:=jE (firstB 1 (r.take m));rw [hn] at T2 hbl;rw [hfb] at T2;have z5:=a23.c0;have S1:=jh5 (s1.trans (s2.trans s3).ofNo) h8 hr hn hfb;clear T1 i1 s1 o1 a2 o2 s2 a3 o3 s3 a23 hn hfb hr;go_wp2_with fail;refine M1.mono ?_;rintro e w2 ⟨rfl,rfl⟩;go_wp2_with fail;refine T2.mono ?_;rintro e w3 ⟨rfl,a6,i3,s3,o3,_⟩;have z6:=a6.c0;have SX:=jh3 i3 s3 o3;clear T2 M1 z5 z2 a6 i3 s3 o3;by_cases hf0:fb=0
 ·have M2:=must_no w3 5 at0
  subst hf0;go_wp2_with fail;refine M2.mono ?_;rintro e w4 ⟨rfl,rfl⟩;go_wp2_with fail;obtain ⟨i3,s3,o3⟩:=SX.out;obtain ⟨S1,h8,hr,hn,hfb⟩:=S1.out;exact ⟨rfl,_,_,i3,numIn_step S1 s3 HB.out.2.2.2.1,o3,.inr ⟨by rw [HB.out.1,if_neg (by omega),if_neg (by omega),if_pos hfb],5,at0,rfl,by decide⟩⟩
 have hfs3:(fb != 0)=true:=by rw [bne_iff_ne];exact hf0
 by_cases hnm:(n:Int)≤9223372036854775807;rotate_left
 ·have M2:=must_no w3 5 at0
  have HM:=jh2 hnm hf0;have hdn:decide ((n:Int)≤9223372036854775807)=false:=decide_eq_false hnm;clear hf0;go_wp2_with fail;refine M2.mono ?_;rintro e w4 ⟨rfl,rfl⟩;go_wp2_with fail;obtain ⟨i3,s3,o3⟩:=SX.out;obtain ⟨S1,h8,hr,hn,hfb⟩:=S1.out;exact ⟨rfl,_,_,i3,numIn_step S1 s3 HB.out.2.2.2.1,o3,.inr ⟨by rw [HB.out.1,if_neg (by omega),if_neg (by omega),if_neg (by rw [hfb];exact HM.out.2),if_pos (by have:=HM.out.1;omega)],5,at0,rfl,by decide⟩⟩
 have M2:=zbF w3 5 at0;have hwn:IntKind.i64.wrap (n:Int)=(n:Int):=IntWalk.i64_in _ (by omega);have HM:=jh2 hnm hf0;clear hf0;go_wp2_with fail;refine M2.mono ?_;rintro e w4 ⟨rfl,rfl⟩;go_wp2;go_ret;obtain ⟨i3,s3,o3⟩:=SX.out;obtain ⟨S1,h8,hr,hn,hfb⟩:=S1.out;exact ⟨_,_,i3,numIn_step S1 s3 HB.out.2.2.2.1,o3,.inl ⟨n,by omega,by rw [HB.out.1,if_neg (by omega),if_neg (by omega),if_neg (by rw [hfb];exact HM.out.2),if_neg (by have:=HM.out.1;omega),hn],rfl⟩⟩
end
def ReadIn (P:Value→Nat→Col→World→Prop) (B:Prop) (c:Col) (w:World) (k p:Nat) (bs:List UInt8) (f:Int×Int) (r:Ending) (w':World):Prop:=
 ∃c' a',IsRd c' k w' p bs a' f∧Step (One k) c w c' w'∧Ok c' w'∧((∃v,r=.returned v∧P v a' c' w')∨(B∧∃e x,r=wrongP e x∧e≠0))
def ReadOut (P:Value→Nat→Col→World→Prop) (Z:Value→Prop) (B:Prop) (c:Col) (w:World) (k p:Nat) (bs:List UInt8) (f:Int) (r:Ending) (w':World):Prop:=
 ∃v,r=.returned v∧∃c' a' f',IsRd c' k w' p bs a' f'∧Step (One k) c w c' w'∧Ok c' w'∧((f'=(0,f)∧P v a' c' w')∨(f'.1≠0∧Z v∧B))
section
variable {c:Col}{w:World}
theorem readsI_idle (hok:Ok c w) {k p:Nat}{bs:List UInt8}{a:Nat}{e f:Int}(h:IsRd c k w p bs a (e,f)) (he:e≠0) (fv:Value) :
  Calls prog 96 #[.pointer (some ⟨p,0,none⟩),fv] w fun r w'=>r=.returned (.int .i64 0)∧w'=w:=by
 obtain ⟨bv,x,ow⟩:=h.row;have y2:=x.get (i:=2) rfl;have y4:=x.get (i:=4) rfl;have heb:(e != 0)=true:=by simpa using he
 clear h x ow hok he;go_enter_defers func96,ntmps96;go_wp2_with fail;exact ⟨_,results_tmp rfl _ _ _,rfl,rfl⟩
theorem readsI_any {k p:Nat}{bs:List UInt8}{a:Nat}{f:Int}(h:IsRd c k w p bs a (0,f)) (hk0:k≠0) {P:Value→Nat→Col→World→Prop}{B:Prop}
  (R:Calls prog 97 #[.pointer (some ⟨p,0,none⟩),.int .i64 a] w (ReadIn P B c w k p bs (0,f))) (hP:∀v a' c' w',P v a' c' w'→v.oneCell'=true) :
  Calls prog 96 #[.pointer (some ⟨p,0,none⟩),.func (.func 97) #[.pointer (some ⟨p,0,none⟩)] #[]] w (ReadOut P (·=.int .i64 0) B c w k p bs f):=by
 obtain ⟨bv,x,ow⟩:=h.row;have y1:=x.get (i:=1) rfl;have y2:=x.get (i:=2) rfl;have y4:=x.get (i:=4) rfl;clear h x ow;go_enter_defers func96,ntmps96;go_wp2_with fail;refine R.mono ?_;rintro e w1 ⟨c1,a1,i1,s1,o1,(⟨v,rfl,hv⟩ | ⟨hB,e,x,rfl,he⟩)⟩
 ·have X:=jh4 i1 s1 o1 hv
  clear R i1 s1 o1 hv y1 y2 y4;go_wp2_with fail;refine leaves_cons (f:=134) (args:=#[.pointer (some ⟨p,0,none⟩)]) (by simp) (by simp [go_sem]) ?_;refine (zbc p w1).mono ?_;rintro e u' w'' ⟨rfl,rfl,rfl⟩;obtain ⟨i1,s1,o1,hv⟩:=X.out;exact ⟨_,results_tmp rfl _ _ _,v,rfl,c1,a1,_,i1,s1,o1,.inl ⟨rfl,hv⟩⟩
 ·unfold wrongP
  have X:=jh5 i1 s1 o1 hB he;clear R i1 s1 o1 hB he y1 y2 y4;go_wp2_with fail;refine leaves_cons (f:=134) (args:=#[.pointer (some ⟨p,0,none⟩)]) (by simp) (by simp [go_sem]) ?_;refine (caught_wrong X.out.2.2.1 X.out.1 hk0 e x []).mono ?_;rintro r u' w'' ⟨rfl,rfl,i2,s2,o2⟩;obtain ⟨i1,s1,o1,hB,he⟩:=X.out;refine ⟨_,results_tmp rfl _ _ _,_,rfl,c1,a1,(e,x),i2,s1.trans s2,o2,.inr ⟨he,rfl,hB⟩⟩
theorem readsW_idle (hok:Ok c w) {k p:Nat}{bs:List UInt8}{a:Nat}{e f:Int}(h:IsRd c k w p bs a (e,f)) (he:e≠0) (fv:Value) :
  Calls prog 171 #[.pointer (some ⟨p,0,none⟩),fv] w fun r w'=>r=.returned (.int .u64 0)∧w'=w:=by
 obtain ⟨bv,x,ow⟩:=h.row;have y2:=x.get (i:=2) rfl;have y4:=x.get (i:=4) rfl;have heb:(e != 0)=true:=by simpa using he
 clear h x ow hok he;go_enter_defers func171,ntmps171;go_wp2_with fail;exact ⟨_,results_tmp rfl _ _ _,rfl,rfl⟩
theorem readsW_any {k p:Nat}{bs:List UInt8}{a:Nat}{f:Int}(h:IsRd c k w p bs a (0,f)) (hk0:k≠0) (b:Nat) {P:Value→Nat→Col→World→Prop}{B:Prop}
  (R:Calls prog 172 #[.int .i64 a,.pointer (some ⟨b,0,none⟩)] w (ReadIn P B c w k p bs (0,f))) (hP:∀v a' c' w',P v a' c' w'→v.oneCell'=true) :
  Calls prog 171 #[.pointer (some ⟨p,0,none⟩),.func (.func 172) #[] #[.pointer (some ⟨b,0,none⟩)]] w (ReadOut P (·=.int .u64 0) B c w k p bs f):=by
 obtain ⟨bv,x,ow⟩:=h.row;have y1:=x.get (i:=1) rfl;have y2:=x.get (i:=2) rfl;have y4:=x.get (i:=4) rfl;clear h x ow;go_enter_defers func171,ntmps171;go_wp2_with fail;refine R.mono ?_;rintro e w1 ⟨c1,a1,i1,s1,o1,(⟨v,rfl,hv⟩ | ⟨hB,e,x,rfl,he⟩)⟩
 ·have X:=jh4 i1 s1 o1 hv
  clear R i1 s1 o1 hv y1 y2 y4;go_wp2_with fail;refine leaves_cons (f:=134) (args:=#[.pointer (some ⟨p,0,none⟩)]) (by simp) (by simp [go_sem]) ?_;refine (zbc p w1).mono ?_;rintro e u' w'' ⟨rfl,rfl,rfl⟩;obtain ⟨i1,s1,o1,hv⟩:=X.out;exact ⟨_,results_tmp rfl _ _ _,v,rfl,c1,a1,_,i1,s1,o1,.inl ⟨rfl,hv⟩⟩
 ·unfold wrongP
  have X:=jh5 i1 s1 o1 hB he;clear R i1 s1 o1 hB he y1 y2 y4;go_wp2_with fail;refine leaves_cons (f:=134) (args:=#[.pointer (some ⟨p,0,none⟩)]) (by simp) (by simp [go_sem]) ?_;refine (caught_wrong X.out.2.2.1 X.out.1 hk0 e x []).mono ?_;rintro r u' w'' ⟨rfl,rfl,i2,s2,o2⟩;obtain ⟨i1,s1,o1,hB,he⟩:=X.out;refine ⟨_,results_tmp rfl _ _ _,_,rfl,c1,a1,(e,x),i2,s1.trans s2,o2,.inr ⟨he,rfl,hB⟩⟩
theorem readsB_idle (hok:Ok c w) {k p:Nat}{bs:List UInt8}{a:Nat}{e f:Int}(h:IsRd c k w p bs a (e,f)) (he:e≠0) (fv:Value) :
  Calls prog 99 #[.pointer (some ⟨p,0,none⟩),fv] w fun r w'=>r=.returned (.slice none 0 0)∧w'=w:=by
 obtain ⟨bv,x,ow⟩:=h.row;have y2:=x.get (i:=2) rfl;have y4:=x.get (i:=4) rfl;have heb:(e != 0)=true:=by simpa using he
 clear h x ow hok he;go_enter_defers func99,ntmps99;go_wp2_with fail;exact ⟨_,results_tmp rfl _ _ _,rfl,rfl⟩
theorem readsB_any {k p:Nat}{bs:List UInt8}{a:Nat}{f:Int}(h:IsRd c k w p bs a (0,f)) (hk0:k≠0) (b b2:Nat) {P:Value→Nat→Col→World→Prop}{B:Prop}
  (R:Calls prog 100 #[.int .i64 a,.pointer (some ⟨b,0,none⟩),.pointer (some ⟨b2,0,none⟩)] w (ReadIn P B c w k p bs (0,f))) (hP:∀v a' c' w',P v a' c' w'→v.oneCell'=true) :
  Calls prog 99 #[.pointer (some ⟨p,0,none⟩),.func (.func 100) #[] #[.pointer (some ⟨b,0,none⟩),.pointer (some ⟨b2,0,none⟩)]] w (ReadOut P (·=.slice none 0 0) B c w k p bs f):=by
 obtain ⟨bv,x,ow⟩:=h.row;have y1:=x.get (i:=1) rfl;have y2:=x.get (i:=2) rfl;have y4:=x.get (i:=4) rfl;clear h x ow;go_enter_defers func99,ntmps99;go_wp2_with fail;refine R.mono ?_;rintro e w1 ⟨c1,a1,i1,s1,o1,(⟨v,rfl,hv⟩ | ⟨hB,e,x,rfl,he⟩)⟩
 ·have X:=jh4 i1 s1 o1 hv
  clear R i1 s1 o1 hv y1 y2 y4;go_wp2_with fail;refine leaves_cons (f:=134) (args:=#[.pointer (some ⟨p,0,none⟩)]) (by simp) (by simp [go_sem]) ?_;refine (zbc p w1).mono ?_;rintro e u' w'' ⟨rfl,rfl,rfl⟩;obtain ⟨i1,s1,o1,hv⟩:=X.out;exact ⟨_,results_tmp rfl _ _ _,v,rfl,c1,a1,_,i1,s1,o1,.inl ⟨rfl,hv⟩⟩
 ·unfold wrongP
  have X:=jh5 i1 s1 o1 hB he;clear R i1 s1 o1 hB he y1 y2 y4;go_wp2_with fail;refine leaves_cons (f:=134) (args:=#[.pointer (some ⟨p,0,none⟩)]) (by simp) (by simp [go_sem]) ?_;refine (caught_wrong X.out.2.2.1 X.out.1 hk0 e x []).mono ?_;rintro r u' w'' ⟨rfl,rfl,i2,s2,o2⟩;obtain ⟨i1,s1,o1,hB,he⟩:=X.out;refine ⟨_,results_tmp rfl _ _ _,_,rfl,c1,a1,(e,x),i2,s1.trans s2,o2,.inr ⟨he,rfl,hB⟩⟩
end
section
variable {c:Col}{w:World}
theorem word1_any (hok:Ok c w) {k p b:Nat}{bs:List UInt8}{a:Nat}{f:Int×Int}(h:IsRd c k w p bs a f) (hk0:k≠0) (hn:a+8≤bs.length) (hc:w.cell? ⟨b,0,none⟩=some (.pointer (some ⟨p,0,none⟩))) (at0:Int) :
  Calls prog 172 #[.int .i64 at0,.pointer (some ⟨b,0,none⟩)] w fun r w'=>r=.returned (.int .u64 (bigN ((bs.drop a).take 8))) ∧
   ∃c',IsRd c' k w' p bs (a+8) f∧Step (One k) c w c' w'∧Ok c' w':=by
 have T:Calls prog 135 #[.pointer (some ⟨p,0,none⟩),.int .i64 8,.int .i64 at0,.func (.func 136) #[] #[]] w fun r w'=>r=.returned (.int .u64 (bigN ((bs.drop a).take 8)))∧IsRd c k w' p bs (a+8) f∧Step (One k) c w c w'∧Ok c w':=
  takeN_any hok h hk0 8 hn (by omega) at0
 obtain ⟨r,hr⟩:=jE (bigN ((bs.drop a).take 8));rw [hr] at T ⊢;clear h hok hn hr;go_enter func172,ntmps172;go_wp2_with fail;refine T.mono ?_;rintro e w1 ⟨rfl,i1,s1,o1⟩;have X:=jh3 i1 s1 o1;clear T i1 s1 o1;go_wp2;go_ret;exact ⟨rfl,c,X.out⟩
theorem bytes1_any (hok:Ok c w) {k p b b2:Nat}{bs:List UInt8}{a:Nat}{f:Int×Int}(h:IsRd c k w p bs a f) (hk0:k≠0) (x rest:List UInt8) (hx:x.length<1000000000) (hb:bs.drop a=zay x.length++(x++rest)) (most:Int) (hm:(x.length:Int)≤most)
  (hc:w.cell? ⟨b,0,none⟩=some (.pointer (some ⟨p,0,none⟩))) (hc2:w.cell? ⟨b2,0,none⟩=some (.int .i64 most)) (hb0:c b=0) (hb20:c b2=0) (hbl:b<w.heap.size) (hb2l:b2<w.heap.size) (at0:Int) :
  Calls prog 100 #[.int .i64 at0,.pointer (some ⟨b,0,none⟩),.pointer (some ⟨b2,0,none⟩)] w fun r w'=>∃v,r=.returned v ∧
   ∃c',Own zag 5 c' 0 0 w' v x∧IsRd c' k w' p bs (a+(zay x.length++x).length) f∧Step (One k) c w c' w'∧Ok c' w':=by
 have R:=rnum_any hok h hk0 x.length (by omega) hb at0;have hmx:max most 0=most:=by omega
 have hle:=h.le;have hd2:(bs.drop (a+(zay x.length).length)).take x.length=x:=by rw [←List.drop_drop,hb];simp
 have hl2:a+(zay x.length).length+x.length≤bs.length:=by
  have:=congrArg List.length hb;simp only [List.length_drop,List.length_append] at this;omega
 have hmd:decide ((x.length:Int)≤most)=true:=by simp;exact hm
 have H:=jh2 hd2 hl2;clear h hok hb hd2 hl2 hle;go_enter func100,ntmps100;go_wp2_with fail;refine R.mono ?_;rintro e w1 ⟨rfl,c1,i1,s1,o1⟩;have z1:=(s1.cell (o:=0) hbl (by rw [hb0];exact fun h=>hk0 h.symm)).trans hc;have z2:=(s1.cell (o:=0) hb2l (by rw [hb20];exact fun h=>hk0 h.symm)).trans hc2;have M:=zbF w1 4 at0;have T:=takeB_any o1 i1 hk0 x.length H.out.2 at0;rw [H.out.1] at T;have S1:=jh1 s1;clear R i1 s1 o1 hc hc2;go_wp2_with fail;refine M.mono ?_;rintro e w2 ⟨rfl,rfl⟩;go_wp2_with fail;refine T.mono ?_;rintro e w3 ⟨v,rfl,c3,p3,i3,s3,o3⟩;have X:=jh4 p3 i3 s3 o3;clear T M p3 i3 s3 o3 z1 z2;go_wp2;go_ret;obtain ⟨p3,i3,s3,o3⟩:=X.out;exact ⟨v,rfl,c3,p3,by rw [List.length_append,←Nat.add_assoc];exact i3,S1.out.trans s3,o3⟩
end
def IsWord (v:Value) (_:Nat) (_:Col) (_:World):Prop:=∃n:Nat,n<18446744073709551616∧v=.int .u64 n
def IsBytes (bs:List UInt8) (v:Value) (_:Nat) (c:Col) (w:World):Prop:=∃l,l.length≤bs.length∧Sl zag c 0 0 w v l
section
variable {c:Col}{w:World}
theorem word1X_any (hok:Ok c w) {k p b:Nat}{bs:List UInt8}{a:Nat}{f:Int×Int}(h:IsRd c k w p bs a f) (hk0:k≠0) (hc:w.cell? ⟨b,0,none⟩=some (.pointer (some ⟨p,0,none⟩))) (at0:Int) :
  Calls prog 172 #[.int .i64 at0,.pointer (some ⟨b,0,none⟩)] w (ReadIn IsWord True c w k p bs f):=by
 by_cases hn:a+8≤bs.length
 ·refine (word1_any hok h hk0 hn hc at0).mono ?_
  rintro r w' ⟨rfl,c',i,s,o⟩;exact ⟨c',_,i,s,o,.inl ⟨_,rfl,_,Nat.lt_of_lt_of_le (bigN_lt _) (Nat.le_trans (Nat.pow_le_pow_right (n:=256) (j:=8) (by decide) (by rw [List.length_take];omega)) (by decide)),rfl⟩⟩
 ·have T:=takeN_no hok h 8 (by omega) at0 (.func (.func 136) #[] #[])
  clear h hok hn;go_enter func172,ntmps172;go_wp2_with fail;refine T.mono ?_;rintro e w1 ⟨rfl,i1,s1,o1⟩;unfold wrongP;have Y:=jh3 i1 s1 o1;clear T i1 s1 o1;go_wp2_with fail;exact ⟨rfl,c,a,Y.out.1,Y.out.2.1.ofNo,Y.out.2.2,.inr ⟨trivial,6,at0,rfl,by decide⟩⟩
theorem bytes1X_any (hok:Ok c w) {k p b b2:Nat}{bs:List UInt8}{a:Nat}{f:Int×Int}(h:IsRd c k w p bs a f) (hk0:k≠0) (most:Int)
  (hc:w.cell? ⟨b,0,none⟩=some (.pointer (some ⟨p,0,none⟩))) (hc2:w.cell? ⟨b2,0,none⟩=some (.int .i64 most)) (hb0:c b=0) (hb20:c b2=0) (hbl:b<w.heap.size) (hb2l:b2<w.heap.size) (at0:Int) :
  Calls prog 100 #[.int .i64 at0,.pointer (some ⟨b,0,none⟩),.pointer (some ⟨b2,0,none⟩)] w (ReadIn (IsBytes bs) True c w k p bs f):=by
 have R:=rnumX_any hok h hk0 at0;clear h hok;go_enter func100,ntmps100;go_wp2_with fail;refine R.mono ?_;rintro e w1 ⟨c1,a1,i1,s1,o1,(⟨n,hn,-,rfl⟩ | ⟨-,e,x,rfl,he⟩)⟩;rotate_left
 ·unfold wrongP
  have Y:=jh4 i1 s1 o1 he;clear R i1 s1 o1 he;go_wp2_with fail;exact ⟨rfl,c1,a1,Y.out.1,Y.out.2.1,Y.out.2.2.1,.inr ⟨trivial,e,x,rfl,Y.out.2.2.2⟩⟩
 have z1:=(s1.cell (o:=0) hbl (by rw [hb0];exact fun h=>hk0 h.symm)).trans hc;have z2:=(s1.cell (o:=0) hb2l (by rw [hb20];exact fun h=>hk0 h.symm)).trans hc2;by_cases hm:(n:Int)≤max most 0;rotate_left
 ·have hd:decide ((n:Int)≤max most 0)=false:=decide_eq_false hm
  have M:=must_no w1 4 at0;have Y:=jh3 i1 s1 o1;clear R i1 s1 o1 hc hc2 hm;go_wp2_with fail;refine M.mono ?_;rintro e w2 ⟨rfl,rfl⟩;go_wp2_with fail;exact ⟨rfl,c1,a1,Y.out.1,Y.out.2.1,Y.out.2.2,.inr ⟨trivial,4,at0,rfl,by decide⟩⟩
 have hd:decide ((n:Int)≤max most 0)=true:=decide_eq_true hm;have M:=zbF w1 4 at0;by_cases hl:a1+n≤bs.length
 ·have T:=takeB_any o1 i1 hk0 n hl at0
  have S1:=jh1 s1;clear R i1 s1 o1 hc hc2 hm;go_wp2_with fail;refine M.mono ?_;rintro e w2 ⟨rfl,rfl⟩;go_wp2_with fail;refine T.mono ?_;rintro e w3 ⟨v,rfl,c3,p3,i3,s3,o3⟩;have X:=jh4 p3 i3 s3 o3;clear T M p3 i3 s3 o3 z1 z2;go_wp2;go_ret;obtain ⟨p3,i3,s3,o3⟩:=X.out;exact ⟨c3,_,i3,S1.out.trans s3,o3,.inl ⟨v,rfl,_,by rw [List.length_take,List.length_drop];omega,p3.sl⟩⟩
 ·have T:=takeB_no o1 i1 n (by omega) at0 (.func (.func 95) #[] #[])
  have S1:=jh1 s1;clear R i1 s1 o1 hc hc2 hm hl;go_wp2_with fail;refine M.mono ?_;rintro e w2 ⟨rfl,rfl⟩;go_wp2_with fail;refine T.mono ?_;rintro e w3 ⟨rfl,i3,s3,o3⟩;unfold wrongP;have Y:=jh3 i3 s3 o3;clear T M i3 s3 o3 z1 z2;go_wp2_with fail;exact ⟨rfl,c1,a1,Y.out.1,S1.out.trans Y.out.2.1.ofNo,Y.out.2.2,.inr ⟨trivial,6,at0,rfl,by decide⟩⟩
end
section
variable {c:Col}{w:World}
theorem readsWord (hok:Ok c w) {k p b:Nat}{bs:List UInt8}{a:Nat}{f:Int}(h:IsRd c k w p bs a (0,f)) (hk0:k≠0) (hn:a+8≤bs.length) (hc:w.cell? ⟨b,0,none⟩=some (.pointer (some ⟨p,0,none⟩))) :
  Calls prog 171 #[.pointer (some ⟨p,0,none⟩),.func (.func 172) #[] #[.pointer (some ⟨b,0,none⟩)]] w fun r w'=>r=.returned (.int .u64 (bigN ((bs.drop a).take 8)))∧∃c',IsRd c' k w' p bs (a+8) (0,f)∧Step (One k) c w c' w'∧Ok c' w':=by
 have R:=word1_any hok h hk0 hn hc a;obtain ⟨bv,x0,ow⟩:=h.row;have y1:=x0.get (i:=1) rfl;have y2:=x0.get (i:=2) rfl;have y4:=x0.get (i:=4) rfl;clear h x0 ow hok;go_enter_defers func171,ntmps171;go_wp2_with fail;refine R.mono ?_;rintro e w1 ⟨rfl,c1,X0⟩;have X:=jh1 X0;clear R X0;go_wp2_with fail;refine leaves_cons (f:=134) (args:=#[.pointer (some ⟨p,0,none⟩)]) (by simp) (by simp [go_sem]) ?_;refine (zbc p w1).mono ?_;rintro e u' w'' ⟨rfl,rfl,rfl⟩;exact ⟨_,results_tmp rfl _ _ _,rfl,c1,X.out⟩
theorem readsBytes (hok:Ok c w) {k p b b2:Nat}{bs:List UInt8}{a:Nat}{f:Int}(h:IsRd c k w p bs a (0,f)) (hk0:k≠0) (x rest:List UInt8) (hx:x.length<1000000000) (hb:bs.drop a=zay x.length++(x++rest)) (most:Int) (hm:(x.length:Int)≤most) (hc:w.cell? ⟨b,0,none⟩=some (.pointer (some ⟨p,0,none⟩))) (hc2:w.cell? ⟨b2,0,none⟩=some (.int .i64 most)) (hb0:c b=0) (hb20:c b2=0) (hbl:b<w.heap.size) (hb2l:b2<w.heap.size) :
  Calls prog 99 #[.pointer (some ⟨p,0,none⟩),.func (.func 100) #[] #[.pointer (some ⟨b,0,none⟩),.pointer (some ⟨b2,0,none⟩)]] w fun r w'=>∃v,r=.returned v∧∃c',Own zag 5 c' 0 0 w' v x∧IsRd c' k w' p bs (a+(zay x.length++x).length) (0,f)∧Step (One k) c w c' w'∧Ok c' w':=by
 have R:=bytes1_any hok h hk0 x rest hx hb most hm hc hc2 hb0 hb20 hbl hb2l a;obtain ⟨bv,x0,ow⟩:=h.row;have y1:=x0.get (i:=1) rfl;have y2:=x0.get (i:=2) rfl;have y4:=x0.get (i:=4) rfl;clear h x0 ow hok;go_enter_defers func99,ntmps99;go_wp2_with fail;refine R.mono ?_;rintro e w1 ⟨v,rfl,c1,X0⟩;have X:=jh1 X0;clear R X0;go_wp2_with fail;refine leaves_cons (f:=134) (args:=#[.pointer (some ⟨p,0,none⟩)]) (by simp) (by simp [go_sem]) ?_;refine (zbc p w1).mono ?_;rintro e u' w'' ⟨rfl,rfl,rfl⟩;exact ⟨_,results_tmp rfl _ _ _,v,rfl,c1,X.out⟩
theorem Word_any (hok:Ok c w) {k p:Nat}{bs:List UInt8}{a:Nat}{f:Int}(h:IsRd c k w p bs a (0,f)) (hk0:k≠0) (hn:a+8≤bs.length) :
  Calls prog 142 #[.pointer (some ⟨p,0,none⟩)] w fun r w'=>r=.returned (.int .u64 (bigN ((bs.drop a).take 8)))∧∃c',IsRd c' k w' p bs (a+8) (0,f)∧Step (One k) c w c' w'∧Ok c' w':=by
 have s1:Step No c w c (w.alloc (.cells #[.pointer (some ⟨p,0,none⟩)] 112)):=Step.refl.alloc _;have a1:=At.new0 hok [.pointer (some ⟨p,0,none⟩)] 112;have R:=readsWord (hok.alloc _) (h.kn s1) hk0 hn a1.c0;have hmf:∀(fn:Fn) (first cap:Array Value) (w:World),(Instr.makeFunc fn first cap).run prog w=.ok (.func fn first cap) w:=fun _ _ _ _=>rfl;have S:=jh1 s1;clear h hok s1 a1;go_enter func142,ntmps142;go_wp2_with fail;refine R.mono ?_;rintro e w1 ⟨rfl,c1,i1,s2,o1⟩;have HX:=jh3 i1 (S.out.ofNo.trans s2) o1;clear i1 s2 o1 R;go_wp2;go_ret;exact ⟨rfl,c1,HX.out⟩
theorem Bytes_any (hok:Ok c w) {k p:Nat}{bs:List UInt8}{a:Nat}{f:Int}(h:IsRd c k w p bs a (0,f)) (hk0:k≠0) (x rest:List UInt8) (hx:x.length<1000000000) (hb:bs.drop a=zay x.length++(x++rest)) (most:Int) (hm:(x.length:Int)≤most) :
  Calls prog 57 #[.pointer (some ⟨p,0,none⟩),.int .i64 most] w fun r w'=>∃v,r=.returned v∧∃c',Own zag 5 c' 0 0 w' v x∧IsRd c' k w' p bs (a+(zay x.length++x).length) (0,f)∧Step (One k) c w c' w'∧Ok c' w':=by
 have s1:Step No c w c (w.alloc (.cells #[.pointer (some ⟨p,0,none⟩)] 112)):=Step.refl.alloc _;have a1:=At.new0 hok [.pointer (some ⟨p,0,none⟩)] 112;have o1:=hok.alloc (.cells #[.pointer (some ⟨p,0,none⟩)] 112);have s2:Step No c (w.alloc (.cells #[.pointer (some ⟨p,0,none⟩)] 112)) c ((w.alloc (.cells #[.pointer (some ⟨p,0,none⟩)] 112)).alloc (.cells #[.int .i64 most] 3)):=Step.refl.alloc _;have a2:=At.new0 o1 [.int .i64 most] 3;have a12:=a1.keep s2 jI;have R:=readsBytes (o1.alloc _) ((h.kn s1).kn s2) hk0 x rest hx hb most hm a12.c0 a2.c0 a12.col a2.col a12.lt a2.lt;rw [World.size_alloc] at R;have hmf:∀(fn:Fn) (first cap:Array Value) (w:World),(Instr.makeFunc fn first cap).run prog w=.ok (.func fn first cap) w:=fun _ _ _ _=>rfl;have z1:=a12.c0;have S:=jh1 (s1.trans s2);clear h hok s1 a1 o1 s2 a2 a12;go_enter func57,ntmps57;go_wp2_with fail;refine R.mono ?_;rintro e w1 ⟨v,rfl,c1,p1,i1,s2,o1⟩;have HX:=jh4 p1 i1 (S.out.ofNo.trans s2) o1;clear p1 i1 s2 o1 R;go_wp2;go_ret;exact ⟨v,rfl,c1,HX.out⟩
theorem Text_any (hok:Ok c w) {k p:Nat}{bs:List UInt8}{a:Nat}{f:Int}(h:IsRd c k w p bs a (0,f)) (hk0:k≠0) (x rest:List UInt8) (hx:x.length<1000000000) (hb:bs.drop a=zay x.length++(x++rest)) (most:Int) (hm:(x.length:Int)≤most) :
  Calls prog 138 #[.pointer (some ⟨p,0,none⟩),.int .i64 most] w fun r w'=>r=.returned (.string ⟨x.toArray⟩)∧∃c',IsRd c' k w' p bs (a+(zay x.length++x).length) (0,f)∧Step (One k) c w c' w'∧Ok c' w':=by
 have R:=Bytes_any hok h hk0 x rest hx hb most hm;clear h hok;go_enter func138,ntmps138;go_wp2_with fail;refine R.mono ?_;rintro e w1 ⟨v,rfl,c1,p1,X⟩;have hcv:=conv_sl (P:=prog) p1.sl 26 9 5 underlying26 underlying5 underlying9;obtain ⟨va,vc,rfl,_⟩:=p1.sl.form;have HX:=jh1 X;clear X R p1;go_wp2;go_ret;exact ⟨rfl,c1,HX.out⟩
end
