/- ServerReplies, part 36: lemmas, each with its own conditions. -/
import Derived.Test.YtgcobbapaaihiaaGreatSz35
set_option linter.all false
set_option maxHeartbeats 12800000
set_option maxRecDepth 100000
open Go.Proofs.Tryz
namespace Go.Proofs.YtgcobbapaaihiaaGreat
open Go.RowKit
def NumQ (bs:List UInt8) (a:Nat) (c:Col) (w:World) (k p:Nat) (f:Int×Int) (r:Ending) (w':World):Prop:=
 ∃(n a':Nat) (f':Int×Int),r=.returned (.int .i64 n)∧∃c',IsR4 c' k w' p bs a' f'∧Step (One k) c w c' w'∧Ok c' w'∧n≤9223372036854775807 ∧
  ((f.1=0∧numR bs a=some (n,a')∧f'=f)∨(f'.1≠0∧n=0∧(f.1=0→numR bs a=none)∧(f.1≠0→f'=f)))
section
variable {c:Col}{w:World}
theorem num4 (hok:Ok c w) {k p:Nat}{bs:List UInt8}{a:Nat}{f:Int×Int}(h:IsR4 c k w p bs a f) (hk0:k≠0) :
  Calls prog 70 #[.pointer (some ⟨p,0,none⟩)] w (NumQ bs a c w k p f):=by
 have hle:=h.le;have hfew:=h.few;have y1:w.cell? ⟨p,1,none⟩=some (.int .i64 a):=by obtain ⟨_,_,ar,_⟩:=h.row;exact ar.get (i:=1) rfl
 have T1:=take4 hok h hk0 1 (by omega) a;rw [show ((1:Nat):Int)=1 from rfl] at T1;clear h hok;by_cases hno:f.1≠0∨bs.length<a+1
 ·obtain ⟨e1,e2,e3⟩:(zbv bs a f 1 a).1=[]∧(zbv bs a f 1 a).2.1=a∧(zbv bs a f 1 a).2.2.1≠0:=by
   unfold zbv;by_cases hf:f.1=0
   ·rw [if_neg (by omega),if_pos (by omega)];exact ⟨rfl,rfl,show (6:Int)≠0 by decide⟩
   ·rw [if_pos hf];exact ⟨rfl,rfl,hf⟩
  have e4:f.1≠0→(zbv bs a f 1 a).2.2=f:=fun hf=>by unfold zbv;rw [if_pos hf]
  obtain ⟨t,ht⟩:=jE (zbv bs a f 1 a);rw [ht] at e1 e2 e3 e4 T1;obtain ⟨l,a1,g1,g2⟩:=t;dsimp only at *;subst e1 e2;have hgn:(g1 != 0)=true:=by simpa using e3
  have HN:=jh1 (show (f.1=0→numR bs a1=none)∧g1≠0∧(f.1≠0→(g1,g2)=f) from ⟨fun hf=>by
   have:bs.drop a1=[]:=List.drop_eq_nil_of_le (by omega)
   unfold numR;rw [this],e3,e4⟩)
  clear hno ht e3 e4;go_enter func70,ntmps70;go_wp2_with fail;refine T1.mono ?_;rintro e w1 ⟨v1,rfl,c1,sl1,i1,s1,o1⟩;obtain ⟨va,vc,rfl,_⟩:=sl1.form;have y2:w1.cell? ⟨p,2,none⟩=some (.int .i64 g1):=by obtain ⟨_,_,ar,_⟩:=i1.row;exact ar.get (i:=2) rfl
  have X:=jh3 i1 s1 o1;clear T1 sl1 i1 s1 o1;go_wp2;go_ret;exact ⟨0,a1,(g1,g2),rfl,c1,X.out.1,X.out.2.1,X.out.2.2,by omega,.inr ⟨HN.out.2.1,rfl,HN.out.1,HN.out.2.2⟩⟩
 obtain ⟨f1,f2⟩:=f;obtain ⟨rfl,hal⟩:f1=0∧a+1≤bs.length:=⟨by have:¬f1≠0:=fun h=>hno (.inl h);omega,by have:¬bs.length<a+1:=fun h=>hno (.inr h);omega⟩
 obtain ⟨x,r,hd⟩:∃x r,bs.drop a=x::r:=by
  rcases hd:bs.drop a with _ | ⟨x,r⟩
  ·have:=congrArg List.length hd;rw [List.length_drop] at this;simp at this;omega
  ·exact ⟨x,r,rfl⟩
 have hlen:bs.length=a+1+r.length:=by have:=congrArg List.length hd;rw [List.length_drop] at this;simp at this;omega
 have hd2:∀n,(bs.drop (a+1)).take n=r.take n:=fun n=>by rw [←List.drop_drop,hd];rfl
 have hT1:zbv bs a (0,f2) 1 a=([x],a+1,(0,f2)):=by
  unfold zbv;rw [if_neg (by simp),if_neg (by omega),hd];rfl
 rw [hT1] at T1;have hN:numR bs a=if 8<x.toNat then none else if r.length<x.toNat then none else if firstB 1 (r.take x.toNat)=0 then none else if 9223372036854775807<bigN (r.take x.toNat) then none else some (bigN (r.take x.toNat),a+1+x.toNat):=by unfold numR;rw [hd]
 obtain ⟨m,hm⟩:=jE x.toNat;rw [hm] at hN;have hm256:m<256:=by rw [←hm];exact x.toNat_lt
 clear hno hT1 hd;by_cases h8:8<m
 ·have HN:=jh1 (show numR bs a=none by rw [hN,if_pos h8])
  have hdc:decide ((8:Int)<(m:Int))=true:=by simp;omega
  have HM:=jh1 hm;clear hN hd2 hlen h8 hm hle hfew hal;go_enter func70,ntmps70;go_wp2_with fail;refine T1.mono ?_;rintro e w1 ⟨v1,rfl,c1,sl1,i1,s1,o1⟩;obtain ⟨vb,vo,vc,rfl,_⟩:=sl1.ex (by simp)
  have z0:w1.cell? ⟨vb,vo,none⟩=some (.int .u8 m):=by
   obtain ⟨vs,rfl,hcs⟩:=sl1.at (j:=0) (x:=x) rfl;have:=hcs.get 0 rfl;rw [HM.out] at this;simpa [zag] using this
  have F:=fails4 o1 i1 hk0 5 a;have X:=jh1 s1;clear T1 sl1 i1 s1 o1 HM;go_wp2_with fail;refine F.mono ?_;rintro e w2 ⟨rfl,i2,s2,o2⟩;have y2:w2.cell? ⟨p,2,none⟩=some (.int .i64 5):=by obtain ⟨_,_,ar,_⟩:=i2.row;exact ar.get (i:=2) rfl
  have X2:=jh3 i2 (X.out.trans s2) o2;clear F i2 s2 o2 X;go_wp2;go_ret;exact ⟨0,a+1,(5,a),rfl,c1,X2.out.1,X2.out.2.1,X2.out.2.2,by omega,.inr ⟨(by decide:(5:Int)≠0),rfl,fun _=>HN.out,fun h=>absurd rfl h⟩⟩
 have hdc:decide ((8:Int)<(m:Int))=false:=by simp;omega
 have hwm:IntKind.i64.wrap (m:Int)=(m:Int):=IntWalk.i64_in _ (by omega);rw [if_neg h8] at hN
 obtain ⟨b,a2,g1,g2,hT2,hb8,hbn⟩:∃b a2 g1 g2,zbv bs (a+1) (0,f2) m a=(b,a2,(g1,g2))∧b.length≤8∧((g1≠0∧b=[]∧numR bs a=none)∨(g1=0∧g2=f2∧numR bs a=if firstB 1 b=0 then none else if 9223372036854775807<bigN b then none else some (bigN b,a2))):=by
  unfold zbv;rw [if_neg (by simp)];by_cases hr:r.length<m
  ·rw [if_pos (by omega)];exact ⟨_,_,_,_,rfl,by simp,.inl ⟨by decide,rfl,by rw [hN,if_pos hr]⟩⟩
  ·rw [if_neg (by omega)]
   exact ⟨_,_,_,_,rfl,by rw [List.length_take];omega,.inr ⟨rfl,rfl,by rw [hN,if_neg hr,hd2]⟩⟩
 clear hN hd2 hlen h8 hle hfew hal;have HM:=jh3 hm hT2 hbn;clear hm hT2 hbn;go_enter func70,ntmps70;go_wp2_with fail;refine T1.mono ?_;rintro e w1 ⟨v1,rfl,c1,sl1,i1,s1,o1⟩;obtain ⟨vb,vo,vc,rfl,_⟩:=sl1.ex (by simp)
 have z0:w1.cell? ⟨vb,vo,none⟩=some (.int .u8 m):=by
  obtain ⟨vs,rfl,hcs⟩:=sl1.at (j:=0) (x:=x) rfl;have:=hcs.get 0 rfl;rw [HM.out.1] at this;simpa [zag] using this
 have y2:w1.cell? ⟨p,2,none⟩=some (.int .i64 0):=by obtain ⟨_,_,ar,_⟩:=i1.row;exact ar.get (i:=2) rfl
 have T2:=take4 o1 i1 hk0 m (by omega) a;rw [HM.out.2.1] at T2;have X:=jh1 s1;clear T1 sl1 i1 s1 o1;go_wp2_with fail;refine T2.mono ?_;rintro e w2 ⟨v2,rfl,c2,sl2,i2,s2,o2⟩;have y2:w2.cell? ⟨p,2,none⟩=some (.int .i64 g1):=by obtain ⟨_,_,ar,_⟩:=i2.row;exact ar.get (i:=2) rfl
 have FL:=fails4 o2 i2 hk0 5 a;have X2:=jh3 i2 (X.out.trans s2) o2;clear T2 i2 s2 o2 X z0
 rcases b with _ | ⟨y,l⟩
 ·obtain ⟨va,vc2,rfl,_⟩:=sl2.form
  clear sl2 FL;have hsh:IntKind.u64.wrap ((0:Int) / 2 ^ 63)=0:=by decide
  by_cases hg:g1=0
  ·subst hg
   have HX:=jh1 (show g2=f2∧numR bs a=some (0,a2) by
    rcases HM.out.2.2 with ⟨h,_⟩ | ⟨_,h1,h2⟩
    ·exact absurd rfl h
    ·exact ⟨h1,by rw [h2];rfl⟩)
   clear HM;go_wp2_with fail;refine wp_loop_once ?_;go_wp2;go_ret;refine ⟨0,a2,(0,g2),rfl,c2,X2.out.1,X2.out.2.1,X2.out.2.2,by omega,.inl ⟨rfl,HX.out.2,by rw [HX.out.1]⟩⟩
  ·have hgn:(g1 != 0)=true:=by simpa using hg
   have HX:=jh1 (show g1≠0∧numR bs a=none by
    rcases HM.out.2.2 with ⟨_,_,h⟩ | ⟨h,_⟩
    ·exact ⟨hg,h⟩
    ·exact absurd h hg)
   clear HM hg;go_wp2_with fail;refine wp_loop_once ?_;go_wp2;go_ret;exact ⟨0,a2,(g1,g2),rfl,c2,X2.out.1,X2.out.2.1,X2.out.2.2,by omega,.inr ⟨HX.out.1,rfl,fun _=>HX.out.2,fun h=>absurd rfl h⟩⟩
 obtain rfl:g1=0:=by
  rcases HM.out.2.2 with ⟨_,h,_⟩ | ⟨h,_⟩
  ·cases h
  ·exact h
 have HX:=jh1 (show g2=f2∧numR bs a=if y=0 then none else if 9223372036854775807<bigN (y::l) then none else some (bigN (y::l),a2) by
  rcases HM.out.2.2 with ⟨h,_⟩ | ⟨_,h1,h2⟩
  ·exact absurd rfl h
  ·refine ⟨h1,?_⟩
   rw [h2]
   have:(firstB 1 (y::l)=0)↔y=0:=by
    simp only [firstB];constructor
    ·intro e;exact UInt8.toNat_inj.1 (by simpa using e)
    ·rintro rfl;rfl
   by_cases hy:y=0
   ·rw [if_pos (this.2 hy),if_pos hy]
   ·rw [if_neg (fun e=>hy (this.1 e)),if_neg hy])
 obtain ⟨bb,bo,bc,rfl,_⟩:=sl2.ex (by simp)
 have zb:w2.cell? ⟨bb,bo,none⟩=some (.int .u8 y.toNat):=by
  obtain ⟨vs,rfl,hcs⟩:=sl2.at (j:=0) (x:=y) rfl;have:=hcs.get 0 rfl;simpa [zag] using this
 have hlt64:bigN (y::l)<18446744073709551616:=Nat.lt_of_lt_of_le (bigN_lt _) (Nat.le_trans (Nat.pow_le_pow_right (n:=256) (j:=8) (by decide) hb8) (by decide));have hl0:(0:Int)<((y::l).length:Int):=by simp
 obtain ⟨L,hL⟩:=jE (y::l);rw [hL] at HX sl2 hlt64 hl0 hb8 ⊢;clear HM;go_wp2;go_loopw [6,7] (fun vn vi wr=>∃(j m:Nat),j≤L.length∧vi=.int .i64 j∧vn=.int .u64 m∧bigN (L.take j)=m∧w2=wr) (fun _ vi _=>L.length-(intOf vi).toNat)
 case atStart=>exact ⟨0,0,Nat.zero_le _,rfl,rfl,rfl,rfl⟩
 case round=>
  obtain ⟨j,m2,hj,rfl,rfl,hm2,rfl⟩:=hrel;by_cases hlt:j<L.length
  ·obtain ⟨x2,hx2⟩:∃x,L[j]? = some x:=⟨L[j],by simp [hlt]⟩
   obtain ⟨vs,rfl,hcs⟩:=sl2.at hx2;have y0:=hcs.get 0 rfl;simp only [zag,Nat.mul_one,Nat.add_zero] at y0;have hb:=bigN_lt (L.take j);have hj0:(0:Int)≤(j:Int):=by omega
   have hj1:(j:Int)<(L.length:Int):=by omega
   clear hcs FL;go_wp2;go_roundw
   case rel=>
    have h7:m2<72057594037927936:=by
     rw [List.length_take,Nat.min_eq_left hj] at hb;rw [←hm2];exact Nat.lt_of_lt_of_le hb (Nat.le_trans (Nat.pow_le_pow_right (n:=256) (j:=7) (by decide) (by omega)) (by decide))
    exact ⟨j+1,m2*256+x2.toNat,by omega,by go_num,by rw [or_byte _ _ h7],by rw [List.take_add_one,hx2];simp only [Option.toList_some];rw [bigN_app,hm2],trivial⟩
   case measure=>simp [intOf];omega
  ·have hjl:j=L.length:=by omega
   subst hjl;rw [List.take_length] at hm2;rw [hm2] at HX hlt64;clear sl2 hm2;have E1:∀{e:Ending} {w':World},(e=.returned (.tuple #[])∧IsR4 c2 k w' p bs a2 (failF (0,g2) 5 a)∧Step (One k) c2 w2 c2 w'∧Ok c2 w')→w'.cell? ⟨p,2,none⟩=some (.int .i64 5):=fun h=>by obtain ⟨_,_,ar,_⟩:=h.2.1.row;exact ar.get (i:=2) rfl
   by_cases hy:y=0
   ·have hy0:y.toNat=0:=by rw [hy];rfl
    rw [hy0] at zb;have HN:=jh1 (show numR bs a=none by rw [HX.out.2,if_pos hy]);clear HX hy hy0;go_wp2_with fail;refine FL.mono ?_;rintro e w3 h3;have y3:=E1 h3;obtain ⟨rfl,h3⟩:=h3;have H3:=jh1 h3;clear FL E1 h3;go_wp2;go_ret;exact ⟨0,a2,(5,a),rfl,c2,H3.out.1,X2.out.2.1.trans H3.out.2.1,H3.out.2.2,by omega,.inr ⟨show (5:Int)≠0 by decide,rfl,fun _=>HN.out,fun h=>absurd rfl h⟩⟩
   ·have hyn:((y.toNat:Int)==0)=false:=by
     have:y.toNat≠0:=fun e=>hy (UInt8.toNat_inj.1 (by simpa using e));simpa using this
    rw [if_neg hy] at HX;by_cases h63:9223372036854775807<m2
    ·have HN:=jh1 (show numR bs a=none by rw [HX.out.2,if_pos h63])
     have hsh:((m2:Int) / 9223372036854775808==1)=true:=by rw [show (m2:Int) / 9223372036854775808=1 by omega];rfl
     clear HX hy h63;go_wp2_with fail;refine FL.mono ?_;rintro e w3 h3;have y3:=E1 h3;obtain ⟨rfl,h3⟩:=h3;have H3:=jh1 h3;clear FL E1 h3;go_wp2;go_ret;exact ⟨0,a2,(5,a),rfl,c2,H3.out.1,X2.out.2.1.trans H3.out.2.1,H3.out.2.2,by omega,.inr ⟨show (5:Int)≠0 by decide,rfl,fun _=>HN.out,fun h=>absurd rfl h⟩⟩
    ·have HN:=jh1 (show numR bs a=some (m2,a2)∧g2=f2∧m2≤9223372036854775807 by rw [HX.out.2,if_neg h63];exact ⟨rfl,HX.out.1,by omega⟩)
     have hsh:((m2:Int) / 9223372036854775808==1)=false:=by rw [show (m2:Int) / 9223372036854775808=0 by omega];rfl
     have hwm2:wrap64 (m2:Int)=(m2:Int):=IntWalk.wrap64_in _ (by omega);clear HX hy h63 FL E1;go_wp2;go_ret;refine ⟨m2,a2,(0,g2),(show Ending.returned (.int .i64 (wrap64 (m2:Int)))=_ by rw [hwm2]),c2,X2.out.1,X2.out.2.1,X2.out.2.2,HN.out.2.2,.inl ⟨rfl,HN.out.1,by rw [HN.out.2.1]⟩⟩
end
section
variable {c:Col}{w:World}
theorem rest4 (hok:Ok c w) {k p:Nat}{bs:List UInt8}{a:Nat}{f:Int×Int}(h:IsR4 c k w p bs a f) :
  Calls prog 148 #[.pointer (some ⟨p,0,none⟩)] w fun r w'=>∃x:Int,r=.returned (.int .i64 x)∧Step No c w c w'∧Ok c w':=by
 obtain ⟨g,cap,x,ow,_⟩:=h.row;have hle:=h.le;have hfew:=h.few;have y0:=x.get (i:=0) rfl;have y1:=x.get (i:=1) rfl;have y2:=x.get (i:=2) rfl;have hw:IntKind.i64.wrap ((bs.length:Int)-(a:Int))=(bs.length:Int)-(a:Int):=IntWalk.i64_in _ (by omega);have H:=jh1 hok;clear h x ow hok;by_cases hf:f.1=0
 ·rw [hf] at y2
  go_enter func148,ntmps148;go_wp2_with fail;go_quiet (fail);go_wp2;go_ret;exact ⟨_,rfl,Step.rf.drewN _,H.out.drewN _⟩
 ·have hf1:(f.1==0)=false:=beq_eq_false_iff_ne.2 hf
  have hf2:(f.1 != 0)=true:=by rw [bne_iff_ne];exact hf
  go_enter func148,ntmps148;go_wp2;go_ret;exact ⟨_,rfl,Step.rf,H.out⟩
theorem end4 (hok:Ok c w) {k p:Nat}{bs:List UInt8}{a:Nat}{f:Int×Int}(h:IsR4 c k w p bs a f) :
  Calls prog 76 #[.pointer (some ⟨p,0,none⟩)] w fun r w'=>r=.returned (.agg #[.int .i64 (endF bs a f).1,.int .i64 (endF bs a f).2])∧∃c',Step No c w c' w'∧Ok c' w':=by
 obtain ⟨g,cap,x,ow,_⟩:=h.row;have hle:=h.le;have hfew:=h.few;obtain ⟨f1,f2⟩:=f;have hE:=jh1 (show endF bs a (f1,f2)=if f1=0∧a<bs.length then (4,(a:Int)) else (f1,f2) from rfl);obtain ⟨q,hq,hqc⟩:=hok.spare 0;have hq0:q≠0:=by omega
 obtain ⟨a0,o0,s0⟩:=zan hok [.int .i64 0,.int .i64 0] 74 q;have HH:=jh3 a0 o0 s0;have x':=x.keep s0 jI;have y0:=x'.get (i:=0) rfl;have y1:=x'.get (i:=1) rfl;have y2:=x'.get (i:=2) rfl;have y3:=x'.get (i:=3) rfl;have hxb:p≠w.heap.size:=by have:=x.lt;omega
 have z0:=a0.get (i:=0) rfl;have z1:=a0.get (i:=1) rfl;have zf0:=a0.fz o0 hq0 0;have zf1:=a0.fz o0 hq0 1;clear h x x' ow hok hqc a0 o0 s0
 have fin:∀n e1 e2,True∧At (c.put w.heap.size q) ((((w.alloc (.cells #[.int .i64 0,.int .i64 0] 74)).drewN n).setCell ⟨w.heap.size,0,none⟩ (.int .i64 e1)).setCell ⟨w.heap.size,1,none⟩ (.int .i64 e2)) w.heap.size q [.int .i64 e1,.int .i64 e2] ∧
   Step No c w (c.put w.heap.size q) ((((w.alloc (.cells #[.int .i64 0,.int .i64 0] 74)).drewN n).setCell ⟨w.heap.size,0,none⟩ (.int .i64 e1)).setCell ⟨w.heap.size,1,none⟩ (.int .i64 e2)) ∧
   Ok (c.put w.heap.size q) ((((w.alloc (.cells #[.int .i64 0,.int .i64 0] 74)).drewN n).setCell ⟨w.heap.size,0,none⟩ (.int .i64 e1)).setCell ⟨w.heap.size,1,none⟩ (.int .i64 e2)):=fun n e1 e2=>by
  obtain ⟨a0,o0,s0⟩:=HH.out;have b0:=a0.keep (Step.rf.drewN n) jI;have b1:=b0.setN (i:=0) (by simp) (.int .i64 e1);have b2:=b1.setN (i:=1) (by simp) (.int .i64 e2);exact ⟨trivial,b2,((s0.drewN n).setCell (a:=⟨w.heap.size,0,none⟩) (.inl (Nat.le_refl _)) _).setCell (a:=⟨w.heap.size,1,none⟩) (.inl (Nat.le_refl _)) _,((o0.drewN n).setCell _ _).setCell _ _⟩
 have FIN:=jh1 fin;have hi2:Hid ((prog.info? 74).map (·.size)=some 2):=jh1 zao;clear fin;by_cases hf:f1=0
 ·subst hf
  by_cases hlt:a<bs.length
  ·have hlt':(a:Int)<(bs.length:Int):=by omega
   go_enter func76,ntmps76;go_wp2_with fail;go_quiet (fail);go_wp2_with fail;rw [hE.out,if_pos ⟨by first | rfl | trivial,hlt⟩];refine bodyPost_ret (zad rfl _ _ w.heap.size 0 _ _ rfl (FIN.out _ _ _).2.1.cells underlying74 rfl hi2.out) rfl ⟨rfl,_,(FIN.out _ _ _).2.2⟩
  ·have hlt':¬(a:Int)<(bs.length:Int):=by omega
   go_enter func76,ntmps76;go_wp2_with fail;go_quiet (fail);go_wp2_with fail;rw [hE.out,if_neg (fun h=>hlt h.2)];refine bodyPost_ret (zad rfl _ _ w.heap.size 0 _ _ rfl (FIN.out _ _ _).2.1.cells underlying74 rfl hi2.out) rfl ⟨rfl,_,(FIN.out _ _ _).2.2⟩
 ·have hf1:(f1==0)=false:=beq_eq_false_iff_ne.2 hf
  go_enter func76,ntmps76;go_wp2_with fail;go_quiet (fail);go_wp2_with fail;rw [hE.out,if_neg (fun h=>hf h.1)];refine bodyPost_ret (zad rfl _ _ w.heap.size 0 _ _ rfl (FIN.out _ _ _).2.1.cells underlying74 rfl hi2.out) rfl ⟨rfl,_,(FIN.out _ _ _).2.2⟩
theorem takeL_len (bs:List UInt8) (a:Nat) (f:Int×Int) (n:Nat) (x:Int):(zbv bs a f n x).1.length≤bs.length:=by
 unfold zbv
 split
 ·simp
 ·split
  ·simp
  ·simp only [List.length_take,List.length_drop];omega
theorem bytes4 (hok:Ok c w) {k p:Nat}{bs:List UInt8}{a:Nat}{f:Int×Int}(h:IsR4 c k w p bs a f) (hk0:k≠0) (most:Int) (hm:0≤most) :
  Calls prog 75 #[.pointer (some ⟨p,0,none⟩),.int .i64 most] w fun r w'=>∃v l a' f',r=.returned v∧∃c',Sl zag c' 0 0 w' v l∧l.length≤bs.length∧IsR4 c' k w' p bs a' f'∧Step (One k) c w c' w'∧Ok c' w':=by
 have y1:w.cell? ⟨p,1,none⟩=some (.int .i64 a):=by obtain ⟨_,_,ar,_⟩:=h.row;exact ar.get (i:=1) rfl
 have N:=num4 hok h hk0;unfold NumQ at N;have hmx:max most 0=most:=by omega
 clear h hok;go_enter func75,ntmps75;go_wp2_with fail;refine N.mono ?_;rintro e w1 ⟨n,a1,f1,rfl,c1,i1,s1,o1,hn,_⟩;by_cases hlt:most<(n:Int)
 ·have FL:=fails4 o1 i1 hk0 4 a
  have S:=jh1 s1;clear N i1 s1 o1;go_wp2_with fail;refine FL.mono ?_;rintro e w2 ⟨rfl,i2,s2,o2⟩;have T:=take4 o2 i2 hk0 n hn a;have S2:=jh1 (S.out.trans s2);clear FL i2 s2 o2 S;go_wp2_with fail;refine T.mono ?_;rintro e w3 ⟨v,rfl,c3,sl3,i3,s3,o3⟩;obtain ⟨va,vc,rfl,_⟩:=sl3.form;have S3:=jh4 sl3 i3 (S2.out.trans s3) o3;clear T sl3 i3 s3 o3 S2;go_wp2;go_ret;exact ⟨_,_,_,_,rfl,c3,S3.out.1,takeL_len _ _ _ _ _,S3.out.2⟩
 ·have T:=take4 o1 i1 hk0 n hn a
  have S2:=jh1 s1;clear N i1 s1 o1;go_wp2_with fail;refine T.mono ?_;rintro e w3 ⟨v,rfl,c3,sl3,i3,s3,o3⟩;obtain ⟨va,vc,rfl,_⟩:=sl3.form;have S3:=jh4 sl3 i3 (S2.out.trans s3) o3;clear T sl3 i3 s3 o3 S2;go_wp2;go_ret;exact ⟨_,_,_,_,rfl,c3,S3.out.1,takeL_len _ _ _ _ _,S3.out.2⟩
theorem text4 (hok:Ok c w) {k p:Nat}{bs:List UInt8}{a:Nat}{f:Int×Int}(h:IsR4 c k w p bs a f) (hk0:k≠0) (most:Int) (hm:0≤most) :
  Calls prog 178 #[.pointer (some ⟨p,0,none⟩),.int .i64 most] w fun r w'=>∃(l:List UInt8) (a':Nat) (f':Int×Int),r=.returned (.string ⟨l.toArray⟩)∧∃c',l.length≤bs.length∧IsR4 c' k w' p bs a' f'∧Step (One k) c w c' w'∧Ok c' w':=by
 have B:=bytes4 hok h hk0 most hm;clear h hok;go_enter func178,ntmps178;go_wp2_with fail;refine B.mono ?_;rintro e w1 ⟨v,l,a1,f1,rfl,c1,sl1,hl,i1,s1,o1⟩;have e1:=conv_sl sl1 26 9 5 underlying26 underlying5 underlying9;obtain ⟨va,vc,rfl,_⟩:=sl1.form;have S:=jh4 hl i1 s1 o1;clear B sl1 hl i1 s1 o1;go_wp2;go_ret;exact ⟨l,a1,f1,rfl,c1,S.out⟩
end
def ReadQ (P:Value→Prop) (c:Col) (w:World) (k p:Nat) (bs:List UInt8) (r:Ending) (w':World):Prop:=
 ∃v,r=.returned v∧∃c' a' f',IsR4 c' k w' p bs a' f'∧Step (One k) c w c' w'∧Ok c' w'∧P v
theorem zero_hashQ:zaE prog 51 (bC (List.replicate 32 0)):=by unfold zaE;kernel_rfl
theorem zero_keyQ:zaE prog 91 (bC (List.replicate 4 0)):=by unfold zaE;kernel_rfl
section
variable {c:Col}{w:World}
theorem hash4 (hok:Ok c w) {k p:Nat}{bs:List UInt8}{a:Nat}{f:Int×Int}(h:IsR4 c k w p bs a f) (hk0:k≠0) :
  Calls prog 147 #[.pointer (some ⟨p,0,none⟩)] w (ReadQ (fun v=>∃l:List UInt8,l.length=32∧v=.agg (bC l).toArray) c w k p bs):=by
 obtain ⟨q,hq,hqc⟩:=hok.top k;have hq0:q≠0:=by omega
 obtain ⟨Z,hZ⟩:=jE (bC (List.replicate 32 0));have zH:=zero_hashQ;obtain ⟨a2,o2,s2⟩:=zan hok Z 51 q;obtain ⟨a3,o3,s3⟩:=zan o2 Z 51 (q+1);rw [World.size_alloc] at a3 o3 s3;obtain ⟨b2,hb2⟩:=jE w.heap.size;have hb2':w.heap.size≤b2:=by omega
 rw [hb2] at a2 o2 s2 a3 o3 s3;rw [hZ] at zH;obtain ⟨W3,hW3⟩:=jE ((w.alloc (.cells Z.toArray 51)).alloc (.cells Z.toArray 51));rw [hW3] at a3 o3 s3;have h3:=h.kn (s2.trans s3);have y1:W3.cell? ⟨p,1,none⟩=some (.int .i64 a):=by obtain ⟨_,_,ar,_⟩:=h3.row;exact ar.get (i:=1) rfl
 have T:=take4 o3 h3 hk0 32 (by omega) a;rw [show ((32:Nat):Int)=32 from rfl] at T
 have hlen:(zbv bs a f 32 a).1.length≤32:=by
  unfold zbv
  split
  ·simp
  ·split
   ·simp
   ·simp only [List.length_take];omega
 have X:=jh6 (a2.kn s3) a3 (s2.trans s3) hqc hZ hb2';have HZ:=jh1 zH;clear h hok a2 o2 s2 a3 o3 s3 h3 hqc hZ zH;go_enter func147,ntmps147;go_wp2_with (first | (refine zaa rfl (some 2) rfl 51 rfl HZ.out ?_) | (refine zaa rfl (some 3) rfl 51 rfl HZ.out ?_))
 (try simp only [World.size_alloc])
 (try rw [hb2])
 (try rw [hW3])
 refine T.mono ?_;rintro e w4 ⟨v4,rfl,c4,sl4,i4,s4,o4⟩;obtain ⟨L,hL⟩:=jE ((zbv bs a f 32 a).1);rw [hL] at sl4 hlen;obtain ⟨xa2,xa3,xs,xqc,hZ,hbw⟩:=X.out;have x2:=xa2.keep s4 (show ¬q=k by omega);have x3:=xa3.keep s4 (show ¬q+1=k by omega);rw [←hZ] at x2 x3;have x4:=jh5 x2 i4 (xs.ofNo.trans s4) xqc hbw;clear T y1 xa2 xa3 xs xqc hZ i4 s4 X hL x2
 have FIN:Hid (∀(w5:World) (l:List UInt8),l.length=32→At c4 w5 (b2+1) (q+1) (bC l)→Step (One (q+1)) c4 w4 c4 w5→Ok c4 w5 →
   (bC l).toArray.all (·.oneCell')=true∧w5.there b2 0 (bC l).toArray.size∧(prog.info? 51).map (·.size)=some (bC l).toArray.size∧zas (w5.setCells b2 0 (bC l)) b2 0 (bC l)∧(prog.info? 51).map (·.size)=some (bC l).length ∧
   (∃a' f',IsR4 c4 k (w5.setCells b2 0 (bC l)) p bs a' f')∧Step (One k) c w c4 (w5.setCells b2 0 (bC l))∧Ok c4 (w5.setCells b2 0 (bC l))):=jh1 fun w5 l hl a5 s5 o5=>by
  obtain ⟨x2,i4,xs,xqc,hbw⟩:=x4.out;have x5:=x2.keep s5 (show ¬q=q+1 by omega);have i5:=i4.keep s5 (show ¬k=q+1 by omega) (show ¬0=q+1 by omega);have hi0:(prog.info? 51).map (·.size)=some (bC l).length:=by rw [zai,zaf,hl]
  have hi1:(prog.info? 51).map (·.size)=some (bC l).toArray.size:=by rw [zai];simp [zaf,hl]
  obtain ⟨_,a6⟩:=x5.st o5 hq0 (ty:=51) (us:=bC l) (by simp [zaf,hl]) hi0 (zaD l);have s6:Step (One q) c4 w5 c4 (w5.setCells b2 0 (bC l)):=Step.setCells (.inr x5.col) _ _ _ Step.refl;have sA:Step (fun j=>j=k∨q≤j) c w c4 (w5.setCells b2 0 (bC l)):=((xs.mono fun j (e:j=k)=>.inl e).trans (s5.mono fun j (e:j=q+1)=>by omega)).trans (s6.mono fun j (e:j=q)=>by omega);refine ⟨all_oneCell_toArray (zaD l),x5.there o5 hq0 (by simp [zaf,hl]),hi1,a6.cells,hi0,⟨_,_,i5.keep s6 (show ¬k=q by omega) (show ¬0=q by omega)⟩,sA.drop fun b _ e=>?_,Ok.setCells _ _ _ o5⟩
  rcases e with e | e
  ·exact e
  ·have:=xqc b;omega
 rcases L with _ | ⟨y,L⟩
 ·obtain ⟨va,vc,rfl,_⟩:=sl4.form
  have F:=jh1 (FIN.out w4 _ (by simp) x3 Step.refl o4);have yl:=jh1 x3.cells;obtain ⟨B,hB⟩:=jE (bC (List.replicate 32 0));rw [hB] at F yl;have HB:=jh1 hB;clear sl4 FIN x3 x4 o4 hB;go_wp2_with fail;refine wp_loop_once ?_;go_wp2_with (first | (refine wpList_load_mid rfl 51 _ rfl (b2+1) 0 rfl B _ yl.out underlying51 rfl F.out.2.2.2.2.1 ?_) | (refine wpList_store_mid rfl 51 _ _ rfl b2 0 B.toArray rfl rfl F.out.2.1 F.out.2.2.1 F.out.1 ?_));obtain ⟨_,_,_,f4,f5,⟨a',f',f6⟩,f7,f8⟩:=F.out;refine bodyPost_ret (zad rfl _ _ b2 0 B _ rfl f4 underlying51 rfl f5) rfl ⟨_,rfl,c4,a',f',f6,f7,f8,List.replicate 32 0,by simp,by rw [HB.out]⟩
 obtain ⟨vb,vo,vc,rfl,hbb⟩:=sl4.ex (by simp);obtain ⟨L2,hL2⟩:=jE (y::L);rw [hL2] at hlen sl4 hbb ⊢;clear hL2;go_wp2;go_loopw [5] (fun vi wr=>∃(j:Nat) (l:List UInt8),j≤L2.length∧vi=.int .i64 j∧l.length=32∧At c4 wr (b2+1) (q+1) (bC l)∧Step (One (q+1)) c4 w4 c4 wr∧Ok c4 wr) (fun vi _=>L2.length-(intOf vi).toNat)
 case atStart=>exact ⟨0,_,Nat.zero_le _,rfl,by simp,x3,Step.refl,o4⟩
 case round=>
  obtain ⟨j,l,hj,rfl,hl,a5,s5,o5⟩:=hrel;by_cases hlt:j<L2.length
  ·obtain ⟨x,hx⟩:∃x,L2[j]? = some x:=⟨L2[j],by simp [hlt]⟩
   obtain ⟨vs,rfl,hcs⟩:=(sl4.keep s5 (show ¬0=q+1 by omega) (show ¬0=q+1 by omega)).at hx;have y0:=hcs.get 0 rfl;simp only [zag,Nat.mul_one,Nat.add_zero] at y0;have hj0:(0:Int)≤(j:Int):=by omega
   have hj1:(j:Int)<(L2.length:Int):=by omega
   have hj2:(j:Int)<32:=by omega
   obtain ⟨u,hu⟩:∃u,(bC l)[j]? = some u:=⟨(bC l)[j]'(by rw [zaf];omega),by simp⟩;have z0:=a5.get hu;have zf:=a5.fz o5 (jz _) j;have a6:=a5.setN (i:=j) (by rw [zaf];omega) (.int .u8 x.toNat);rw [bC_set] at a6;have s6:=s5.setCell (a:=⟨b2+1,j,none⟩) (.inr a5.col) (.int .u8 x.toNat);have o6:=o5.setCell ⟨b2+1,j,none⟩ (.int .u8 x.toNat);have Y:=jh3 a6 s6 o6;clear hcs sl4 FIN x4 x3 o4 a5 s5 o5 a6 s6 o6 hu hbb;go_wp2_with fail;refine ⟨⟨j+1,l.set j x,by omega,by go_num,by simpa using hl,Y.out⟩,by simp [intOf];omega⟩
  ·have F:=jh1 (FIN.out _ l hl a5 s5 o5)
   have yl:=jh1 a5.cells;obtain ⟨B,hB⟩:=jE (bC l);rw [hB] at F yl;have HB:=jh2 hB hl;clear sl4 FIN x3 x4 o4 hB a5 s5 o5 hbb hl;go_wp2_with (first | (refine wpList_load_mid rfl 51 _ rfl (b2+1) 0 rfl B _ yl.out underlying51 rfl F.out.2.2.2.2.1 ?_) | (refine wpList_store_mid rfl 51 _ _ rfl b2 0 B.toArray rfl rfl F.out.2.1 F.out.2.2.1 F.out.1 ?_));obtain ⟨_,_,_,f4,f5,⟨a',f',f6⟩,f7,f8⟩:=F.out;refine bodyPost_ret (zad rfl _ _ b2 0 B _ rfl f4 underlying51 rfl f5) rfl ⟨_,rfl,c4,a',f',f6,f7,f8,l,HB.out.2,by rw [HB.out.1]⟩
theorem key4 (hok:Ok c w) {k p:Nat}{bs:List UInt8}{a:Nat}{f:Int×Int}(h:IsR4 c k w p bs a f) (hk0:k≠0) :
  Calls prog 151 #[.pointer (some ⟨p,0,none⟩)] w (ReadQ (fun v=>∃l:List UInt8,l.length=4∧v=.agg (bC l).toArray) c w k p bs):=by
 obtain ⟨q,hq,hqc⟩:=hok.top k;have hq0:q≠0:=by omega
 obtain ⟨Z,hZ⟩:=jE (bC (List.replicate 4 0));have zH:=zero_keyQ;obtain ⟨a2,o2,s2⟩:=zan hok Z 91 q;obtain ⟨a3,o3,s3⟩:=zan o2 Z 91 (q+1);rw [World.size_alloc] at a3 o3 s3;obtain ⟨b2,hb2⟩:=jE w.heap.size;have hb2':w.heap.size≤b2:=by omega
 rw [hb2] at a2 o2 s2 a3 o3 s3;rw [hZ] at zH;obtain ⟨W3,hW3⟩:=jE ((w.alloc (.cells Z.toArray 91)).alloc (.cells Z.toArray 91));rw [hW3] at a3 o3 s3;have h3:=h.kn (s2.trans s3);have y1:W3.cell? ⟨p,1,none⟩=some (.int .i64 a):=by obtain ⟨_,_,ar,_⟩:=h3.row;exact ar.get (i:=1) rfl
 have T:=take4 o3 h3 hk0 4 (by omega) a;rw [show ((4:Nat):Int)=4 from rfl] at T
 have hlen:(zbv bs a f 4 a).1.length≤4:=by
  unfold zbv
  split
  ·simp
  ·split
   ·simp
   ·simp only [List.length_take];omega
 have X:=jh6 (a2.kn s3) a3 (s2.trans s3) hqc hZ hb2';have HZ:=jh1 zH;clear h hok a2 o2 s2 a3 o3 s3 h3 hqc hZ zH;go_enter func151,ntmps151;go_wp2_with (first | (refine zaa rfl (some 2) rfl 91 rfl HZ.out ?_) | (refine zaa rfl (some 3) rfl 91 rfl HZ.out ?_))
 (try simp only [World.size_alloc])
 (try rw [hb2])
 (try rw [hW3])
 refine T.mono ?_;rintro e w4 ⟨v4,rfl,c4,sl4,i4,s4,o4⟩;obtain ⟨L,hL⟩:=jE ((zbv bs a f 4 a).1);rw [hL] at sl4 hlen;obtain ⟨xa2,xa3,xs,xqc,hZ,hbw⟩:=X.out;have x2:=xa2.keep s4 (show ¬q=k by omega);have x3:=xa3.keep s4 (show ¬q+1=k by omega);rw [←hZ] at x2 x3;have x4:=jh5 x2 i4 (xs.ofNo.trans s4) xqc hbw;clear T y1 xa2 xa3 xs xqc hZ i4 s4 X hL x2
 have FIN:Hid (∀(w5:World) (l:List UInt8),l.length=4→At c4 w5 (b2+1) (q+1) (bC l)→Step (One (q+1)) c4 w4 c4 w5→Ok c4 w5 →
   (bC l).toArray.all (·.oneCell')=true∧w5.there b2 0 (bC l).toArray.size∧(prog.info? 91).map (·.size)=some (bC l).toArray.size∧zas (w5.setCells b2 0 (bC l)) b2 0 (bC l)∧(prog.info? 91).map (·.size)=some (bC l).length ∧
   (∃a' f',IsR4 c4 k (w5.setCells b2 0 (bC l)) p bs a' f')∧Step (One k) c w c4 (w5.setCells b2 0 (bC l))∧Ok c4 (w5.setCells b2 0 (bC l))):=jh1 fun w5 l hl a5 s5 o5=>by
  obtain ⟨x2,i4,xs,xqc,hbw⟩:=x4.out;have x5:=x2.keep s5 (show ¬q=q+1 by omega);have i5:=i4.keep s5 (show ¬k=q+1 by omega) (show ¬0=q+1 by omega);have hi0:(prog.info? 91).map (·.size)=some (bC l).length:=by rw [zaK,zaf,hl]
  have hi1:(prog.info? 91).map (·.size)=some (bC l).toArray.size:=by rw [zaK];simp [zaf,hl]
  obtain ⟨_,a6⟩:=x5.st o5 hq0 (ty:=91) (us:=bC l) (by simp [zaf,hl]) hi0 (zaD l);have s6:Step (One q) c4 w5 c4 (w5.setCells b2 0 (bC l)):=Step.setCells (.inr x5.col) _ _ _ Step.refl;have sA:Step (fun j=>j=k∨q≤j) c w c4 (w5.setCells b2 0 (bC l)):=((xs.mono fun j (e:j=k)=>.inl e).trans (s5.mono fun j (e:j=q+1)=>by omega)).trans (s6.mono fun j (e:j=q)=>by omega);refine ⟨all_oneCell_toArray (zaD l),x5.there o5 hq0 (by simp [zaf,hl]),hi1,a6.cells,hi0,⟨_,_,i5.keep s6 (show ¬k=q by omega) (show ¬0=q by omega)⟩,sA.drop fun b _ e=>?_,Ok.setCells _ _ _ o5⟩
  rcases e with e | e
  ·exact e
  ·have:=xqc b;omega
 rcases L with _ | ⟨y,L⟩
 ·obtain ⟨va,vc,rfl,_⟩:=sl4.form
  have F:=jh1 (FIN.out w4 _ (by simp) x3 Step.refl o4);have yl:=jh1 x3.cells;obtain ⟨B,hB⟩:=jE (bC (List.replicate 4 0));rw [hB] at F yl;have HB:=jh1 hB;clear sl4 FIN x3 x4 o4 hB;go_wp2_with fail;refine wp_loop_once ?_;go_wp2_with (first | (refine wpList_load_mid rfl 91 _ rfl (b2+1) 0 rfl B _ yl.out underlying91 rfl F.out.2.2.2.2.1 ?_) | (refine wpList_store_mid rfl 91 _ _ rfl b2 0 B.toArray rfl rfl F.out.2.1 F.out.2.2.1 F.out.1 ?_));obtain ⟨_,_,_,f4,f5,⟨a',f',f6⟩,f7,f8⟩:=F.out;refine bodyPost_ret (zad rfl _ _ b2 0 B _ rfl f4 underlying91 rfl f5) rfl ⟨_,rfl,c4,a',f',f6,f7,f8,List.replicate 4 0,by simp,by rw [HB.out]⟩
 obtain ⟨vb,vo,vc,rfl,hbb⟩:=sl4.ex (by simp);obtain ⟨L2,hL2⟩:=jE (y::L);rw [hL2] at hlen sl4 hbb ⊢;clear hL2;go_wp2;go_loopw [5] (fun vi wr=>∃(j:Nat) (l:List UInt8),j≤L2.length∧vi=.int .i64 j∧l.length=4∧At c4 wr (b2+1) (q+1) (bC l)∧Step (One (q+1)) c4 w4 c4 wr∧Ok c4 wr) (fun vi _=>L2.length-(intOf vi).toNat)
 case atStart=>exact ⟨0,_,Nat.zero_le _,rfl,by simp,x3,Step.refl,o4⟩
 case round=>
  obtain ⟨j,l,hj,rfl,hl,a5,s5,o5⟩:=hrel;by_cases hlt:j<L2.length
  ·obtain ⟨x,hx⟩:∃x,L2[j]? = some x:=⟨L2[j],by simp [hlt]⟩
   obtain ⟨vs,rfl,hcs⟩:=(sl4.keep s5 (show ¬0=q+1 by omega) (show ¬0=q+1 by omega)).at hx;have y0:=hcs.get 0 rfl;simp only [zag,Nat.mul_one,Nat.add_zero] at y0;have hj0:(0:Int)≤(j:Int):=by omega
   have hj1:(j:Int)<(L2.length:Int):=by omega
   have hj2:(j:Int)<4:=by omega
   obtain ⟨u,hu⟩:∃u,(bC l)[j]? = some u:=⟨(bC l)[j]'(by rw [zaf];omega),by simp⟩;have z0:=a5.get hu;have zf:=a5.fz o5 (jz _) j;have a6:=a5.setN (i:=j) (by rw [zaf];omega) (.int .u8 x.toNat);rw [bC_set] at a6;have s6:=s5.setCell (a:=⟨b2+1,j,none⟩) (.inr a5.col) (.int .u8 x.toNat);have o6:=o5.setCell ⟨b2+1,j,none⟩ (.int .u8 x.toNat);have Y:=jh3 a6 s6 o6;clear hcs sl4 FIN x4 x3 o4 a5 s5 o5 a6 s6 o6 hu hbb;go_wp2_with fail;refine ⟨⟨j+1,l.set j x,by omega,by go_num,by simpa using hl,Y.out⟩,by simp [intOf];omega⟩
  ·have F:=jh1 (FIN.out _ l hl a5 s5 o5)
   have yl:=jh1 a5.cells;obtain ⟨B,hB⟩:=jE (bC l);rw [hB] at F yl;have HB:=jh2 hB hl;clear sl4 FIN x3 x4 o4 hB a5 s5 o5 hbb hl;go_wp2_with (first | (refine wpList_load_mid rfl 91 _ rfl (b2+1) 0 rfl B _ yl.out underlying91 rfl F.out.2.2.2.2.1 ?_) | (refine wpList_store_mid rfl 91 _ _ rfl b2 0 B.toArray rfl rfl F.out.2.1 F.out.2.2.1 F.out.1 ?_));obtain ⟨_,_,_,f4,f5,⟨a',f',f6⟩,f7,f8⟩:=F.out;refine bodyPost_ret (zad rfl _ _ b2 0 B _ rfl f4 underlying91 rfl f5) rfl ⟨_,rfl,c4,a',f',f6,f7,f8,l,HB.out.2,by rw [HB.out.1]⟩
theorem word4 (hok:Ok c w) {k p:Nat}{bs:List UInt8}{a:Nat}{f:Int×Int}(h:IsR4 c k w p bs a f) (hk0:k≠0) :
  Calls prog 149 #[.pointer (some ⟨p,0,none⟩)] w (ReadQ (fun v=>∃n:Nat,n<18446744073709551616∧v=.int .u64 n) c w k p bs):=by
 have y1:w.cell? ⟨p,1,none⟩=some (.int .i64 a):=by obtain ⟨_,_,ar,_⟩:=h.row;exact ar.get (i:=1) rfl
 have T:=take4 hok h hk0 8 (by omega) a;rw [show ((8:Nat):Int)=8 from rfl] at T
 have hlen:(zbv bs a f 8 a).1.length≤8:=by
  unfold zbv
  split
  ·simp
  ·split
   ·simp
   ·simp only [List.length_take];omega
 clear h hok;go_enter func149,ntmps149;go_wp2_with fail;refine T.mono ?_;rintro e w2 ⟨v4,rfl,c4,sl2,i4,s4,o4⟩;obtain ⟨L,hL⟩:=jE ((zbv bs a f 8 a).1);rw [hL] at sl2 hlen;have X:=jh3 i4 s4 o4;clear T y1 i4 s4 o4 hL
 rcases L with _ | ⟨y,L⟩
 ·obtain ⟨va,vc,rfl,_⟩:=sl2.form
  clear sl2;go_wp2_with fail;refine wp_loop_once ?_;go_wp2;go_ret;exact ⟨_,rfl,c4,_,_,X.out.1,X.out.2.1,X.out.2.2,0,by omega,rfl⟩
 obtain ⟨bb,bo,bc,rfl,_⟩:=sl2.ex (by simp);obtain ⟨L2,hL2⟩:=jE (y::L);rw [hL2] at sl2 hlen ⊢;clear hL2;go_wp2;go_loopw [3,5] (fun vn vi wr=>∃(j m:Nat),j≤L2.length∧vi=.int .i64 j∧vn=.int .u64 m∧bigN (L2.take j)=m∧w2=wr) (fun _ vi _=>L2.length-(intOf vi).toNat)
 case atStart=>exact ⟨0,0,Nat.zero_le _,rfl,rfl,rfl,rfl⟩
 case round=>
  obtain ⟨j,m2,hj,rfl,rfl,hm2,rfl⟩:=hrel;by_cases hlt:j<L2.length
  ·obtain ⟨x2,hx2⟩:∃x,L2[j]? = some x:=⟨L2[j],by simp [hlt]⟩
   obtain ⟨vs,rfl,hcs⟩:=sl2.at hx2;have y0:=hcs.get 0 rfl;simp only [zag,Nat.mul_one,Nat.add_zero] at y0;have hb:=bigN_lt (L2.take j);have hj0:(0:Int)≤(j:Int):=by omega
   have hj1:(j:Int)<(L2.length:Int):=by omega
   clear hcs;go_wp2;go_roundw
   case rel=>
    have h7:m2<72057594037927936:=by
     rw [List.length_take,Nat.min_eq_left hj] at hb;rw [←hm2];exact Nat.lt_of_lt_of_le hb (Nat.le_trans (Nat.pow_le_pow_right (n:=256) (j:=7) (by decide) (by omega)) (by decide))
    exact ⟨j+1,m2*256+x2.toNat,by omega,by go_num,by rw [or_byte _ _ h7],by rw [List.take_add_one,hx2];simp only [Option.toList_some];rw [bigN_app,hm2],trivial⟩
   case measure=>simp [intOf];omega
  ·have hjl:j=L2.length:=by omega
   subst hjl;rw [List.take_length] at hm2;have hlt64:m2<18446744073709551616:=by rw [←hm2];exact Nat.lt_of_lt_of_le (bigN_lt _) (Nat.le_trans (Nat.pow_le_pow_right (n:=256) (j:=8) (by decide) hlen) (by decide))
   clear sl2 hm2;go_wp2;go_ret;exact ⟨_,rfl,c4,_,_,X.out.1,X.out.2.1,X.out.2.2,m2,hlt64,rfl⟩
end
