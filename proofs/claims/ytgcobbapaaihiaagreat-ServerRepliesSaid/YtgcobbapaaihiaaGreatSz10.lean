/- ServerReplies, part 10: lemmas, each with its own conditions. -/
import Derived.Test.YtgcobbapaaihiaaGreatSz09
set_option linter.all false
set_option maxHeartbeats 12800000
set_option maxRecDepth 100000
open Go.Proofs.Tryz
namespace Go.Proofs.YtgcobbapaaihiaaGreat
open Go.RowKit
structure Srv where
 chain:List Blo
 other:List Blo
 moods:List Int
 delay:Int
 slow:Int
structure Srv.At (s:Srv) (c:Col) (k:Nat) (w:World) (vc vo vm:Value):Prop where
 chain:Sl TBlo c k k w vc s.chain
 other:Sl TBlo c k k w vo s.other
 moods:Sl (TInt .i64) c k k w vm s.moods
 nchain:s.chain.length≤1000000000
 nother:s.other.length≤1000000000
 nmoods:s.moods.length≤1000000000
 delay:IntKind.i64.has s.delay
 slow:IntKind.i64.has s.slow
theorem Srv.At.keep {s:Srv}{K:Nat→Prop}{c c':Col}{k:Nat}{w w':World}{vc vo vm:Value}(h:s.At c k w vc vo vm) (hs:Step K c w c' w') (hk:¬K k):s.At c' k w' vc vo vm:=
 ⟨h.chain.keep hs hk hk,h.other.keep hs hk hk,h.moods.keep hs hk hk,h.nchain,h.nother,h.nmoods,h.delay,h.slow⟩
theorem Srv.At.kn {s:Srv}{c c':Col}{k:Nat}{w w':World}{vc vo vm:Value}(h:s.At c k w vc vo vm) (hs:Step No c w c' w'):s.At c' k w' vc vo vm:=h.keep hs jI
def badW (x:Int):Bool:=decide (x<0)||decide (1048576<x)
def badM (x:Int):Bool:=decide (x≤0)||decide (10≤x)
def zbs (s:Srv):Int:=if 64<s.moods.length then 4 else if badW s.delay=true then 3 else if badW s.slow=true then 3 else if s.moods.any badM=true then 3 else 0
theorem intI:(prog.info? 3).map (·.size)=some 1:=by kernel_rfl
theorem index2 (a b:Int) (W:World) :
  (Instr.index 84 (.agg #[.int .i64 a,.int .i64 b]) (.int .i64 0)).run prog W=.ok (.int .i64 a) W ∧
  (Instr.index 84 (.agg #[.int .i64 a,.int .i64 b]) (.int .i64 1)).run prog W=.ok (.int .i64 b) W:=by
 have hs:(sizeOf 3).run prog W=.ok 1 W:=by
  cases hq:prog.info? 3 with
  | none=>have:=intI;rw [hq] at this;cases this
  | some i=>
   have:i.size=1:=by have:=intI;rw [hq] at this;simpa using this
   simp [sizeOf,typeInfo,hq,this]
 have hu:=run_underlying underlying84 W;have hu2:=run_underlying underlying3 W;refine ⟨?_,?_⟩ <;> simp [Instr.index,asIntOf,hu,hu2,part,isAgg,hs,Value.cells]
section
variable {c:Col}{w:World}
theorem scheck_any (hok:Ok c w) {s:Srv}{k:Nat}{vc vo vm:Value}(hs:s.At c k w vc vo vm) :
  Calls prog 13 #[.agg #[vc,vo,vm,.int .i64 s.delay,.int .i64 s.slow]] w fun r w'=>r=.returned (.int .i64 (zbs s))∧∃c',Step No c w c' w'∧Ok c' w':=by
 obtain ⟨vca,vcc,rfl,_⟩:=hs.chain.form;obtain ⟨voa,voc,rfl,_⟩:=hs.other.form;obtain ⟨vma,vmc,rfl,_⟩:=hs.moods.form;have s0:Step No c w c (w.alloc (.cells #[.slice vca s.chain.length vcc,.slice voa s.other.length voc,.slice vma s.moods.length vmc,.int .i64 s.delay,.int .i64 s.slow] 25)):=Step.refl.alloc _;have o0:=hok.alloc (.cells #[.slice vca s.chain.length vcc,.slice voa s.other.length voc,.slice vma s.moods.length vmc,.int .i64 s.delay,.int .i64 s.slow] 25);have sm:=hs.moods.kn s0;obtain ⟨ch,ot,l,D,S⟩:=s;dsimp only at *;obtain ⟨cl,hcl⟩:=jE ch.length;obtain ⟨ol,hol⟩:=jE ot.length;rw [hcl,hol] at s0 o0 sm ⊢;have HS:=jh4 sm s0 o0 hs.nmoods;clear sm s0 o0 hs hok;by_cases h64:64<l.length
 ·have hc:zbs ⟨ch,ot,l,D,S⟩=4:=by unfold zbs;rw [if_pos h64]
  rw [hc];have h64':(64:Int)<(l.length:Int):=by omega
  clear hc hcl hol;go_enter func13,ntmps13;go_wp2;go_ret;exact ⟨rfl,c,HS.out.2.1,HS.out.2.2.1⟩
 have h64':¬(64:Int)<(l.length:Int):=by omega
 have hlen:l.length≤64:=by omega
 by_cases hd:badW D=true
 ·have hc:zbs ⟨ch,ot,l,D,S⟩=3:=by unfold zbs;rw [if_neg h64,if_pos hd]
  rw [hc];have hix:=fun W=>(index2 D S W).1;simp only [badW,Bool.or_eq_true,decide_eq_true_eq] at hd;clear hc hcl hol
  rcases (by omega:D<0∨(¬D<0∧1048576<D)) with h1 | ⟨h1,h2⟩
  ·go_enter func13,ntmps13
   go_wp2_with fail;refine wp_loop_once ?_;go_wp2;go_ret;exact ⟨rfl,c,HS.out.2.1,HS.out.2.2.1⟩
  ·go_enter func13,ntmps13
   go_wp2_with fail;refine wp_loop_once ?_;go_wp2;go_ret;exact ⟨rfl,c,HS.out.2.1,HS.out.2.2.1⟩
 have hd0:¬D<0∧¬1048576<D:=by simp only [badW,Bool.or_eq_true,decide_eq_true_eq,not_or] at hd;exact hd
 obtain ⟨hd1,hd2⟩:=hd0;have hix0:=fun W=>(index2 D S W).1;have hix1:=fun W=>(index2 D S W).2;obtain ⟨W0,hW0⟩:=jE (w.alloc (.cells #[.slice vca cl vcc,.slice voa ol voc,.slice vma l.length vmc,.int .i64 D,.int .i64 S] 25));have y2:W0.cell? ⟨w.heap.size,2,none⟩=some (.slice vma l.length vmc):=by rw [←hW0];exact (At.new0 (c:=fun _=>0) (Ok.zero w) [.slice vca cl vcc,.slice voa ol voc,.slice vma l.length vmc,.int .i64 D,.int .i64 S] 25).get (i:=2) rfl
 rw [hW0] at HS;have hE:zbs ⟨ch,ot,l,D,S⟩=if badW S=true then 3 else if l.any badM=true then 3 else 0:=by unfold zbs;rw [if_neg h64,if_neg hd]
 have HE:=jh1 hE;obtain ⟨bx,hbx⟩:=jE w.heap.size;have y3:W0.cell? ⟨w.heap.size,3,none⟩=some (.int .i64 D):=by rw [←hW0];exact (At.new0 (c:=fun _=>0) (Ok.zero w) [.slice vca cl vcc,.slice voa ol voc,.slice vma l.length vmc,.int .i64 D,.int .i64 S] 25).get (i:=3) rfl
 have y4:W0.cell? ⟨w.heap.size,4,none⟩=some (.int .i64 S):=by rw [←hW0];exact (At.new0 (c:=fun _=>0) (Ok.zero w) [.slice vca cl vcc,.slice voa ol voc,.slice vma l.length vmc,.int .i64 D,.int .i64 S] 25).get (i:=4) rfl
 rw [hbx] at y2 y3 y4;obtain ⟨R,hR⟩:=jE (zbs ⟨ch,ot,l,D,S⟩);rw [hR] at HE ⊢;clear hd hE hR hcl hol h64;go_enter func13,ntmps13;go_wp2_with fail
 (try rw [hW0])
 (try rw [hbx])
 clear hW0;go_loopw [16] (fun vi wr=>∃i:Nat,i≤2∧vi=.int .i64 i∧W0=wr∧(2≤i→badW S=false)) (fun vi _=>2-(intOf vi).toNat)
 case atStart=>exact ⟨0,by omega,rfl,rfl,by omega⟩
 case round=>
  obtain ⟨i,hi,rfl,rfl,hSi⟩:=hrel
  rcases (by omega:i=0∨i=1∨i=2) with rfl | rfl | rfl
  ·clear hSi
   go_wp2;go_roundw
   case rel=>first | exact ⟨1,by omega,by first | rfl | go_num,rfl,by omega⟩ | exact ⟨1,by omega,by first | rfl | go_num,trivial,by omega⟩
   case measure=>simp [intOf]
  ·clear hSi
   by_cases hs1:S<0
   ·have hb:badW S=true:=by simp [badW,hs1]
    have HR:=jh1 (show R=3 by have:=HE.out;rw [if_pos hb] at this;exact this);clear hb;go_wp2;go_ret;exact ⟨by rw [HR.out];rfl,c,HS.out.2.1,HS.out.2.2.1⟩
   ·by_cases hs2:1048576<S
    ·have hb:badW S=true:=by simp [badW,hs2]
     have HR:=jh1 (show R=3 by have:=HE.out;rw [if_pos hb] at this;exact this);clear hb;go_wp2;go_ret;exact ⟨by rw [HR.out];rfl,c,HS.out.2.1,HS.out.2.2.1⟩
    ·have HB:=jh1 (show badW S=false by simp [badW];omega)
     go_wp2;go_roundw
     case rel=>first | exact ⟨2,by omega,by first | rfl | go_num,rfl,fun _=>HB.out⟩ | exact ⟨2,by omega,by first | rfl | go_num,trivial,fun _=>HB.out⟩
     case measure=>simp [intOf]
  ·have HB:=jh1 (hSi (by omega))
   clear hSi;go_wp2;go_loopw [29] (fun vi wr=>∃i:Nat,i≤l.length∧vi=.int .i64 i∧W0=wr∧l.any badM=(l.drop i).any badM) (fun vi _=>l.length-(intOf vi).toNat)
   case atStart=>exact ⟨0,by omega,rfl,rfl,by rw [List.drop_zero]⟩
   case round=>
    obtain ⟨i,hi,rfl,rfl,hany⟩:=hrel;by_cases hlt:i<l.length
    ·obtain ⟨m,hm⟩:∃m,l[i]? = some m:=⟨l[i],by simp [hlt]⟩
     have hdr:l.drop i=m::l.drop (i+1):=by rw [List.drop_eq_getElem_cons hlt];rw [List.getElem?_eq_getElem hlt] at hm;injection hm with hm;rw [hm]
     obtain ⟨g,off,cap,e,hcap,hcm⟩:=HS.out.1.some (by omega);injection e with e1 _ e2;subst e1 e2;obtain ⟨vs,⟨rfl,hmh⟩,hcs⟩:=HS.out.1.at hm;have ym:=hcs.get 0 rfl;simp only [TInt,Nat.mul_one,Nat.add_zero] at ym;have hlt':(i:Int)<(l.length:Int):=by omega
     have hi64:(i:Int)<64:=by omega
     have HA:=jh1 (show l.any badM=(badM m||(l.drop (i+1)).any badM) by rw [hany,hdr,List.any_cons]);clear hcs hany hdr hm hmh;by_cases hm0:m≤0
     ·have hb:badM m=true:=by simp [badM,hm0]
      have HR:=jh1 (show R=3 by have:=HE.out;rw [HB.out,HA.out,hb] at this;simpa using this);clear hb;go_wp2;go_ret;exact ⟨by rw [HR.out];rfl,c,HS.out.2.1,HS.out.2.2.1⟩
     ·by_cases hm10:10≤m
      ·have hb:badM m=true:=by simp [badM,hm10]
       have HR:=jh1 (show R=3 by have:=HE.out;rw [HB.out,HA.out,hb] at this;simpa using this);clear hb;go_wp2;go_ret;exact ⟨by rw [HR.out];rfl,c,HS.out.2.1,HS.out.2.2.1⟩
      ·have HM:=jh1 (show badM m=false by simp [badM];omega)
       go_wp2;go_roundw
       case rel=>first | exact ⟨i+1,by omega,by go_num,rfl,by have:=HA.out;rw [HM.out,Bool.false_or] at this;exact this⟩ | exact ⟨i+1,by omega,by go_num,trivial,by have:=HA.out;rw [HM.out,Bool.false_or] at this;exact this⟩
       case measure=>simp [intOf];omega
    ·have hil:i=l.length:=by omega
     subst hil;rw [List.drop_length] at hany;have HR:=jh1 (show R=0 by have:=HE.out;rw [HB.out,hany] at this;simpa using this);clear hany;go_wp2;go_ret;exact ⟨by rw [HR.out];rfl,c,HS.out.2.1,HS.out.2.2.1⟩
end
def moodS (s:Srv) (nth:Int):Int:=if zbs s≠0∨nth<0 then 0 else if s.moods.length=0 then 1 else s.moods.getD (nth % s.moods.length).toNat 0
section
variable {c:Col}{w:World}
theorem mood_any (hok:Ok c w) {s:Srv}{k:Nat}{vc vo vm:Value}(hs:s.At c k w vc vo vm) (nth:Int) :
  Calls prog 15 #[.agg #[vc,vo,vm,.int .i64 s.delay,.int .i64 s.slow],.int .i64 nth] w fun r w'=>r=.returned (.int .i64 (moodS s nth))∧∃c',Step No c w c' w'∧Ok c' w':=by
 obtain ⟨vca,vcc,rfl,_⟩:=hs.chain.form;obtain ⟨voa,voc,rfl,_⟩:=hs.other.form;obtain ⟨vma,vmc,rfl,_⟩:=hs.moods.form;have a0:=At.new0 hok [.slice vca s.chain.length vcc,.slice voa s.other.length voc,.slice vma s.moods.length vmc,.int .i64 s.delay,.int .i64 s.slow] 25;have s0:Step No c w c (w.alloc (.cells #[.slice vca s.chain.length vcc,.slice voa s.other.length voc,.slice vma s.moods.length vmc,.int .i64 s.delay,.int .i64 s.slow] 25)):=Step.refl.alloc _;have o0:=hok.alloc (.cells #[.slice vca s.chain.length vcc,.slice voa s.other.length voc,.slice vma s.moods.length vmc,.int .i64 s.delay,.int .i64 s.slow] 25);have CK:=scheck_any o0 (hs.kn s0);have hnm:=hs.nmoods;have HS:=jh3 (hs.moods.kn s0) s0 a0;obtain ⟨l,hl⟩:=jE s.moods;obtain ⟨bx,hbx⟩:=jE w.heap.size;rw [hl] at HS CK hnm ⊢;rw [hbx] at HS;obtain ⟨W0,hW0⟩:=jE (w.alloc (.cells #[.slice vca s.chain.length vcc,.slice voa s.other.length voc,.slice vma l.length vmc,.int .i64 s.delay,.int .i64 s.slow] 25));rw [hW0] at HS CK;obtain ⟨R,hR⟩:=jE (moodS s nth);obtain ⟨E,hE⟩:=jE (zbs s);have HR:=jh1 (show R=if E≠0∨nth<0 then 0 else if l.length=0 then 1 else l.getD (nth % l.length).toNat 0 by rw [←hR,moodS,hE,hl]);rw [hR];rw [hE] at CK;obtain ⟨cl,hcl⟩:=jE s.chain.length;obtain ⟨ol,hol⟩:=jE s.other.length;obtain ⟨D,hD⟩:=jE s.delay;obtain ⟨S,hS⟩:=jE s.slow;rw [hcl,hol,hD,hS] at HS CK hW0 ⊢;have y0:=HS.out.2.2.get (i:=0) rfl;have y1:=HS.out.2.2.get (i:=1) rfl;have y2:=HS.out.2.2.get (i:=2) rfl;have y3:=HS.out.2.2.get (i:=3) rfl;have y4:=HS.out.2.2.get (i:=4) rfl;clear a0 s0 o0 hs hok hl hR hE hcl hol hD hS;by_cases hE0:E=0
 ·subst hE0
  by_cases hn:nth<0
  ·have HR2:=jh1 (show R=0 by have:=HR.out;rw [if_pos (.inr hn)] at this;exact this)
   go_enter func15,ntmps15;go_wp2_with fail
   (try rw [hW0])
   refine CK.mono ?_;rintro e w1 ⟨rfl,c1,s1,o1⟩;have X:=jh2 (HS.out.2.1.trans s1) o1;clear CK s1 o1;go_wp2;go_ret;exact ⟨by rw [HR2.out];rfl,c1,X.out⟩
  ·by_cases hl0:l.length=0
   ·have HR2:=jh1 (show R=1 by have:=HR.out;rw [if_neg (by simp;omega),if_pos hl0] at this;exact this)
    have HL0:=jh1 hl0;clear hl0;go_enter func15,ntmps15;go_wp2_with fail
    (try rw [hW0])
    refine CK.mono ?_;rintro e w1 ⟨rfl,c1,s1,o1⟩;have z2:=(HS.out.2.2.keep s1 jI).get (i:=2) rfl;have X:=jh2 (HS.out.2.1.trans s1) o1;have hl0':(l.length:Int)=0:=by have:=HL0.out;omega
    clear CK s1 o1;go_wp2;go_ret;exact ⟨by rw [HR2.out];rfl,c1,X.out⟩
   ·obtain ⟨j,hj⟩:=jE ((nth % (l.length:Int)).toNat)
    have hmod:=Int.emod_nonneg nth (show (l.length:Int)≠0 by omega);have hmod2:=Int.emod_lt_of_pos nth (show (0:Int)<(l.length:Int) by omega);have hjl:j<l.length:=by omega
    have hje:Int.tmod nth (l.length:Int)=(j:Int):=by rw [Int.tmod_eq_emod_of_nonneg (by omega)];omega
    obtain ⟨m,hm⟩:∃m,l[j]? = some m:=⟨l[j],by simp [hjl]⟩;have HR2:=jh1 (show R=m by have:=HR.out;rw [if_neg (by simp;omega),if_neg hl0,hj,List.getD,hm] at this;exact this);obtain ⟨g,off,cap,e,hcap,hcm⟩:=HS.out.1.some (by omega);injection e with e1 _ e2;subst e1 e2;have hl0':¬(l.length:Int)=0:=by omega
    have hj0:(0:Int)≤(j:Int):=by omega
    have hj1:(j:Int)<(l.length:Int):=by omega
    clear hj hmod hmod2;go_enter func15,ntmps15;go_wp2_with fail
    (try rw [hW0])
    refine CK.mono ?_;rintro e w1 ⟨rfl,c1,s1,o1⟩;have z2:=(HS.out.2.2.keep s1 jI).get (i:=2) rfl;obtain ⟨vs,⟨rfl,hmh⟩,hcs⟩:=(HS.out.1.kn s1).at hm;have ym:=hcs.get 0 rfl;simp only [TInt,Nat.mul_one,Nat.add_zero] at ym;have KK:(fun W:World=>W.cell? ⟨bx,2,none⟩=some (.slice (some ⟨g,off,none⟩) l.length vmc)∧W.cell? ⟨g,off+j,none⟩=some (.int .i64 m)) w1.drew:=⟨z2,ym⟩;have X:=jh2 ((HS.out.2.1.trans s1).drewN 1) (o1.drewN 1);clear CK s1 o1 hcs hm;go_wp2_with fail;refine zac (fun W=>W.cell? ⟨bx,2,none⟩=some (.slice (some ⟨g,off,none⟩) l.length vmc)∧W.cell? ⟨g,off+j,none⟩=some (.int .i64 m)) (fun i=>!([9]:List Nat).contains i) (by kernel_rfl) ?_;refine tk2 0 _ 18 rfl rfl KK ?_;refine tk2 1 _ 19 rfl rfl KK ?_;refine tk2 2 _ 20 rfl rfl KK ?_;refine tk2 3 _ 21 rfl rfl KK ?_;refine tk2 4 _ 22 rfl rfl KK ?_;refine tk2 5 _ 23 rfl rfl KK ?_;refine tk2 6 _ 24 rfl rfl KK ?_;refine tk2 7 _ 25 rfl rfl KK ?_;refine tk2 8 _ 26 rfl rfl KK ?_;refine zab.one (i:=9) (by kernel_rfl) rfl (fun KQ hK=>?_);go_simp;refine hK.out _ _ (fun h=>absurd h (by decide)) ?_;clear hK KQ
    (try simp only [jS])
    refine zab.done (by kernel_rfl) ?_ _;go_wp2;go_ret;exact ⟨by rw [HR2.out];rfl,c1,X.out⟩
 ·have HR2:=jh1 (show R=0 by have:=HR.out;rw [if_pos (.inl hE0)] at this;exact this)
  have hE2:(E != 0)=true:=by rw [bne_iff_ne];exact hE0
  go_enter func15,ntmps15;go_wp2_with fail
  (try rw [hW0])
  refine CK.mono ?_;rintro e w1 ⟨rfl,c1,s1,o1⟩;have X:=jh2 (HS.out.2.1.trans s1) o1;clear CK s1 o1;go_wp2;go_ret;exact ⟨by rw [HR2.out];rfl,c1,X.out⟩
end
def faultS (m:Int):Int:=if m=4 then 1 else if m=5 then 3 else if m=6 then 4 else if m=7 then 5 else if m=9 then 2 else 0
theorem index10 (a0 a1 a2 a3 a4 a5 a6 a7 a8 a9:Int) (i:Nat) (hi:i<10) (W:World) :
  (Instr.index 86 (.agg #[.int .i64 a0,.int .i64 a1,.int .i64 a2,.int .i64 a3,.int .i64 a4,.int .i64 a5,.int .i64 a6,.int .i64 a7,.int .i64 a8,.int .i64 a9]) (.int .i64 i)).run prog W=.ok (#[.int .i64 a0,.int .i64 a1,.int .i64 a2,.int .i64 a3,.int .i64 a4,.int .i64 a5,.int .i64 a6,.int .i64 a7,.int .i64 a8,.int .i64 a9].getD i undef) W:=by
 have hs:(sizeOf 3).run prog W=.ok 1 W:=by
  cases hq:prog.info? 3 with
  | none=>have:=intI;rw [hq] at this;cases this
  | some i=>
   have:i.size=1:=by have:=intI;rw [hq] at this;simpa using this
   simp [sizeOf,typeInfo,hq,this]
 have hu:=run_underlying underlying86 W;have hu2:=run_underlying underlying3 W
 rcases (by omega:i=0∨i=1∨i=2∨i=3∨i=4∨i=5∨i=6∨i=7∨i=8∨i=9) with rfl | rfl | rfl | rfl | rfl | rfl | rfl | rfl | rfl | rfl <;> simp [Instr.index,asIntOf,hu,hu2,part,isAgg,hs,Value.cells]
theorem sfault_any (m:Int) (w:World) :
  Calls prog 17 #[.int .i64 m] w fun r w'=>r=.returned (.int .i64 (faultS m))∧w'=w:=by
 by_cases h0:m≤0
 ·have hf:faultS m=0:=by unfold faultS;rw [if_neg,if_neg,if_neg,if_neg,if_neg] <;> omega
  rw [hf];clear hf;go_enter func17,ntmps17;go_wp2;go_ret;exact ⟨rfl,rfl⟩
 ·by_cases h10:10≤m
  ·have hf:faultS m=0:=by unfold faultS;rw [if_neg,if_neg,if_neg,if_neg,if_neg] <;> omega
   rw [hf];clear hf;go_enter func17,ntmps17;go_wp2;go_ret;exact ⟨rfl,rfl⟩
  ·rcases (by omega:m=1∨m=2∨m=3∨m=4∨m=5∨m=6∨m=7∨m=8∨m=9) with rfl | rfl | rfl | rfl | rfl | rfl | rfl | rfl | rfl
   ·have hx:∀(a0 a1 a2 a3 a4 a5 a6 a7 a8 a9:Int) (W:World),(Instr.index 86 (.agg #[.int .i64 a0,.int .i64 a1,.int .i64 a2,.int .i64 a3,.int .i64 a4,.int .i64 a5,.int .i64 a6,.int .i64 a7,.int .i64 a8,.int .i64 a9]) (.int .i64 1)).run prog W=.ok (.int .i64 a1) W:=fun a0 a1 a2 a3 a4 a5 a6 a7 a8 a9 W=>index10 a0 a1 a2 a3 a4 a5 a6 a7 a8 a9 1 (by omega) W
    go_enter func17,ntmps17;go_wp2;go_ret;exact ⟨rfl,rfl⟩
   ·have hx:∀(a0 a1 a2 a3 a4 a5 a6 a7 a8 a9:Int) (W:World),(Instr.index 86 (.agg #[.int .i64 a0,.int .i64 a1,.int .i64 a2,.int .i64 a3,.int .i64 a4,.int .i64 a5,.int .i64 a6,.int .i64 a7,.int .i64 a8,.int .i64 a9]) (.int .i64 2)).run prog W=.ok (.int .i64 a2) W:=fun a0 a1 a2 a3 a4 a5 a6 a7 a8 a9 W=>index10 a0 a1 a2 a3 a4 a5 a6 a7 a8 a9 2 (by omega) W
    go_enter func17,ntmps17;go_wp2;go_ret;exact ⟨rfl,rfl⟩
   ·have hx:∀(a0 a1 a2 a3 a4 a5 a6 a7 a8 a9:Int) (W:World),(Instr.index 86 (.agg #[.int .i64 a0,.int .i64 a1,.int .i64 a2,.int .i64 a3,.int .i64 a4,.int .i64 a5,.int .i64 a6,.int .i64 a7,.int .i64 a8,.int .i64 a9]) (.int .i64 3)).run prog W=.ok (.int .i64 a3) W:=fun a0 a1 a2 a3 a4 a5 a6 a7 a8 a9 W=>index10 a0 a1 a2 a3 a4 a5 a6 a7 a8 a9 3 (by omega) W
    go_enter func17,ntmps17;go_wp2;go_ret;exact ⟨rfl,rfl⟩
   ·have hx:∀(a0 a1 a2 a3 a4 a5 a6 a7 a8 a9:Int) (W:World),(Instr.index 86 (.agg #[.int .i64 a0,.int .i64 a1,.int .i64 a2,.int .i64 a3,.int .i64 a4,.int .i64 a5,.int .i64 a6,.int .i64 a7,.int .i64 a8,.int .i64 a9]) (.int .i64 4)).run prog W=.ok (.int .i64 a4) W:=fun a0 a1 a2 a3 a4 a5 a6 a7 a8 a9 W=>index10 a0 a1 a2 a3 a4 a5 a6 a7 a8 a9 4 (by omega) W
    go_enter func17,ntmps17;go_wp2;go_ret;exact ⟨rfl,rfl⟩
   ·have hx:∀(a0 a1 a2 a3 a4 a5 a6 a7 a8 a9:Int) (W:World),(Instr.index 86 (.agg #[.int .i64 a0,.int .i64 a1,.int .i64 a2,.int .i64 a3,.int .i64 a4,.int .i64 a5,.int .i64 a6,.int .i64 a7,.int .i64 a8,.int .i64 a9]) (.int .i64 5)).run prog W=.ok (.int .i64 a5) W:=fun a0 a1 a2 a3 a4 a5 a6 a7 a8 a9 W=>index10 a0 a1 a2 a3 a4 a5 a6 a7 a8 a9 5 (by omega) W
    go_enter func17,ntmps17;go_wp2;go_ret;exact ⟨rfl,rfl⟩
   ·have hx:∀(a0 a1 a2 a3 a4 a5 a6 a7 a8 a9:Int) (W:World),(Instr.index 86 (.agg #[.int .i64 a0,.int .i64 a1,.int .i64 a2,.int .i64 a3,.int .i64 a4,.int .i64 a5,.int .i64 a6,.int .i64 a7,.int .i64 a8,.int .i64 a9]) (.int .i64 6)).run prog W=.ok (.int .i64 a6) W:=fun a0 a1 a2 a3 a4 a5 a6 a7 a8 a9 W=>index10 a0 a1 a2 a3 a4 a5 a6 a7 a8 a9 6 (by omega) W
    go_enter func17,ntmps17;go_wp2;go_ret;exact ⟨rfl,rfl⟩
   ·have hx:∀(a0 a1 a2 a3 a4 a5 a6 a7 a8 a9:Int) (W:World),(Instr.index 86 (.agg #[.int .i64 a0,.int .i64 a1,.int .i64 a2,.int .i64 a3,.int .i64 a4,.int .i64 a5,.int .i64 a6,.int .i64 a7,.int .i64 a8,.int .i64 a9]) (.int .i64 7)).run prog W=.ok (.int .i64 a7) W:=fun a0 a1 a2 a3 a4 a5 a6 a7 a8 a9 W=>index10 a0 a1 a2 a3 a4 a5 a6 a7 a8 a9 7 (by omega) W
    go_enter func17,ntmps17;go_wp2;go_ret;exact ⟨rfl,rfl⟩
   ·have hx:∀(a0 a1 a2 a3 a4 a5 a6 a7 a8 a9:Int) (W:World),(Instr.index 86 (.agg #[.int .i64 a0,.int .i64 a1,.int .i64 a2,.int .i64 a3,.int .i64 a4,.int .i64 a5,.int .i64 a6,.int .i64 a7,.int .i64 a8,.int .i64 a9]) (.int .i64 8)).run prog W=.ok (.int .i64 a8) W:=fun a0 a1 a2 a3 a4 a5 a6 a7 a8 a9 W=>index10 a0 a1 a2 a3 a4 a5 a6 a7 a8 a9 8 (by omega) W
    go_enter func17,ntmps17;go_wp2;go_ret;exact ⟨rfl,rfl⟩
   ·have hx:∀(a0 a1 a2 a3 a4 a5 a6 a7 a8 a9:Int) (W:World),(Instr.index 86 (.agg #[.int .i64 a0,.int .i64 a1,.int .i64 a2,.int .i64 a3,.int .i64 a4,.int .i64 a5,.int .i64 a6,.int .i64 a7,.int .i64 a8,.int .i64 a9]) (.int .i64 9)).run prog W=.ok (.int .i64 a9) W:=fun a0 a1 a2 a3 a4 a5 a6 a7 a8 a9 W=>index10 a0 a1 a2 a3 a4 a5 a6 a7 a8 a9 9 (by omega) W
    go_enter func17,ntmps17;go_wp2;go_ret;exact ⟨rfl,rfl⟩
section
variable {c:Col}{w:World}
theorem check29_any (hok:Ok c w) {s:Srv}{k:Nat}{vc vo vm:Value}(hs:s.At c k w vc vo vm) :
  Calls prog 14 #[.agg #[vc,vo,vm,.int .i64 s.delay,.int .i64 s.slow]] w fun r w'=>r=.returned (.int .i64 (zbs s))∧∃c',Step No c w c' w'∧Ok c' w':=by
 obtain ⟨vca,vcc,rfl,_⟩:=hs.chain.form;obtain ⟨voa,voc,rfl,_⟩:=hs.other.form;obtain ⟨vma,vmc,rfl,_⟩:=hs.moods.form;have a0:=At.new0 hok [.slice vca s.chain.length vcc,.slice voa s.other.length voc,.slice vma s.moods.length vmc,.int .i64 s.delay,.int .i64 s.slow] 25;have s0:Step No c w c (w.alloc (.cells #[.slice vca s.chain.length vcc,.slice voa s.other.length voc,.slice vma s.moods.length vmc,.int .i64 s.delay,.int .i64 s.slow] 25)):=Step.refl.alloc _;have o0:=hok.alloc (.cells #[.slice vca s.chain.length vcc,.slice voa s.other.length voc,.slice vma s.moods.length vmc,.int .i64 s.delay,.int .i64 s.slow] 25);have sm:=hs.moods.kn s0;obtain ⟨bx,hbx⟩:=jE w.heap.size;rw [hbx] at a0;obtain ⟨ch,ot,l,D,S⟩:=s;dsimp only at *;obtain ⟨cl,hcl⟩:=jE ch.length;obtain ⟨ol,hol⟩:=jE ot.length;rw [hcl,hol] at a0 s0 o0 sm ⊢;obtain ⟨W0,hW0⟩:=jE (w.alloc (.cells #[.slice vca cl vcc,.slice voa ol voc,.slice vma l.length vmc,.int .i64 D,.int .i64 S] 25));rw [show (w.alloc (.cells ([.slice vca cl vcc,.slice voa ol voc,.slice vma l.length vmc,.int .i64 D,.int .i64 S]:List Value).toArray 25))=W0 from hW0] at a0;rw [hW0] at s0 o0 sm;have y2:=a0.get (i:=2) rfl;have y3:=a0.get (i:=3) rfl;have y4:=a0.get (i:=4) rfl;have HS:=jh4 sm s0 o0 hs.nmoods;obtain ⟨R,hR⟩:=jE (zbs ⟨ch,ot,l,D,S⟩);have HE:=jh1 (show R=if 64<l.length then 4 else if badW D=true then 3 else if badW S=true then 3 else if l.any badM=true then 3 else 0 by rw [←hR];rfl);rw [hR];clear a0 sm s0 o0 hs hok hR hcl hol;by_cases h64:64<l.length
 ·have HR:=jh1 (show R=4 by have:=HE.out;rw [if_pos h64] at this;exact this)
  have h64':(64:Int)<(l.length:Int):=by omega
  go_enter func14,ntmps14;go_wp2_with fail
  (try rw [hW0])
  (try rw [hbx])
  go_ret;exact ⟨by rw [HR.out];rfl,c,HS.out.2.1,HS.out.2.2.1⟩
 have h64':¬(64:Int)<(l.length:Int):=by omega
 have HE2:=jh1 (show R=if badW D=true then 3 else if badW S=true then 3 else if l.any badM=true then 3 else 0 by have:=HE.out;rw [if_neg h64] at this;exact this);clear HE;by_cases hd:badW D=true
 ·have HR:=jh1 (show R=3 by have:=HE2.out;rw [if_pos hd] at this;exact this)
  simp only [badW,Bool.or_eq_true,decide_eq_true_eq] at hd
  rcases (by omega:D<0∨(¬D<0∧1048576<D)) with h1 | ⟨h1,h2⟩
  ·clear hd
   go_enter func14,ntmps14;go_wp2_with fail
   (try rw [hW0])
   (try rw [hbx])
   go_ret;exact ⟨by rw [HR.out];rfl,c,HS.out.2.1,HS.out.2.2.1⟩
  ·clear hd
   go_enter func14,ntmps14;go_wp2_with fail
   (try rw [hW0])
   (try rw [hbx])
   go_ret;exact ⟨by rw [HR.out];rfl,c,HS.out.2.1,HS.out.2.2.1⟩
 have hd0:¬D<0∧¬1048576<D:=by simp only [badW,Bool.or_eq_true,decide_eq_true_eq,not_or] at hd;exact hd
 obtain ⟨hd1,hd2⟩:=hd0;have HE3:=jh1 (show R=if badW S=true then 3 else if l.any badM=true then 3 else 0 by have:=HE2.out;rw [if_neg hd] at this;exact this);clear HE2 hd;by_cases hd:badW S=true
 ·have HR:=jh1 (show R=3 by have:=HE3.out;rw [if_pos hd] at this;exact this)
  simp only [badW,Bool.or_eq_true,decide_eq_true_eq] at hd
  rcases (by omega:S<0∨(¬S<0∧1048576<S)) with h1 | ⟨h1,h2⟩
  ·clear hd
   go_enter func14,ntmps14;go_wp2_with fail
   (try rw [hW0])
   (try rw [hbx])
   go_ret;exact ⟨by rw [HR.out];rfl,c,HS.out.2.1,HS.out.2.2.1⟩
  ·clear hd
   go_enter func14,ntmps14;go_wp2_with fail
   (try rw [hW0])
   (try rw [hbx])
   go_ret;exact ⟨by rw [HR.out];rfl,c,HS.out.2.1,HS.out.2.2.1⟩
 have hs0:¬S<0∧¬1048576<S:=by simp only [badW,Bool.or_eq_true,decide_eq_true_eq,not_or] at hd;exact hd
 obtain ⟨hs1,hs2⟩:=hs0;have HE:=jh1 (show R=if l.any badM=true then 3 else 0 by have:=HE3.out;rw [if_neg hd] at this;exact this);clear HE3 hd;have hlen:l.length≤64:=by omega
 go_enter func14,ntmps14;go_wp2_with fail
 (try rw [hW0])
 (try rw [hbx])
 clear hW0 h64;go_loopw [3] (fun vi wr=>∃i:Nat,i≤l.length∧vi=.int .i64 i∧W0=wr∧l.any badM=(l.drop i).any badM) (fun vi _=>l.length-(intOf vi).toNat)
 case atStart=>exact ⟨0,by omega,rfl,rfl,by rw [List.drop_zero]⟩
 case round=>
  obtain ⟨i,hi,rfl,rfl,hany⟩:=hrel;by_cases hlt:i<l.length
  ·obtain ⟨m,hm⟩:∃m,l[i]? = some m:=⟨l[i],by simp [hlt]⟩
   have hdr:l.drop i=m::l.drop (i+1):=by rw [List.drop_eq_getElem_cons hlt];rw [List.getElem?_eq_getElem hlt] at hm;injection hm with hm;rw [hm]
   obtain ⟨g,off,cap,e,hcap,hcm⟩:=HS.out.1.some (by omega);injection e with e1 _ e2;subst e1 e2;obtain ⟨vs,⟨rfl,hmh⟩,hcs⟩:=HS.out.1.at hm;have ym:=hcs.get 0 rfl;simp only [TInt,Nat.mul_one,Nat.add_zero] at ym;have hlt':(i:Int)<(l.length:Int):=by omega
   have hi64:(i:Int)<64:=by omega
   have HA:=jh1 (show l.any badM=(badM m||(l.drop (i+1)).any badM) by rw [hany,hdr,List.any_cons]);clear hcs hany hdr hm hmh;by_cases hm0:m<1
   ·have hb:badM m=true:=by simp [badM];omega
    have HR:=jh1 (show R=3 by have:=HE.out;rw [HA.out,hb] at this;simpa using this);clear hb;go_wp2;go_ret;exact ⟨by rw [HR.out];rfl,c,HS.out.2.1,HS.out.2.2.1⟩
   ·by_cases hm10:9<m
    ·have hb:badM m=true:=by simp [badM];omega
     have HR:=jh1 (show R=3 by have:=HE.out;rw [HA.out,hb] at this;simpa using this);clear hb;go_wp2;go_ret;exact ⟨by rw [HR.out];rfl,c,HS.out.2.1,HS.out.2.2.1⟩
    ·have HM:=jh1 (show badM m=false by simp [badM];omega)
     go_wp2;go_roundw
     case rel=>exact ⟨i+1,by omega,by go_num,by first | rfl | trivial,by have:=HA.out;rw [HM.out,Bool.false_or] at this;exact this⟩
     case measure=>simp [intOf];omega
  ·have hil:i=l.length:=by omega
   subst hil;rw [List.drop_length] at hany;have HR:=jh1 (show R=0 by have:=HE.out;rw [hany] at this;simpa using this);clear hany;go_wp2;go_ret;exact ⟨by rw [HR.out];rfl,c,HS.out.2.1,HS.out.2.2.1⟩
end
section
variable {c:Col}{w:World}
theorem mood29_any (hok:Ok c w) {s:Srv}{k:Nat}{vc vo vm:Value}(hs:s.At c k w vc vo vm) (nth:Int) :
  Calls prog 16 #[.agg #[vc,vo,vm,.int .i64 s.delay,.int .i64 s.slow],.int .i64 nth] w fun r w'=>r=.returned (.int .i64 (moodS s nth))∧∃c',Step No c w c' w'∧Ok c' w':=by
 obtain ⟨vca,vcc,rfl,_⟩:=hs.chain.form;obtain ⟨voa,voc,rfl,_⟩:=hs.other.form;obtain ⟨vma,vmc,rfl,_⟩:=hs.moods.form;have a0:=At.new0 hok [.slice vca s.chain.length vcc,.slice voa s.other.length voc,.slice vma s.moods.length vmc,.int .i64 s.delay,.int .i64 s.slow] 25;have s0:Step No c w c (w.alloc (.cells #[.slice vca s.chain.length vcc,.slice voa s.other.length voc,.slice vma s.moods.length vmc,.int .i64 s.delay,.int .i64 s.slow] 25)):=Step.refl.alloc _;have o0:=hok.alloc (.cells #[.slice vca s.chain.length vcc,.slice voa s.other.length voc,.slice vma s.moods.length vmc,.int .i64 s.delay,.int .i64 s.slow] 25);have CK:=check29_any o0 (hs.kn s0);have hnm:=hs.nmoods;have HS:=jh3 (hs.moods.kn s0) s0 a0;obtain ⟨l,hl⟩:=jE s.moods;obtain ⟨bx,hbx⟩:=jE w.heap.size;rw [hl] at HS CK hnm ⊢;rw [hbx] at HS;obtain ⟨W0,hW0⟩:=jE (w.alloc (.cells #[.slice vca s.chain.length vcc,.slice voa s.other.length voc,.slice vma l.length vmc,.int .i64 s.delay,.int .i64 s.slow] 25));rw [hW0] at HS CK;obtain ⟨R,hR⟩:=jE (moodS s nth);obtain ⟨E,hE⟩:=jE (zbs s);have HR:=jh1 (show R=if E≠0∨nth<0 then 0 else if l.length=0 then 1 else l.getD (nth % l.length).toNat 0 by rw [←hR,moodS,hE,hl]);rw [hR];rw [hE] at CK;obtain ⟨cl,hcl⟩:=jE s.chain.length;obtain ⟨ol,hol⟩:=jE s.other.length;obtain ⟨D,hD⟩:=jE s.delay;obtain ⟨S,hS⟩:=jE s.slow;rw [hcl,hol,hD,hS] at HS CK hW0 ⊢;have y0:=HS.out.2.2.get (i:=0) rfl;have y1:=HS.out.2.2.get (i:=1) rfl;have y2:=HS.out.2.2.get (i:=2) rfl;have y3:=HS.out.2.2.get (i:=3) rfl;have y4:=HS.out.2.2.get (i:=4) rfl;clear a0 s0 o0 hs hok hl hR hE hcl hol hD hS;by_cases hE0:E=0
 ·subst hE0
  by_cases hn:nth<0
  ·have HR2:=jh1 (show R=0 by have:=HR.out;rw [if_pos (.inr hn)] at this;exact this)
   go_enter func16,ntmps16;go_wp2_with fail
   (try rw [hW0])
   refine CK.mono ?_;rintro e w1 ⟨rfl,c1,s1,o1⟩;have X:=jh2 (HS.out.2.1.trans s1) o1;clear CK s1 o1;go_wp2;go_ret;exact ⟨by rw [HR2.out];rfl,c1,X.out⟩
  ·by_cases hl0:l.length=0
   ·have HR2:=jh1 (show R=1 by have:=HR.out;rw [if_neg (by simp;omega),if_pos hl0] at this;exact this)
    have HL0:=jh1 hl0;clear hl0;go_enter func16,ntmps16;go_wp2_with fail
    (try rw [hW0])
    refine CK.mono ?_;rintro e w1 ⟨rfl,c1,s1,o1⟩;have z2:=(HS.out.2.2.keep s1 jI).get (i:=2) rfl;have X:=jh2 (HS.out.2.1.trans s1) o1;have hl0':(l.length:Int)=0:=by have:=HL0.out;omega
    clear CK s1 o1;go_wp2;go_ret;exact ⟨by rw [HR2.out];rfl,c1,X.out⟩
   ·obtain ⟨j,hj⟩:=jE ((nth % (l.length:Int)).toNat)
    have hmod:=Int.emod_nonneg nth (show (l.length:Int)≠0 by omega);have hmod2:=Int.emod_lt_of_pos nth (show (0:Int)<(l.length:Int) by omega);have hjl:j<l.length:=by omega
    have hje:Int.tmod nth (l.length:Int)=(j:Int):=by rw [Int.tmod_eq_emod_of_nonneg (by omega)];omega
    obtain ⟨m,hm⟩:∃m,l[j]? = some m:=⟨l[j],by simp [hjl]⟩;have HR2:=jh1 (show R=m by have:=HR.out;rw [if_neg (by simp;omega),if_neg hl0,hj,List.getD,hm] at this;exact this);obtain ⟨g,off,cap,e,hcap,hcm⟩:=HS.out.1.some (by omega);injection e with e1 _ e2;subst e1 e2;have hl0':¬(l.length:Int)=0:=by omega
    have hj0:(0:Int)≤(j:Int):=by omega
    have hj1:(j:Int)<(l.length:Int):=by omega
    clear hj hmod hmod2;go_enter func16,ntmps16;go_wp2_with fail
    (try rw [hW0])
    refine CK.mono ?_;rintro e w1 ⟨rfl,c1,s1,o1⟩;have z2:=(HS.out.2.2.keep s1 jI).get (i:=2) rfl;obtain ⟨vs,⟨rfl,hmh⟩,hcs⟩:=(HS.out.1.kn s1).at hm;have ym:=hcs.get 0 rfl;simp only [TInt,Nat.mul_one,Nat.add_zero] at ym;have KK:(fun W:World=>W.cell? ⟨bx,2,none⟩=some (.slice (some ⟨g,off,none⟩) l.length vmc)∧W.cell? ⟨g,off+j,none⟩=some (.int .i64 m)) w1.drew:=⟨z2,ym⟩;have X:=jh2 ((HS.out.2.1.trans s1).drewN 1) (o1.drewN 1);clear CK s1 o1 hcs hm;go_wp2_with fail;refine zac (fun W=>W.cell? ⟨bx,2,none⟩=some (.slice (some ⟨g,off,none⟩) l.length vmc)∧W.cell? ⟨g,off+j,none⟩=some (.int .i64 m)) (fun i=>!([9]:List Nat).contains i) (by kernel_rfl) ?_;refine tk2 0 _ 18 rfl rfl KK ?_;refine tk2 1 _ 19 rfl rfl KK ?_;refine tk2 2 _ 20 rfl rfl KK ?_;refine tk2 3 _ 21 rfl rfl KK ?_;refine tk2 4 _ 22 rfl rfl KK ?_;refine tk2 5 _ 23 rfl rfl KK ?_;refine tk2 6 _ 24 rfl rfl KK ?_;refine tk2 7 _ 25 rfl rfl KK ?_;refine tk2 8 _ 26 rfl rfl KK ?_;refine zab.one (i:=9) (by kernel_rfl) rfl (fun KQ hK=>?_);go_simp;refine hK.out _ _ (fun h=>absurd h (by decide)) ?_;clear hK KQ
    (try simp only [jS])
    refine zab.done (by kernel_rfl) ?_ _;go_wp2;go_ret;exact ⟨by rw [HR2.out];rfl,c1,X.out⟩
 ·have HR2:=jh1 (show R=0 by have:=HR.out;rw [if_pos (.inl hE0)] at this;exact this)
  have hE2:(E != 0)=true:=by rw [bne_iff_ne];exact hE0
  go_enter func16,ntmps16;go_wp2_with fail
  (try rw [hW0])
  refine CK.mono ?_;rintro e w1 ⟨rfl,c1,s1,o1⟩;have X:=jh2 (HS.out.2.1.trans s1) o1;clear CK s1 o1;go_wp2;go_ret;exact ⟨by rw [HR2.out];rfl,c1,X.out⟩
theorem fault29_any (m:Int) (w:World) :
  Calls prog 18 #[.int .i64 m] w fun r w'=>r=.returned (.int .i64 (faultS m))∧w'=w:=by
 unfold faultS;by_cases h4:m=4
 ·subst h4
  go_enter func18,ntmps18;go_wp2;go_ret;exact ⟨rfl,rfl⟩
 by_cases h5:m=5
 ·subst h5
  go_enter func18,ntmps18;go_wp2;go_ret;exact ⟨rfl,rfl⟩
 by_cases h6:m=6
 ·subst h6
  go_enter func18,ntmps18;go_wp2;go_ret;exact ⟨rfl,rfl⟩
 by_cases h7:m=7
 ·subst h7
  go_enter func18,ntmps18;go_wp2;go_ret;exact ⟨rfl,rfl⟩
 by_cases h9:m=9
 ·subst h9
  go_enter func18,ntmps18;go_wp2;go_ret;exact ⟨rfl,rfl⟩
 rw [if_neg h4,if_neg h5,if_neg h6,if_neg h7,if_neg h9];have b4:(m==4)=false:=by simpa using h4
 have b5:(m==5)=false:=by simpa using h5
 have b6:(m==6)=false:=by simpa using h6
 have b7:(m==7)=false:=by simpa using h7
 have b9:(m==9)=false:=by simpa using h9
 go_enter func18,ntmps18;go_wp2;go_ret;exact ⟨rfl,rfl⟩
end
def idB (n:Int):Bool:=decide (1≤n)&&decide (n≤1099511627776)
def encA (id h:Int):List UInt8:=zay 1++(zay id.toNat++zay h.toNat)
section
variable {c:Col}{w:World}
theorem mnumber_any (n:Int) (w:World):Calls prog 54 #[.int .i64 n] w fun r w'=>r=.returned (.bool (idB n))∧w'=w:=by
 have hb:=jh1 (show idB n=(decide (1≤n)&&decide (n≤1099511627776)) from rfl);by_cases h1:1≤n
 ·go_enter func54,ntmps54
  go_wp2;go_ret;exact ⟨by (rw [hb.out];simp [h1]),rfl⟩
 ·go_enter func54,ntmps54
  go_wp2;go_ret;exact ⟨by (rw [hb.out];simp;omega),rfl⟩
theorem mheight_any (n:Int) (w:World):Calls prog 55 #[.int .i64 n] w fun r w'=>r=.returned (.bool (zav n))∧w'=w:=by
 have hb:=jh1 (show zav n=(decide (1≤n)&&decide (n≤1073741824)) from rfl);by_cases h1:1≤n
 ·go_enter func55,ntmps55
  go_wp2;go_ret;exact ⟨by (rw [hb.out];simp [h1]),rfl⟩
 ·go_enter func55,ntmps55
  go_wp2;go_ret;exact ⟨by (rw [hb.out];simp;omega),rfl⟩
theorem zaX (w:World) (e at_:Int):Calls prog 49 #[.bool true,.int .i64 e,.int .i64 at_] w fun r w'=>r=.returned (.tuple #[])∧w'=w:=by
 go_enter func49,ntmps49;go_wp2
 first | go_end0 | refine bodyPost_ret (results_none rfl _ _ _) rfl ?_
 exact ⟨rfl,rfl⟩
theorem mmust_no (w:World) (e at_:Int):Calls prog 49 #[.bool false,.int .i64 e,.int .i64 at_] w fun r w'=>r=.panicked [{ v:=.iface 109 (.agg #[.int .i64 e,.int .i64 at_]),recovered:=false }]∧w'=w:=by
 go_enter func49,ntmps49;go_wp2;exact ⟨rfl,rfl,rfl⟩
theorem askWrite_ok (hok:Ok c w) {k kb p:Nat}(hi:IsWr c k kb w p 65536 ([],0)) (hk0:k≠0) (hb0:kb≠0) (hkb:kb≠k) (id h:Int) (hid:idB id=true) (hh:zav h=true) :
  Calls prog 241 #[.agg #[.int .i64 id,.int .i64 h],.pointer (some ⟨p,0,none⟩)] w fun r w'=>r=.returned (.int .i64 0) ∧
   ∃c',IsWr c' k kb w' p 65536 (encA id h,0)∧Step (Two k kb) c w c' w'∧Ok c' w':=by
 have a1:=At.new0 hok [.int .i64 id,.int .i64 h] 205;have o1:=hok.alloc (.cells #[.int .i64 id,.int .i64 h] 205);have s1:Step No c w c (w.alloc (.cells #[.int .i64 id,.int .i64 h] 205)):=Step.refl.alloc _;have N1:=mnumber_any id (w.alloc (.cells #[.int .i64 id,.int .i64 h] 205));have N2:=mheight_any h (w.alloc (.cells #[.int .i64 id,.int .i64 h] 205));rw [hid] at N1;rw [hh] at N2;have n0:¬Two k kb 0:=fun h=>by rcases h with h | h <;> omega
 simp only [idB,zav,Bool.and_eq_true,decide_eq_true_eq] at hid hh;have W1:=num_any o1 (hi.kn s1) hk0 hb0 hkb (by omega) (by simp) 1 (by omega);rw [zaB (by have:=zae 1;simp;omega)] at W1;have e1:((id.toNat:Nat):Int)=id:=Int.toNat_of_nonneg (by omega);have e2:((h.toNat:Nat):Int)=h:=Int.toNat_of_nonneg (by omega);have HE:=jh4 e1 e2 hid hh;have y0:=a1.get (i:=0) rfl;have y1:=a1.get (i:=1) rfl;have X1:=jh2 a1 s1;clear a1 o1 s1 hok hi hid hh e1 e2;go_enter func241,ntmps241;go_wp2_with fail;refine N1.mono ?_;rintro e w1 ⟨rfl,rfl⟩;go_wp2_with fail;refine N2.mono ?_;rintro e w1 ⟨rfl,rfl⟩;clear N1 N2;go_wp2_with fail;refine W1.mono ?_;rintro e w2 ⟨rfl,c2,i2,s2,o2⟩;have A2:=X1.out.1.keep s2 n0;have W2:=num_any o2 i2 hk0 hb0 hkb (by omega) (by have:=zae 1;simp;omega) id.toNat (by have:=HE.out.2.2.1;omega);rw [zaB (by have:=zae 1;have:=zae id.toNat;simp;omega),HE.out.1] at W2;have z0:=A2.get (i:=0) rfl;have X2:=jh2 A2 (X1.out.2.ofNo.trans s2);clear W1 i2 s2 o2 A2 y0 y1;go_wp2_with fail;refine W2.mono ?_;rintro e w3 ⟨rfl,c3,i3,s3,o3⟩;have A3:=X2.out.1.keep s3 n0;have W3:=num_any o3 i3 hk0 hb0 hkb (by omega) (by have:=zae 1;have:=zae id.toNat;simp;omega) h.toNat (by have:=HE.out.2.2.2;omega);rw [zaB (by have:=zae 1;have:=zae id.toNat;have:=zae h.toNat;simp;omega),HE.out.2.1] at W3;have z1:=A3.get (i:=1) rfl;have X3:=jh1 (X2.out.2.trans s3);clear W2 i3 s3 o3 A3 z0;go_wp2_with fail;refine W3.mono ?_;rintro e w4 ⟨rfl,c4,i4,s4,o4⟩;have X4:=jh3 i4 (X3.out.trans s4) o4;clear W3 i4 s4 o4 z1;go_wp2;go_ret;obtain ⟨i4,s4,o4⟩:=X4.out;exact ⟨rfl,c4,by simpa [encA] using i4,s4,o4⟩
end
