/- ServerReplies, part 30: lemmas, each with its own conditions. -/
import Derived.Test.YtgcobbapaaihiaaGreatSz25
set_option linter.all false
set_option maxHeartbeats 12800000
set_option maxRecDepth 100000
open Go.Proofs.Tryz
namespace Go.Proofs.YtgcobbapaaihiaaGreat
open Go.RowKit
section
variable {c:Col}{w:World}
theorem turned_rec (hok:Ok c w) (va:Option Addr) (vn:Nat) :
  Calls prog 129 #[.agg (recC (.slice va 1 vn)).toArray] w fun r w'=>r=.returned (.int .i64 0)∧∃c',Step No c w c' w'∧Ok c' w':=by
 have a0:=At.new0 hok (recC (.slice va 1 vn)) 97;have y4:=a0.get (i:=4) rfl;have y5:=a0.get (i:=5) rfl;have X:=jh2 (Step.refl.alloc (.cells (recC (.slice va 1 vn)).toArray 97):Step No c w c (w.alloc (.cells (recC (.slice va 1 vn)).toArray 97))) (hok.alloc (.cells (recC (.slice va 1 vn)).toArray 97));obtain ⟨rb,hrb⟩:=jE w.heap.size;rw [hrb] at y4 y5;obtain ⟨R,hR⟩:=jE (recC (.slice va 1 vn));rw [hR] at y4 y5 X ⊢;obtain ⟨W0,hW0⟩:=jE (w.alloc (.cells R.toArray 97));rw [hW0] at y4 y5 X;clear a0 hok hR;go_enter func129,ntmps129;go_wp2_with fail
 (try rw [hW0])
 (try rw [hrb])
 refine wp_loop_once ?_;go_wp2;go_ret;exact ⟨rfl,c,X.out⟩
theorem may_rec (hok:Ok c w) {vv:Value}(hv:Sl TVal c 0 0 w vv l1) :
  Calls prog 85 #[.agg (recC vv).toArray] w fun r w'=>r=.returned (.int .i64 0)∧∃c',Step No c w c' w'∧Ok c' w':=by
 obtain ⟨va,vn,rfl,_⟩:=hv.form;have a0:=At.new0 hok (recC (.slice va l1.length vn)) 97;have s0:=(Step.refl.alloc (.cells (recC (.slice va l1.length vn)).toArray 97):Step No c w c (w.alloc (.cells (recC (.slice va l1.length vn)).toArray 97)));have o0:=hok.alloc (.cells (recC (.slice va l1.length vn)).toArray 97);obtain ⟨rb,hrb⟩:=jE w.heap.size;rw [hrb] at a0;have NM:=fun W=>name_any [97] (by decide) W;have X:=jh4 (hv.kn s0) a0 s0 o0;clear a0 s0 o0 hok hv;have hRe:recC (.slice va l1.length vn)=[.string ⟨#[97]⟩,.int .i64 3,.int .i64 10,.int .i64 10,.slice va 1 vn,.slice none 0 0,.slice none 0 0,.int .i64 0,.int .u8 0]:=rfl;obtain ⟨R,hR⟩:=jE (recC (.slice va l1.length vn));rw [hR] at X hRe ⊢;obtain ⟨W0,hW0⟩:=jE (w.alloc (.cells R.toArray 97));rw [hW0] at X;have y0:W0.cell? ⟨rb,0,none⟩=some (.string ⟨#[97]⟩):=X.out.2.1.get (i:=0) (by rw [hRe];rfl);have N1:=NM W0;rw [show nameB [97]=true from by decide] at N1;have HRe:=jh1 hRe;clear hRe hR NM;go_enter func85,ntmps85;go_wp2_with fail
 (try rw [hW0])
 (try rw [hrb])
 refine N1.mono ?_;rintro e w1 ⟨rfl,hw1⟩;obtain ⟨sv,a0,s0,o0⟩:=X.out
 obtain ⟨s1,o1⟩:Step No c W0 c w1∧Ok c w1:=by
  rcases hw1 with rfl | ⟨pos,rfl⟩
  ·exact ⟨Step.refl,o0⟩
  ·exact ⟨iter_step _ _,iter_ok o0 _ _⟩
 have a1:=a0.kn s1;rw [HRe.out] at a1;have y1:=a1.get (i:=1) rfl;have y2:=a1.get (i:=2) rfl;have y3:=a1.get (i:=3) rfl;have y4:=a1.get (i:=4) rfl;have VC:=vcheck_any o1 (sv.kn s1) (by decide);rw [l1_ok.check] at VC;have ll:l1.length=1:=rfl;rw [ll] at VC;have X2:=jh4 (a0.kn s1) (s0.trans s1) o1 (show (prog.info? 97).map (·.size)=some R.length by rw [HRe.out];kernel_rfl);clear sv a0 s0 o0 s1 o1 a1 X hw1 y0 N1;go_wp2_with fail;refine VC.mono ?_;rintro e w2 ⟨rfl,c2,s2,o2⟩;have TR:=turned_rec o2 va vn;have HR3:recC (.slice va 1 vn)=R:=HRe.out.symm;rw [HR3] at TR;have X3:=jh3 (X2.out.1.kn s2).cells X2.out.2.2.2 (X2.out.2.1.trans s2);clear VC X2 s2 o2 HR3 y1 y2 y3 y4;go_wp2_with (refine wpList_load_mid rfl 97 _ rfl rb 0 rfl R _ X3.out.1 underlying97 rfl X3.out.2.1 ?_);refine TR.mono ?_;rintro e w3 ⟨rfl,c3,s3,o3⟩;have F:=jh2 (X3.out.2.2.trans s3) o3;clear TR s3 o3;go_wp2;go_ret;exact ⟨rfl,c3,F.out⟩
end
attribute [local go_sem] Oper.semAt_some
def setsA (vv:Value) (x:Int) (_:Col) (_:World) (ar:Array Value):Prop:=ar=#[.int .i64 x,vv]
def hs4:List Int:=[1,2,3,4]
theorem sets_iter {c:Col}{w:World}{K:Nat→Prop}{B1 B2:Nat}{va:Option Addr}{vn:Nat}(h1:At c w B1 0 (recC (.slice va 1 vn))) (h0:¬K 0) :
  Iter prog 130 #[.pointer (some ⟨B1,0,none⟩),.pointer (some ⟨B2,0,none⟩)] K c w (setsA (.slice va 1 vn)) hs4:=by
 intro lb J Jx c0 W0 hst hok hJ hJx hY hJ0;have g1:=h1.keep hst h0;have KN:∀{c2:Col} {w2:World},Step K c0 W0 c2 w2→w2.cell? ⟨B1,1,none⟩=some (.int .i64 3):=fun s=>(g1.keep s h0).get (i:=1) rfl;have KK:(fun W:World=>W.cell? ⟨B1,4,none⟩=some (.slice va 1 vn)∧W.cell? ⟨B1,5,none⟩=some (.slice none 0 0)) W0.drew:=⟨(g1.kn (Step.rf.drewN 1)).get (i:=4) rfl,(g1.kn (Step.rf.drewN 1)).get (i:=5) rfl⟩;have sd:Step K c0 W0 c0 W0.drew:=(Step.refl (K:=K)).drewN 1;have od:Ok c0 W0.drew:=hok.drewN 1;have jd:J [] c0 W0.drew:=hJ _ _ _ _ _ hJ0 (Step.rf.drewN 1) od;have XX:=jh3 sd od jd;clear g1 hJ0 sd od jd;refine callsIn_of_wp func130 rfl trivial ?_;simp only [ntmps130,List.size_toArray,List.length_cons,List.length_nil,Nat.reduceAdd,Nat.reduceSub,Array.replicate_succ,Array.replicate_zero,List.push_toArray,List.append_toArray,List.nil_append,List.cons_append]
 gi_wp2
 rw [wpIn_wide];refine zac (fun W=>W.cell? ⟨B1,4,none⟩=some (.slice va 1 vn)∧W.cell? ⟨B1,5,none⟩=some (.slice none 0 0)) (fun _=>true) (by kernel_rfl) ?_;refine tk2 0 _ 7 rfl rfl KK ?_;refine tk2 1 _ 8 rfl rfl KK ?_;refine tk2 2 _ 9 rfl rfl KK ?_;refine tk2 3 _ 10 rfl rfl KK ?_;refine zab.one (i:=4) (by kernel_rfl) rfl (fun KQ hK=>?_);go_simp;refine hK.out _ _ (fun _=>KK) ?_;clear hK KQ
 (try simp only [jS])
 refine zab.one (i:=5) (by kernel_rfl) rfl (fun KQ hK=>?_);go_simp;refine hK.out _ _ (fun _=>KK) ?_;clear hK KQ
 (try simp only [jS])
 refine zab.done (by kernel_rfl) ?_ _
 gi_wp2
 gi_loopw [4,5,6] (fun v4 v5 i wr=>v4=.slice va 1 vn∧v5=.slice none 0 0∧∃(j:Nat) (cr:Col),j≤4∧i=.int .i64 (j+1:Nat)∧Step K c0 W0 cr wr∧Ok cr wr∧J (hs4.take j) cr wr) (fun _ _ i _=>5-(intOf i).toNat)
 case atStart=>exact ⟨rfl,rfl,0,c0,by omega,rfl,XX.out.1,XX.out.2.1,XX.out.2.2⟩
 case round=>
  obtain ⟨rfl,rfl,j,cr,hj,rfl,s1,o1,j1⟩:=hrel;have y1:=KN s1;clear KK XX;by_cases h4:j=4
  ·subst h4
   have F:=jh3 s1 o1 j1;clear s1 o1 j1 hj
   gi_wp2
   first | go_end0 | refine bodyPost_ret (results_none rfl _ _ _) rfl ?_
   exact ⟨⟨_,rfl⟩,cr,F.out.2.1,F.out.1,.inl F.out.2.2⟩
  ·have hx:hs4.take j++[((j+1:Nat):Int)]=hs4.take (j+1)∧(hs4.take j++[((j+1:Nat):Int)]) <+: hs4:=by
    rcases (by omega:j=0∨j=1∨j=2∨j=3) with rfl | rfl | rfl | rfl
    ·exact ⟨rfl,⟨[2,3,4],rfl⟩⟩
    ·exact ⟨rfl,⟨[3,4],rfl⟩⟩
    ·exact ⟨rfl,⟨[4],rfl⟩⟩
    ·exact ⟨rfl,⟨[],rfl⟩⟩
   have hle:((j+1:Nat):Int)≤4:=by omega
   have hw:IntKind.i64.wrap (((j+1:Nat):Int)+1)=((j+1+1:Nat):Int):=by rw [IntWalk.i64_in _ (by omega)];rfl
   obtain ⟨n,hn⟩:=jE (j+1);have YA:=hY (hs4.take j) ((j+1:Nat):Int) cr wr #[.int .i64 ((j+1:Nat):Int),.slice va 1 vn] hx.2 j1 o1 (hst.trans s1) rfl;have X:=jh5 s1 hx hj h4 hn;clear s1 o1 j1 hx hj h4;rw [hn] at YA hle hw ⊢;clear hn;obtain ⟨fn,tmps,assign,body,hy,hR⟩:=YA
   gi_wp2
   refine ⟨rfl,hR.mono ?_⟩;rintro e W3 ⟨c3,o3,s3,(⟨rfl,hJ3⟩ | ⟨rfl,hJx3⟩)⟩
   ·gi_wp2
    go_roundw
    case rel=>
     obtain ⟨s1,⟨hx1,hx2⟩,hj,h4,hn⟩:=X.out;exact ⟨rfl,rfl,n,c3,by omega,by first | rfl | (rw [←hn]),s1.trans s3,o3,by rw [←hn,←hx1];exact (by rw [←hn] at hJ3;exact hJ3)⟩
    case measure=>simp [intOf];omega
   ·gi_wp2
    refine bodyPost_ret (results_none rfl _ _ _) rfl ?_;obtain ⟨s1,⟨hx1,hx2⟩,hj,h4,hn⟩:=X.out;exact ⟨⟨_,rfl⟩,c3,o3,s1.trans s3,.inr ⟨_,hx2,by rw [←hn] at hJx3;exact hJx3⟩⟩
