/- ServerReplies, part 05: lemmas, each with its own conditions. -/
import Derived.Test.YtgcobbapaaihiaaGreatSz04
set_option linter.all false
set_option maxHeartbeats 12800000
set_option maxRecDepth 100000
open Go.Proofs.Tryz
namespace Go.Proofs.YtgcobbapaaihiaaGreat
open Go.RowKit
section
variable {c:Col}{w:World}
theorem takeB_any (hok:Ok c w) {k p:Nat}{bs:List UInt8}{a:Nat}{f:Int×Int}(h:IsRd c k w p bs a f) (hk0:k≠0) (n:Nat) (hn:a+n≤bs.length) (at0:Int) :
  Calls prog 102 #[.pointer (some ⟨p,0,none⟩),.int .i64 n,.int .i64 at0,.func (.func 95) #[] #[]] w fun r w'=>∃v,r=.returned v∧∃c',Own zag 5 c' 0 0 w' v ((bs.drop a).take n)∧IsRd c' k w' p bs (a+n) f∧Step (One k) c w c' w'∧Ok c' w':=by
 obtain ⟨bv,x,ow⟩:=h.row;have hle:=h.le;have hfew:=h.few
 obtain ⟨va,vc,hbv,hcap,hcase⟩:∃va vc,bv=.slice va bs.length vc∧bs.length≤vc∧((va=none∧vc=0)∨∃g,va=some ⟨g,0,none⟩):=by
  rcases ow.form2 with ⟨rfl,rfl⟩ | ⟨g,cap,rfl,hc⟩
  ·exact ⟨none,0,rfl,Nat.le_refl _,.inl ⟨rfl,rfl⟩⟩
  ·exact ⟨_,cap,rfl,hc,.inr ⟨g,rfl⟩⟩
 subst hbv;have y0:=x.get (i:=0) rfl;have y1:=x.get (i:=1) rfl;have y1f:=x.fz hok hk0 1;have hcp:c p=k:=x.col;have hd:decide ((n:Int)≤(bs.length:Int)-(a:Int))=true:=by simp;omega
 have hw:IntKind.i64.wrap ((bs.length:Int)-(a:Int))=(bs.length:Int)-(a:Int):=IntWalk.i64_in _ (by omega);have hw2:IntKind.i64.wrap ((a:Int)+(n:Int))=(a:Int)+(n:Int):=IntWalk.i64_in _ (by omega);have hw3:IntKind.i64.wrap (a:Int)=(a:Int):=IntWalk.i64_in _ (by omega);have ht:((a:Int)+(n:Int)).toNat-a=n:=by omega
 have ha0:(0:Int)≤(a:Int):=by omega
 have ha1:(a:Int)≤(a:Int)+(n:Int):=by omega
 have ha2:(a:Int)+(n:Int)≤(vc:Int):=by omega
 have M:=zbF w.drew 6 at0;have m1:=h.move hk0 (a':=a+n) hn;rw [Int.natCast_add] at m1
 have z0:(w.setCell ⟨p,1,none⟩ (.int .i64 ((a:Int)+(n:Int)))).drew.drew.cell? ⟨p,0,none⟩=some (.slice va bs.length vc):=by
  show (w.setCell ⟨p,1,none⟩ (.int .i64 ((a:Int)+(n:Int)))).cell? ⟨p,0,none⟩=_;rw [World.cell?_setCell_other _ _ _ _ (by intro e;injection e with e1 e2;cases e2)];exact y0
 have z1:(w.setCell ⟨p,1,none⟩ (.int .i64 ((a:Int)+(n:Int)))).drew.drew.cell? ⟨p,1,none⟩=some (.int .i64 ((a:Int)+(n:Int))):=
  World.cell?_setCell_same' _ _ _ (by rw [y1];rfl)
 have s1:Step (One k) c w c ((w.setCell ⟨p,1,none⟩ (.int .i64 ((a:Int)+(n:Int)))).drewN 2):=((Step.refl (K:=One k)).setCell (a:=⟨p,1,none⟩) (.inr x.col) _).drewN 2;have ok1:Ok c ((w.setCell ⟨p,1,none⟩ (.int .i64 ((a:Int)+(n:Int)))).drewN 2):=(hok.setCell _ _).drewN 2;have ow1:Own zag 5 c 0 0 ((w.setCell ⟨p,1,none⟩ (.int .i64 ((a:Int)+(n:Int)))).drewN 2) (.slice va bs.length vc) bs:=(ow.set (a:=⟨p,1,none⟩) (by show c p≠0;omega) (by show c p≠0;omega) _).kn (Step.rf.drewN 2);have hm2:=m1.kn (Step.rf.drewN 2);have HH:=jh2 hm2 s1;have OK:=jh1 ok1;have K1:(fun W=>W.cell? ⟨p,0,none⟩=some (.slice va bs.length vc)∧W.cell? ⟨p,1,none⟩=some (.int .i64 a)) w.drew:=⟨y0,y1⟩;by_cases hca:vc=a
 ·have HN:=jh1 (show n=0 by omega)
  have hca1:(vc=a)=True:=eq_true hca;have hva:vc-a=0:=by omega
  clear hca;have HL:=jh1 (show p<((w.setCell ⟨p,1,none⟩ (.int .i64 ((a:Int)+(n:Int)))).drewN 2).heap.size by obtain ⟨_,xx,_⟩:=hm2.row;exact xx.lt);have SL:Sl zag c 0 0 ((w.setCell ⟨p,1,none⟩ (.int .i64 ((a:Int)+(n:Int)))).drewN 2) (.slice va n 0) ((bs.drop a).take n):=by rw [HN.out];exact .inl ⟨by simp,_,_,rfl,Nat.zero_le _,fun _=>rfl⟩
  have B:=clone_any ok1 0 SL (by rw [List.length_take,List.length_drop];omega);clear x ow hok h m1 hm2 s1 ok1 ow1 SL;go_enter func102,ntmps102;go_wp2_with fail;refine zac (fun W=>W.cell? ⟨p,0,none⟩=some (.slice va bs.length vc)∧W.cell? ⟨p,1,none⟩=some (.int .i64 a)) (fun _=>true) (by kernel_rfl) ?_;refine tk2 0 _ 9 rfl rfl K1 ?_;refine tk2 1 _ 10 rfl rfl K1 ?_;refine tk2 2 _ 11 rfl rfl K1 ?_;refine tk2 3 _ 12 rfl rfl K1 ?_;refine tk2 4 _ 13 rfl rfl K1 ?_;refine tk2 5 _ 14 rfl rfl K1 ?_;refine tk2 6 _ 15 rfl rfl K1 ?_;refine tk2 7 _ 16 rfl rfl K1 ?_;refine tk2 8 _ 17 rfl rfl K1 ?_;refine tk2 9 _ 18 rfl rfl K1 ?_;refine tk2 10 _ 19 rfl rfl K1 ?_;refine tk2 11 (.bool true) 20 rfl rfl K1 ?_;refine tk2 12 _ 21 rfl rfl K1 ?_;refine zab.one (i:=13) (by kernel_rfl) rfl (fun KQ hK=>?_);go_simp;refine M.mono ?_;rintro e w1 ⟨rfl,rfl⟩;refine hK.out _ _ (fun _=>K1) ?_;clear hK KQ
  (try simp only [jS])
  refine zab.done (by kernel_rfl) ?_ _;go_wp2_with fail;clear y0 y1 K1 M hd hw;have K2:(fun W=>W.cell? ⟨p,0,none⟩=some (.slice va bs.length vc)∧W.cell? ⟨p,1,none⟩=some (.int .i64 ((a:Int)+(n:Int)))) (w.setCell ⟨p,1,none⟩ (.int .i64 ((a:Int)+(n:Int)))).drew.drew:=⟨z0,z1⟩;refine zac (fun W=>W.cell? ⟨p,0,none⟩=some (.slice va bs.length vc)∧W.cell? ⟨p,1,none⟩=some (.int .i64 ((a:Int)+(n:Int)))) (fun _=>true) (by kernel_rfl) ?_;refine tk2 0 _ 31 rfl rfl K2 ?_;refine tk2 1 _ 32 rfl rfl K2 ?_;refine tk2 2 _ 33 rfl rfl K2 ?_;refine tk2 3 _ 34 rfl rfl K2 ?_;refine tk2 4 _ 35 rfl rfl K2 ?_;refine tk2 5 _ 36 rfl rfl K2 ?_;refine tk2 6 _ 37 rfl rfl K2 ?_;refine tk2 7 _ 38 rfl rfl K2 ?_;refine tk2 8 _ 39 rfl rfl K2 ?_;refine tk2 9 _ 40 rfl rfl K2 ?_;refine tk2 10 (.int .i64 a) 41 rfl rfl K2 ?_;refine tk2 11 _ 42 rfl rfl K2 ?_;refine tk2 12 _ 43 rfl rfl K2 ?_;refine tk2 13 _ 44 rfl rfl K2 ?_;refine tk2 14 _ 45 rfl rfl K2 ?_;refine tk2 15 (.slice va n 0) 46 rfl rfl K2 ?_;refine zab.one (i:=16) (by kernel_rfl) rfl (fun KQ hK=>?_);go_simp;refine B.mono ?_;rintro e w1 ⟨v1,c2,rfl,p1,s2,o2⟩;have K3:(fun W:World=>W.cell? ⟨p,0,none⟩=some (.slice va bs.length vc)∧W.cell? ⟨p,1,none⟩=some (.int .i64 ((a:Int)+(n:Int)))) w1:=⟨(s2.cell HL.out jI).trans z0,(s2.cell HL.out jI).trans z1⟩;have HX:=jh4 p1 (HH.out.1.kn s2) (HH.out.2.trans s2.ofNo) o2;clear p1 s2 o2;refine hK.out _ _ (fun _=>K3) ?_;clear hK KQ
  (try simp only [jS])
  refine zab.one (i:=17) (by kernel_rfl) rfl (fun KQ hK=>?_);go_simp;refine hK.out _ _ (fun _=>K3) ?_;clear hK KQ
  (try simp only [jS])
  refine zab.done (by kernel_rfl) ?_ _;go_wp2;go_ret;exact ⟨_,rfl,c2,HX.out⟩
 ·obtain ⟨g,rfl⟩:∃g,va=some ⟨g,0,none⟩:=by
   rcases hcase with ⟨rfl,rfl⟩ | h
   ·exact absurd (by omega) hca
   ·exact h
  have HL:=jh1 (show p<((w.setCell ⟨p,1,none⟩ (.int .i64 ((a:Int)+(n:Int)))).drewN 2).heap.size by obtain ⟨_,xx,_⟩:=hm2.row;exact xx.lt);have SL:Sl zag c 0 0 ((w.setCell ⟨p,1,none⟩ (.int .i64 ((a:Int)+(n:Int)))).drewN 2) (.slice (some ⟨g,a,none⟩) n (vc-a)) ((bs.drop a).take n):=by have:=ow1.sl.sub a n hn;rwa [Nat.zero_add] at this
  have B:=clone_any ok1 0 SL (by rw [List.length_take,List.length_drop];omega);clear x ow hok h m1 hm2 s1 ok1 ow1 SL;go_enter func102,ntmps102;go_wp2_with fail;refine zac (fun W=>W.cell? ⟨p,0,none⟩=some (.slice (some ⟨g,0,none⟩) bs.length vc)∧W.cell? ⟨p,1,none⟩=some (.int .i64 a)) (fun _=>true) (by kernel_rfl) ?_;refine tk2 0 _ 9 rfl rfl K1 ?_;refine tk2 1 _ 10 rfl rfl K1 ?_;refine tk2 2 _ 11 rfl rfl K1 ?_;refine tk2 3 _ 12 rfl rfl K1 ?_;refine tk2 4 _ 13 rfl rfl K1 ?_;refine tk2 5 _ 14 rfl rfl K1 ?_;refine tk2 6 _ 15 rfl rfl K1 ?_;refine tk2 7 _ 16 rfl rfl K1 ?_;refine tk2 8 _ 17 rfl rfl K1 ?_;refine tk2 9 _ 18 rfl rfl K1 ?_;refine tk2 10 _ 19 rfl rfl K1 ?_;refine tk2 11 (.bool true) 20 rfl rfl K1 ?_;refine tk2 12 _ 21 rfl rfl K1 ?_;refine zab.one (i:=13) (by kernel_rfl) rfl (fun KQ hK=>?_);go_simp;refine M.mono ?_;rintro e w1 ⟨rfl,rfl⟩;refine hK.out _ _ (fun _=>K1) ?_;clear hK KQ
  (try simp only [jS])
  refine zab.done (by kernel_rfl) ?_ _;go_wp2_with fail;clear y0 y1 K1 M hd hw;have K2:(fun W=>W.cell? ⟨p,0,none⟩=some (.slice (some ⟨g,0,none⟩) bs.length vc)∧W.cell? ⟨p,1,none⟩=some (.int .i64 ((a:Int)+(n:Int)))) (w.setCell ⟨p,1,none⟩ (.int .i64 ((a:Int)+(n:Int)))).drew.drew:=⟨z0,z1⟩;refine zac (fun W=>W.cell? ⟨p,0,none⟩=some (.slice (some ⟨g,0,none⟩) bs.length vc)∧W.cell? ⟨p,1,none⟩=some (.int .i64 ((a:Int)+(n:Int)))) (fun _=>true) (by kernel_rfl) ?_;refine tk2 0 _ 31 rfl rfl K2 ?_;refine tk2 1 _ 32 rfl rfl K2 ?_;refine tk2 2 _ 33 rfl rfl K2 ?_;refine tk2 3 _ 34 rfl rfl K2 ?_;refine tk2 4 _ 35 rfl rfl K2 ?_;refine tk2 5 _ 36 rfl rfl K2 ?_;refine tk2 6 _ 37 rfl rfl K2 ?_;refine tk2 7 _ 38 rfl rfl K2 ?_;refine tk2 8 _ 39 rfl rfl K2 ?_;refine tk2 9 _ 40 rfl rfl K2 ?_;refine tk2 10 (.int .i64 a) 41 rfl rfl K2 ?_;refine tk2 11 _ 42 rfl rfl K2 ?_;refine tk2 12 _ 43 rfl rfl K2 ?_;refine tk2 13 _ 44 rfl rfl K2 ?_;refine tk2 14 _ 45 rfl rfl K2 ?_;refine tk2 15 (.slice (some ⟨g,a,none⟩) n (vc-a)) 46 rfl rfl K2 ?_;refine zab.one (i:=16) (by kernel_rfl) rfl (fun KQ hK=>?_);go_simp;refine B.mono ?_;rintro e w1 ⟨v1,c2,rfl,p1,s2,o2⟩;have K3:(fun W:World=>W.cell? ⟨p,0,none⟩=some (.slice (some ⟨g,0,none⟩) bs.length vc)∧W.cell? ⟨p,1,none⟩=some (.int .i64 ((a:Int)+(n:Int)))) w1:=⟨(s2.cell HL.out jI).trans z0,(s2.cell HL.out jI).trans z1⟩;have HX:=jh4 p1 (HH.out.1.kn s2) (HH.out.2.trans s2.ofNo) o2;clear p1 s2 o2;refine hK.out _ _ (fun _=>K3) ?_;clear hK KQ
  (try simp only [jS])
  refine zab.one (i:=17) (by kernel_rfl) rfl (fun KQ hK=>?_);go_simp;refine hK.out _ _ (fun _=>K3) ?_;clear hK KQ
  (try simp only [jS])
  refine zab.done (by kernel_rfl) ?_ _;go_wp2;go_ret;exact ⟨_,rfl,c2,HX.out⟩
theorem zai:(prog.info? 51).map (·.size)=some 32:=by kernel_rfl
theorem hash11_any (hok:Ok c w) {kx:Nat}{g off cap:Nat}{l:List UInt8}(h:Sl zag c kx 0 w (.slice (some ⟨g,off,none⟩) 32 cap) l) :
  Calls prog 169 #[.slice (some ⟨g,off,none⟩) 32 cap] w fun r w'=>r=.returned (.agg (bC l).toArray)∧l.length=32∧∃c',Step No c w c' w'∧Ok c' w':=by
 have hl:l.length=32:=by
  obtain ⟨_,_,hv,_⟩:=h.form;simp only [Value.slice.injEq] at hv;exact hv.2.1.symm
 have hc:w.rangeAt g off (bC l):=fun j v hv=>by
  obtain ⟨x,hx,rfl⟩:∃x,l[j]? = some x∧v=.int .u8 x.toNat:=by
   simp only [bC,List.getElem?_map,Option.map_eq_some_iff] at hv;obtain ⟨x,h1,h2⟩:=hv;exact ⟨x,h1,h2.symm⟩
  rw [←hl] at h;obtain ⟨vs,rfl,hcs⟩:=h.at hx;have:=hcs.get 0 rfl;simpa [zag] using this
 have hlt:g<w.heap.size:=by
  rcases h with ⟨rfl,_⟩ | ⟨b,o,cp,hv,_,_,_,h4,_⟩
  ·simp at hl
  ·simp only [Value.slice.injEq,Option.some.injEq,Addr.mk.injEq] at hv
   rw [hv.1.1];exact h4
 obtain ⟨q,hq,hqc⟩:=hok.spare 0;have hq0:q≠0:=by omega
 obtain ⟨a1,o1,s1⟩:=zan hok (bC (List.replicate 32 0)) 51 q;have hc2:(w.alloc (.cells (bC (List.replicate 32 0)).toArray 51)).rangeAt g off (bC l):=fun j v hv=>(s1.cell hlt jI).trans (hc j v hv);have hB1:=zaD l;have hBl:(bC l).length=32:=by rw [zaf,hl]
 have hr:∀W,(Instr.arrayAt 51 (.slice (some ⟨g,off,none⟩) 32 cap)).run prog W=.ok (.pointer (some ⟨g,off,none⟩)) W:=fun W=>by
  simp [Instr.arrayAt,run_underlying underlying51]
 obtain ⟨B,hB⟩:=jE (bC l);rw [hB] at hc2 hB1 hBl ⊢;have hi0:(prog.info? 51).map (·.size)=some B.length:=by rw [zai,hBl]
 have hi1:(prog.info? 51).map (·.size)=some B.toArray.size:=by rw [zai];simp [hBl]
 have ht0:=a1.there (o:=0) (n:=B.toArray.size) o1 hq0 (by simp [zaf,hBl]);obtain ⟨S0,a2⟩:=a1.st o1 hq0 (ty:=51) (us:=B) (by simp [zaf,hBl]) hi0 hB1;have s2:=Step.setCells (.inl (Nat.le_refl _)) B 0 _ s1;have o2:=Ok.setCells (b:=w.heap.size) B 0 _ o1;have HH:=jh9 a2 s2 o2 hl hc2 ht0 hi0 hi1 (all_oneCell_toArray hB1);clear hc hc2 a1 o1 s1 hqc hok h hB1 hBl hi0 hi1 ht0 S0 a2 s2 o2 hB hl;go_enter func169,ntmps169;go_wp2_with (first | (refine wpList_load_mid rfl 51 _ rfl g off rfl B _ HH.out.2.2.2.2.1 underlying51 rfl HH.out.2.2.2.2.2.2.1 ?_) | (refine wpList_store_mid rfl 51 _ _ rfl w.heap.size 0 B.toArray rfl rfl HH.out.2.2.2.2.2.1 HH.out.2.2.2.2.2.2.2.1 HH.out.2.2.2.2.2.2.2.2 ?_));refine bodyPost_ret (zad rfl _ _ w.heap.size 0 B _ rfl HH.out.1.cells underlying51 rfl HH.out.2.2.2.2.2.2.1) rfl ⟨rfl,HH.out.2.2.2.1,_,HH.out.2.1,HH.out.2.2.1⟩
theorem zaK:(prog.info? 91).map (·.size)=some 4:=by kernel_rfl
theorem key11_any (hok:Ok c w) {kx:Nat}{g off cap:Nat}{l:List UInt8}(h:Sl zag c kx 0 w (.slice (some ⟨g,off,none⟩) 4 cap) l) :
  Calls prog 177 #[.slice (some ⟨g,off,none⟩) 4 cap] w fun r w'=>r=.returned (.agg (bC l).toArray)∧l.length=4∧∃c',Step No c w c' w'∧Ok c' w':=by
 have hl:l.length=4:=by
  obtain ⟨_,_,hv,_⟩:=h.form;simp only [Value.slice.injEq] at hv;exact hv.2.1.symm
 have hc:w.rangeAt g off (bC l):=fun j v hv=>by
  obtain ⟨x,hx,rfl⟩:∃x,l[j]? = some x∧v=.int .u8 x.toNat:=by
   simp only [bC,List.getElem?_map,Option.map_eq_some_iff] at hv;obtain ⟨x,h1,h2⟩:=hv;exact ⟨x,h1,h2.symm⟩
  rw [←hl] at h;obtain ⟨vs,rfl,hcs⟩:=h.at hx;have:=hcs.get 0 rfl;simpa [zag] using this
 have hlt:g<w.heap.size:=by
  rcases h with ⟨rfl,_⟩ | ⟨b,o,cp,hv,_,_,_,h4,_⟩
  ·simp at hl
  ·simp only [Value.slice.injEq,Option.some.injEq,Addr.mk.injEq] at hv
   rw [hv.1.1];exact h4
 obtain ⟨q,hq,hqc⟩:=hok.spare 0;have hq0:q≠0:=by omega
 obtain ⟨a1,o1,s1⟩:=zan hok (bC (List.replicate 4 0)) 91 q;have hc2:(w.alloc (.cells (bC (List.replicate 4 0)).toArray 91)).rangeAt g off (bC l):=fun j v hv=>(s1.cell hlt jI).trans (hc j v hv);have hB1:=zaD l;have hBl:(bC l).length=4:=by rw [zaf,hl]
 have hr:∀W,(Instr.arrayAt 91 (.slice (some ⟨g,off,none⟩) 4 cap)).run prog W=.ok (.pointer (some ⟨g,off,none⟩)) W:=fun W=>by
  simp [Instr.arrayAt,run_underlying underlying91]
 obtain ⟨B,hB⟩:=jE (bC l);rw [hB] at hc2 hB1 hBl ⊢;have hi0:(prog.info? 91).map (·.size)=some B.length:=by rw [zaK,hBl]
 have hi1:(prog.info? 91).map (·.size)=some B.toArray.size:=by rw [zaK];simp [hBl]
 have ht0:=a1.there (o:=0) (n:=B.toArray.size) o1 hq0 (by simp [zaf,hBl]);obtain ⟨S0,a2⟩:=a1.st o1 hq0 (ty:=91) (us:=B) (by simp [zaf,hBl]) hi0 hB1;have s2:=Step.setCells (.inl (Nat.le_refl _)) B 0 _ s1;have o2:=Ok.setCells (b:=w.heap.size) B 0 _ o1;have HH:=jh9 a2 s2 o2 hl hc2 ht0 hi0 hi1 (all_oneCell_toArray hB1);clear hc hc2 a1 o1 s1 hqc hok h hB1 hBl hi0 hi1 ht0 S0 a2 s2 o2 hB hl;go_enter func177,ntmps177;go_wp2_with (first | (refine wpList_load_mid rfl 91 _ rfl g off rfl B _ HH.out.2.2.2.2.1 underlying91 rfl HH.out.2.2.2.2.2.2.1 ?_) | (refine wpList_store_mid rfl 91 _ _ rfl w.heap.size 0 B.toArray rfl rfl HH.out.2.2.2.2.2.1 HH.out.2.2.2.2.2.2.2.1 HH.out.2.2.2.2.2.2.2.2 ?_));refine bodyPost_ret (zad rfl _ _ w.heap.size 0 B _ rfl HH.out.1.cells underlying91 rfl HH.out.2.2.2.2.2.2.1) rfl ⟨rfl,HH.out.2.2.2.1,_,HH.out.2.1,HH.out.2.2.1⟩
end
section
variable {P:Program}
theorem zar {ops:Array Oper}{o:Oper}{a:Act}{w:World}{K:Act→World→Prop}{Q:Exit→Act→World→Prop}{E:Prop}(hgd:o.guard=none) (ty:TypeId) (x y:Operand) (ho:o.op=.store ty x y)
  (b off:Nat) (cells:Array Value) (hx:a.eval x=.pointer (some ⟨b,off,none⟩)) (hy:a.eval y=.agg cells)
  (ht:w.there b off cells.size) (hi:(P.info? ty).map (·.size)=some cells.size) (h1:cells.all (·.oneCell')=true)
  (h:K (a.put o.dst undef) (w.setCells b off cells.toList)):if Region.wanted o (yielded ops a.tmps)=true then Oper.wp P o a w K Q else E:=by
 rw [if_pos (by simp [Region.wanted,hgd])];exact wp_store_mid ty x y ho b off cells hx hy ht hi h1 h
end
section
variable {c:Col}{w:World}
theorem hash11n (hok:Ok c w) {kx:Nat}{g off cap n:Nat}{l:List UInt8}(hn:n=32) (h:Sl zag c kx 0 w (.slice (some ⟨g,off,none⟩) n cap) l) :
  Calls prog 169 #[.slice (some ⟨g,off,none⟩) n cap] w fun r w'=>r=.returned (.agg (bC l).toArray)∧l.length=32∧∃c',Step No c w c' w'∧Ok c' w':=by
 subst hn;exact hash11_any hok h
theorem take_hash (hok:Ok c w) {k p:Nat}{bs:List UInt8}{a:Nat}{f:Int×Int}(h:IsRd c k w p bs a f) (hk0:k≠0) (n:Nat) (hn:a+n≤bs.length) (hN:n=32) (at0:Int) :
  Calls prog 168 #[.pointer (some ⟨p,0,none⟩),.int .i64 n,.int .i64 at0,.func (.func 169) #[] #[]] w fun r w'=>r=.returned (.agg (bC ((bs.drop a).take n)).toArray)∧∃c',IsRd c' k w' p bs (a+n) f∧Step (One k) c w c' w'∧Ok c' w':=by
 obtain ⟨q,hq,hqc⟩:=hok.spare k;have hq0:q≠0:=by omega
 obtain ⟨a0,ok0,s00⟩:=zan hok (bC (List.replicate 32 0)) 51 q;have h0:=h.kn s00;rw [show (bC (List.replicate 32 0)).toArray=#[.int .u8 0,.int .u8 0,.int .u8 0,.int .u8 0,.int .u8 0,.int .u8 0,.int .u8 0,.int .u8 0,.int .u8 0,.int .u8 0,.int .u8 0,.int .u8 0,.int .u8 0,.int .u8 0,.int .u8 0,.int .u8 0,.int .u8 0,.int .u8 0,.int .u8 0,.int .u8 0,.int .u8 0,.int .u8 0,.int .u8 0,.int .u8 0,.int .u8 0,.int .u8 0,.int .u8 0,.int .u8 0,.int .u8 0,.int .u8 0,.int .u8 0,.int .u8 0] from rfl] at a0 ok0 s00 h0;obtain ⟨w0,hw0⟩:=jE (w.alloc (.cells #[.int .u8 0,.int .u8 0,.int .u8 0,.int .u8 0,.int .u8 0,.int .u8 0,.int .u8 0,.int .u8 0,.int .u8 0,.int .u8 0,.int .u8 0,.int .u8 0,.int .u8 0,.int .u8 0,.int .u8 0,.int .u8 0,.int .u8 0,.int .u8 0,.int .u8 0,.int .u8 0,.int .u8 0,.int .u8 0,.int .u8 0,.int .u8 0,.int .u8 0,.int .u8 0,.int .u8 0,.int .u8 0,.int .u8 0,.int .u8 0,.int .u8 0,.int .u8 0] 51));obtain ⟨c0,hc0⟩:=jE (c.put w.heap.size q);obtain ⟨b0,hbe⟩:=jE w.heap.size;have hb0:w.heap.size≤b0:=by omega
 rw [hw0,hc0] at a0 ok0 s00 h0;rw [hbe] at a0
 have hpb:p≠b0:=fun e=>by
  obtain ⟨_,xx,_⟩:=h0.row;have e1:=xx.col;have e2:=a0.col;rw [e,e2] at e1;omega
 have S00:=jh1 s00;have HN:=jh1 hN;clear s00 h hok hqc hc0 hN;obtain ⟨bv,x,ow⟩:=h0.row;have hle:=h0.le;have hfew:=h0.few
 obtain ⟨va,vc,hbv,hcap,hcase⟩:∃va vc,bv=.slice va bs.length vc∧bs.length≤vc∧((va=none∧vc=0)∨∃g,va=some ⟨g,0,none⟩):=by
  rcases ow.form2 with ⟨rfl,rfl⟩ | ⟨g,cap,rfl,hc⟩
  ·exact ⟨none,0,rfl,Nat.le_refl _,.inl ⟨rfl,rfl⟩⟩
  ·exact ⟨_,cap,rfl,hc,.inr ⟨g,rfl⟩⟩
 subst hbv;have y0:=x.get (i:=0) rfl;have y1:=x.get (i:=1) rfl;have y1f:=x.fz ok0 hk0 1;have hcp:c0 p=k:=x.col;have hd:decide ((n:Int)≤(bs.length:Int)-(a:Int))=true:=by simp;omega
 have hw:IntKind.i64.wrap ((bs.length:Int)-(a:Int))=(bs.length:Int)-(a:Int):=IntWalk.i64_in _ (by omega);have hw2:IntKind.i64.wrap ((a:Int)+(n:Int))=(a:Int)+(n:Int):=IntWalk.i64_in _ (by omega);have hw3:IntKind.i64.wrap (a:Int)=(a:Int):=IntWalk.i64_in _ (by omega);have ht:((a:Int)+(n:Int)).toNat-a=n:=by omega
 have ha0:(0:Int)≤(a:Int):=by omega
 have ha1:(a:Int)≤(a:Int)+(n:Int):=by omega
 have ha2:(a:Int)+(n:Int)≤(vc:Int):=by omega
 have M:=zbF w0.drew 6 at0;have m1:=h0.move hk0 (a':=a+n) hn;rw [Int.natCast_add] at m1
 have z0:(w0.setCell ⟨p,1,none⟩ (.int .i64 ((a:Int)+(n:Int)))).drew.drew.cell? ⟨p,0,none⟩=some (.slice va bs.length vc):=by
  show (w0.setCell ⟨p,1,none⟩ (.int .i64 ((a:Int)+(n:Int)))).cell? ⟨p,0,none⟩=_;rw [World.cell?_setCell_other _ _ _ _ (by intro e;injection e with e1 e2;cases e2)];exact y0
 have z1:(w0.setCell ⟨p,1,none⟩ (.int .i64 ((a:Int)+(n:Int)))).drew.drew.cell? ⟨p,1,none⟩=some (.int .i64 ((a:Int)+(n:Int))):=
  World.cell?_setCell_same' _ _ _ (by rw [y1];rfl)
 have s1:Step (One k) c0 w0 c0 ((w0.setCell ⟨p,1,none⟩ (.int .i64 ((a:Int)+(n:Int)))).drewN 2):=((Step.refl (K:=One k)).setCell (a:=⟨p,1,none⟩) (.inr x.col) _).drewN 2;have ok1:Ok c0 ((w0.setCell ⟨p,1,none⟩ (.int .i64 ((a:Int)+(n:Int)))).drewN 2):=(ok0.setCell _ _).drewN 2;have ow1:Own zag 5 c0 0 0 ((w0.setCell ⟨p,1,none⟩ (.int .i64 ((a:Int)+(n:Int)))).drewN 2) (.slice va bs.length vc) bs:=(ow.set (a:=⟨p,1,none⟩) (by show c0 p≠0;omega) (by show c0 p≠0;omega) _).kn (Step.rf.drewN 2);have hm2:=m1.kn (Step.rf.drewN 2);have HH:=jh2 hm2 s1;have OK:=jh1 ok1;have K1:(fun W=>W.cell? ⟨p,0,none⟩=some (.slice va bs.length vc)∧W.cell? ⟨p,1,none⟩=some (.int .i64 a)) w0.drew:=⟨y0,y1⟩;by_cases hca:vc=a
 ·exact absurd hca (by have:=HN.out;omega)
 ·obtain ⟨g,rfl⟩:∃g,va=some ⟨g,0,none⟩:=by
   rcases hcase with ⟨rfl,rfl⟩ | h0
   ·exact absurd (by omega) hca
   ·exact h0
  have HL:=jh1 (show p<((w0.setCell ⟨p,1,none⟩ (.int .i64 ((a:Int)+(n:Int)))).drewN 2).heap.size by obtain ⟨_,xx,_⟩:=hm2.row;exact xx.lt);have A0:=jh1 (show At c0 ((w0.setCell ⟨p,1,none⟩ (.int .i64 ((a:Int)+(n:Int)))).drewN 2) b0 q (bC (List.replicate 32 0)) from (a0.offC p 1 _ (fun e=>hpb e.symm)).keep (Step.rf.drewN 2) (fun h0=>h0));have SL:Sl zag c0 0 0 ((w0.setCell ⟨p,1,none⟩ (.int .i64 ((a:Int)+(n:Int)))).drewN 2) (.slice (some ⟨g,a,none⟩) n (vc-a)) ((bs.drop a).take n):=by have:=ow1.sl.sub a n hn;rwa [Nat.zero_add] at this
  have B:=hash11n ok1 HN.out SL;clear x ow ok0 h0 m1 hm2 s1 ok1 ow1 SL;go_enter func168,ntmps168;go_wp2_with fail
  (try rw [hw0])
  (try rw [hbe])
  refine zac (fun W=>W.cell? ⟨p,0,none⟩=some (.slice (some ⟨g,0,none⟩) bs.length vc)∧W.cell? ⟨p,1,none⟩=some (.int .i64 a)) (fun _=>true) (by kernel_rfl) ?_;refine tk2 0 _ 9 rfl rfl K1 ?_;refine tk2 1 _ 10 rfl rfl K1 ?_;refine tk2 2 _ 11 rfl rfl K1 ?_;refine tk2 3 _ 12 rfl rfl K1 ?_;refine tk2 4 _ 13 rfl rfl K1 ?_;refine tk2 5 _ 14 rfl rfl K1 ?_;refine tk2 6 _ 15 rfl rfl K1 ?_;refine tk2 7 _ 16 rfl rfl K1 ?_;refine tk2 8 _ 17 rfl rfl K1 ?_;refine tk2 9 _ 18 rfl rfl K1 ?_;refine tk2 10 _ 19 rfl rfl K1 ?_;refine tk2 11 (.bool true) 20 rfl rfl K1 ?_;refine tk2 12 _ 21 rfl rfl K1 ?_;refine zab.one (i:=13) (by kernel_rfl) rfl (fun KQ hK=>?_);go_simp;refine M.mono ?_;rintro e w1 ⟨rfl,rfl⟩;refine hK.out _ _ (fun _=>K1) ?_;clear hK KQ
  (try simp only [jS])
  refine zab.done (by kernel_rfl) ?_ _;go_wp2_with fail;clear y0 y1 K1 M hd hw;have K2:(fun W=>W.cell? ⟨p,0,none⟩=some (.slice (some ⟨g,0,none⟩) bs.length vc)∧W.cell? ⟨p,1,none⟩=some (.int .i64 ((a:Int)+(n:Int)))) (w0.setCell ⟨p,1,none⟩ (.int .i64 ((a:Int)+(n:Int)))).drew.drew:=⟨z0,z1⟩;refine zac (fun W=>W.cell? ⟨p,0,none⟩=some (.slice (some ⟨g,0,none⟩) bs.length vc)∧W.cell? ⟨p,1,none⟩=some (.int .i64 ((a:Int)+(n:Int)))) (fun _=>true) (by kernel_rfl) ?_;refine tk2 0 _ 31 rfl rfl K2 ?_;refine tk2 1 _ 32 rfl rfl K2 ?_;refine tk2 2 _ 33 rfl rfl K2 ?_;refine tk2 3 _ 34 rfl rfl K2 ?_;refine tk2 4 _ 35 rfl rfl K2 ?_;refine tk2 5 _ 36 rfl rfl K2 ?_;refine tk2 6 _ 37 rfl rfl K2 ?_;refine tk2 7 _ 38 rfl rfl K2 ?_;refine tk2 8 _ 39 rfl rfl K2 ?_;refine tk2 9 _ 40 rfl rfl K2 ?_;refine tk2 10 (.int .i64 a) 41 rfl rfl K2 ?_;refine tk2 11 _ 42 rfl rfl K2 ?_;refine tk2 12 _ 43 rfl rfl K2 ?_;refine tk2 13 _ 44 rfl rfl K2 ?_;refine tk2 14 _ 45 rfl rfl K2 ?_;refine tk2 15 (.slice (some ⟨g,a,none⟩) n (vc-a)) 46 rfl rfl K2 ?_;refine zab.one (i:=16) (by kernel_rfl) rfl (fun KQ hK=>?_);go_simp;refine B.mono ?_;rintro e w1 ⟨rfl,hBl0,c2,s2,o2⟩;have K3:(fun W:World=>W.cell? ⟨p,0,none⟩=some (.slice (some ⟨g,0,none⟩) bs.length vc)∧W.cell? ⟨p,1,none⟩=some (.int .i64 ((a:Int)+(n:Int)))) w1:=⟨(s2.cell HL.out (fun h0=>h0)).trans z0,(s2.cell HL.out (fun h0=>h0)).trans z1⟩;obtain ⟨B,hB⟩:=jE (bC ((bs.drop a).take n));have hB1:∀v∈B,v.oneCell'=true:=by rw [←hB];exact zaD _
  have hBl:B.length=32:=by rw [←hB,zaf];exact hBl0
  rw [hB];have a1:=A0.out.keep s2 (fun h0=>h0);have hi0:(prog.info? 51).map (·.size)=some B.length:=by rw [zai,hBl]
  have hi1:(prog.info? 51).map (·.size)=some B.toArray.size:=by rw [zai];simp [hBl]
  have ht0:=a1.there (o:=0) (n:=B.toArray.size) o2 hq0 (by simp [zaf,hBl]);obtain ⟨S0,a2⟩:=a1.st o2 hq0 (ty:=51) (us:=B) (by simp [zaf,hBl]) hi0 hB1;have s3:Step (One q) c2 w1 c2 (w1.setCells b0 0 B):=Step.setCells (.inr a1.col) _ _ _ Step.refl;have K4:(fun W:World=>W.cell? ⟨p,0,none⟩=some (.slice (some ⟨g,0,none⟩) bs.length vc)∧W.cell? ⟨p,1,none⟩=some (.int .i64 ((a:Int)+(n:Int)))) (w1.setCells b0 0 B):=⟨(World.cell?_setCells_out b0 B 0 w1 ⟨p,0,none⟩ (fun e _=>absurd e hpb)).trans K3.1,(World.cell?_setCells_out b0 B 0 w1 ⟨p,1,none⟩ (fun e _=>absurd e hpb)).trans K3.2⟩;have HX:=jh9 a2 ((HH.out.1.kn s2).keep s3 (show ¬k=q by omega) (show ¬0=q by omega)) (Step.setCells (.inl hb0) B 0 _ ((S00.out.ofNo.trans HH.out.2).trans s2.ofNo)) (Ok.setCells (b:=b0) B 0 _ o2) hB ht0 hi0 hi1 (all_oneCell_toArray hB1);clear a1 a2 s2 o2 s3 S0 hB hB1 hBl hBl0 ht0 hi0 hi1;refine hK.out _ _ (fun _=>K3) ?_;clear hK KQ
  (try simp only [jS])
  refine zab.one (i:=17) (by kernel_rfl) rfl (fun KQ hK=>?_);refine zar rfl 51 _ _ rfl b0 0 B.toArray rfl rfl HX.out.2.2.2.2.2.1 HX.out.2.2.2.2.2.2.2.1 HX.out.2.2.2.2.2.2.2.2 ?_;simp only [List.toList_toArray];refine hK.out _ _ (fun _=>K4) ?_;clear hK KQ
  (try simp only [jS])
  refine zab.done (by kernel_rfl) ?_ _;go_wp2_with fail;refine bodyPost_ret (zad rfl _ _ b0 0 B _ rfl HX.out.1.cells underlying51 rfl HX.out.2.2.2.2.2.2.1) rfl ⟨by rw [HX.out.2.2.2.2.1],c2,HX.out.2.1,HX.out.2.2.1,HX.out.2.2.2.1⟩
theorem key11n (hok:Ok c w) {kx:Nat}{g off cap n:Nat}{l:List UInt8}(hn:n=4) (h:Sl zag c kx 0 w (.slice (some ⟨g,off,none⟩) n cap) l) :
  Calls prog 177 #[.slice (some ⟨g,off,none⟩) n cap] w fun r w'=>r=.returned (.agg (bC l).toArray)∧l.length=4∧∃c',Step No c w c' w'∧Ok c' w':=by
 subst hn;exact key11_any hok h
theorem take_key (hok:Ok c w) {k p:Nat}{bs:List UInt8}{a:Nat}{f:Int×Int}(h:IsRd c k w p bs a f) (hk0:k≠0) (n:Nat) (hn:a+n≤bs.length) (hN:n=4) (at0:Int) :
  Calls prog 176 #[.pointer (some ⟨p,0,none⟩),.int .i64 n,.int .i64 at0,.func (.func 177) #[] #[]] w fun r w'=>r=.returned (.agg (bC ((bs.drop a).take n)).toArray)∧∃c',IsRd c' k w' p bs (a+n) f∧Step (One k) c w c' w'∧Ok c' w':=by
 obtain ⟨q,hq,hqc⟩:=hok.spare k;have hq0:q≠0:=by omega
 obtain ⟨a0,ok0,s00⟩:=zan hok (bC (List.replicate 4 0)) 91 q;have h0:=h.kn s00;rw [show (bC (List.replicate 4 0)).toArray=#[.int .u8 0,.int .u8 0,.int .u8 0,.int .u8 0] from rfl] at a0 ok0 s00 h0;obtain ⟨w0,hw0⟩:=jE (w.alloc (.cells #[.int .u8 0,.int .u8 0,.int .u8 0,.int .u8 0] 91));obtain ⟨c0,hc0⟩:=jE (c.put w.heap.size q);obtain ⟨b0,hbe⟩:=jE w.heap.size;have hb0:w.heap.size≤b0:=by omega
 rw [hw0,hc0] at a0 ok0 s00 h0;rw [hbe] at a0
 have hpb:p≠b0:=fun e=>by
  obtain ⟨_,xx,_⟩:=h0.row;have e1:=xx.col;have e2:=a0.col;rw [e,e2] at e1;omega
 have S00:=jh1 s00;have HN:=jh1 hN;clear s00 h hok hqc hc0 hN;obtain ⟨bv,x,ow⟩:=h0.row;have hle:=h0.le;have hfew:=h0.few
 obtain ⟨va,vc,hbv,hcap,hcase⟩:∃va vc,bv=.slice va bs.length vc∧bs.length≤vc∧((va=none∧vc=0)∨∃g,va=some ⟨g,0,none⟩):=by
  rcases ow.form2 with ⟨rfl,rfl⟩ | ⟨g,cap,rfl,hc⟩
  ·exact ⟨none,0,rfl,Nat.le_refl _,.inl ⟨rfl,rfl⟩⟩
  ·exact ⟨_,cap,rfl,hc,.inr ⟨g,rfl⟩⟩
 subst hbv;have y0:=x.get (i:=0) rfl;have y1:=x.get (i:=1) rfl;have y1f:=x.fz ok0 hk0 1;have hcp:c0 p=k:=x.col;have hd:decide ((n:Int)≤(bs.length:Int)-(a:Int))=true:=by simp;omega
 have hw:IntKind.i64.wrap ((bs.length:Int)-(a:Int))=(bs.length:Int)-(a:Int):=IntWalk.i64_in _ (by omega);have hw2:IntKind.i64.wrap ((a:Int)+(n:Int))=(a:Int)+(n:Int):=IntWalk.i64_in _ (by omega);have hw3:IntKind.i64.wrap (a:Int)=(a:Int):=IntWalk.i64_in _ (by omega);have ht:((a:Int)+(n:Int)).toNat-a=n:=by omega
 have ha0:(0:Int)≤(a:Int):=by omega
 have ha1:(a:Int)≤(a:Int)+(n:Int):=by omega
 have ha2:(a:Int)+(n:Int)≤(vc:Int):=by omega
 have M:=zbF w0.drew 6 at0;have m1:=h0.move hk0 (a':=a+n) hn;rw [Int.natCast_add] at m1
 have z0:(w0.setCell ⟨p,1,none⟩ (.int .i64 ((a:Int)+(n:Int)))).drew.drew.cell? ⟨p,0,none⟩=some (.slice va bs.length vc):=by
  show (w0.setCell ⟨p,1,none⟩ (.int .i64 ((a:Int)+(n:Int)))).cell? ⟨p,0,none⟩=_;rw [World.cell?_setCell_other _ _ _ _ (by intro e;injection e with e1 e2;cases e2)];exact y0
 have z1:(w0.setCell ⟨p,1,none⟩ (.int .i64 ((a:Int)+(n:Int)))).drew.drew.cell? ⟨p,1,none⟩=some (.int .i64 ((a:Int)+(n:Int))):=
  World.cell?_setCell_same' _ _ _ (by rw [y1];rfl)
 have s1:Step (One k) c0 w0 c0 ((w0.setCell ⟨p,1,none⟩ (.int .i64 ((a:Int)+(n:Int)))).drewN 2):=((Step.refl (K:=One k)).setCell (a:=⟨p,1,none⟩) (.inr x.col) _).drewN 2;have ok1:Ok c0 ((w0.setCell ⟨p,1,none⟩ (.int .i64 ((a:Int)+(n:Int)))).drewN 2):=(ok0.setCell _ _).drewN 2;have ow1:Own zag 5 c0 0 0 ((w0.setCell ⟨p,1,none⟩ (.int .i64 ((a:Int)+(n:Int)))).drewN 2) (.slice va bs.length vc) bs:=(ow.set (a:=⟨p,1,none⟩) (by show c0 p≠0;omega) (by show c0 p≠0;omega) _).kn (Step.rf.drewN 2);have hm2:=m1.kn (Step.rf.drewN 2);have HH:=jh2 hm2 s1;have OK:=jh1 ok1;have K1:(fun W=>W.cell? ⟨p,0,none⟩=some (.slice va bs.length vc)∧W.cell? ⟨p,1,none⟩=some (.int .i64 a)) w0.drew:=⟨y0,y1⟩;by_cases hca:vc=a
 ·exact absurd hca (by have:=HN.out;omega)
 ·obtain ⟨g,rfl⟩:∃g,va=some ⟨g,0,none⟩:=by
   rcases hcase with ⟨rfl,rfl⟩ | h0
   ·exact absurd (by omega) hca
   ·exact h0
  have HL:=jh1 (show p<((w0.setCell ⟨p,1,none⟩ (.int .i64 ((a:Int)+(n:Int)))).drewN 2).heap.size by obtain ⟨_,xx,_⟩:=hm2.row;exact xx.lt);have A0:=jh1 (show At c0 ((w0.setCell ⟨p,1,none⟩ (.int .i64 ((a:Int)+(n:Int)))).drewN 2) b0 q (bC (List.replicate 4 0)) from (a0.offC p 1 _ (fun e=>hpb e.symm)).keep (Step.rf.drewN 2) (fun h0=>h0));have SL:Sl zag c0 0 0 ((w0.setCell ⟨p,1,none⟩ (.int .i64 ((a:Int)+(n:Int)))).drewN 2) (.slice (some ⟨g,a,none⟩) n (vc-a)) ((bs.drop a).take n):=by have:=ow1.sl.sub a n hn;rwa [Nat.zero_add] at this
  have B:=key11n ok1 HN.out SL;clear x ow ok0 h0 m1 hm2 s1 ok1 ow1 SL;go_enter func176,ntmps176;go_wp2_with fail
  (try rw [hw0])
  (try rw [hbe])
  refine zac (fun W=>W.cell? ⟨p,0,none⟩=some (.slice (some ⟨g,0,none⟩) bs.length vc)∧W.cell? ⟨p,1,none⟩=some (.int .i64 a)) (fun _=>true) (by kernel_rfl) ?_;refine tk2 0 _ 9 rfl rfl K1 ?_;refine tk2 1 _ 10 rfl rfl K1 ?_;refine tk2 2 _ 11 rfl rfl K1 ?_;refine tk2 3 _ 12 rfl rfl K1 ?_;refine tk2 4 _ 13 rfl rfl K1 ?_;refine tk2 5 _ 14 rfl rfl K1 ?_;refine tk2 6 _ 15 rfl rfl K1 ?_;refine tk2 7 _ 16 rfl rfl K1 ?_;refine tk2 8 _ 17 rfl rfl K1 ?_;refine tk2 9 _ 18 rfl rfl K1 ?_;refine tk2 10 _ 19 rfl rfl K1 ?_;refine tk2 11 (.bool true) 20 rfl rfl K1 ?_;refine tk2 12 _ 21 rfl rfl K1 ?_;refine zab.one (i:=13) (by kernel_rfl) rfl (fun KQ hK=>?_);go_simp;refine M.mono ?_;rintro e w1 ⟨rfl,rfl⟩;refine hK.out _ _ (fun _=>K1) ?_;clear hK KQ
  (try simp only [jS])
  refine zab.done (by kernel_rfl) ?_ _;go_wp2_with fail;clear y0 y1 K1 M hd hw;have K2:(fun W=>W.cell? ⟨p,0,none⟩=some (.slice (some ⟨g,0,none⟩) bs.length vc)∧W.cell? ⟨p,1,none⟩=some (.int .i64 ((a:Int)+(n:Int)))) (w0.setCell ⟨p,1,none⟩ (.int .i64 ((a:Int)+(n:Int)))).drew.drew:=⟨z0,z1⟩;refine zac (fun W=>W.cell? ⟨p,0,none⟩=some (.slice (some ⟨g,0,none⟩) bs.length vc)∧W.cell? ⟨p,1,none⟩=some (.int .i64 ((a:Int)+(n:Int)))) (fun _=>true) (by kernel_rfl) ?_;refine tk2 0 _ 31 rfl rfl K2 ?_;refine tk2 1 _ 32 rfl rfl K2 ?_;refine tk2 2 _ 33 rfl rfl K2 ?_;refine tk2 3 _ 34 rfl rfl K2 ?_;refine tk2 4 _ 35 rfl rfl K2 ?_;refine tk2 5 _ 36 rfl rfl K2 ?_;refine tk2 6 _ 37 rfl rfl K2 ?_;refine tk2 7 _ 38 rfl rfl K2 ?_;refine tk2 8 _ 39 rfl rfl K2 ?_;refine tk2 9 _ 40 rfl rfl K2 ?_;refine tk2 10 (.int .i64 a) 41 rfl rfl K2 ?_;refine tk2 11 _ 42 rfl rfl K2 ?_;refine tk2 12 _ 43 rfl rfl K2 ?_;refine tk2 13 _ 44 rfl rfl K2 ?_;refine tk2 14 _ 45 rfl rfl K2 ?_;refine tk2 15 (.slice (some ⟨g,a,none⟩) n (vc-a)) 46 rfl rfl K2 ?_;refine zab.one (i:=16) (by kernel_rfl) rfl (fun KQ hK=>?_);go_simp;refine B.mono ?_;rintro e w1 ⟨rfl,hBl0,c2,s2,o2⟩;have K3:(fun W:World=>W.cell? ⟨p,0,none⟩=some (.slice (some ⟨g,0,none⟩) bs.length vc)∧W.cell? ⟨p,1,none⟩=some (.int .i64 ((a:Int)+(n:Int)))) w1:=⟨(s2.cell HL.out (fun h0=>h0)).trans z0,(s2.cell HL.out (fun h0=>h0)).trans z1⟩;obtain ⟨B,hB⟩:=jE (bC ((bs.drop a).take n));have hB1:∀v∈B,v.oneCell'=true:=by rw [←hB];exact zaD _
  have hBl:B.length=4:=by rw [←hB,zaf];exact hBl0
  rw [hB];have a1:=A0.out.keep s2 (fun h0=>h0);have hi0:(prog.info? 91).map (·.size)=some B.length:=by rw [zaK,hBl]
  have hi1:(prog.info? 91).map (·.size)=some B.toArray.size:=by rw [zaK];simp [hBl]
  have ht0:=a1.there (o:=0) (n:=B.toArray.size) o2 hq0 (by simp [zaf,hBl]);obtain ⟨S0,a2⟩:=a1.st o2 hq0 (ty:=91) (us:=B) (by simp [zaf,hBl]) hi0 hB1;have s3:Step (One q) c2 w1 c2 (w1.setCells b0 0 B):=Step.setCells (.inr a1.col) _ _ _ Step.refl;have K4:(fun W:World=>W.cell? ⟨p,0,none⟩=some (.slice (some ⟨g,0,none⟩) bs.length vc)∧W.cell? ⟨p,1,none⟩=some (.int .i64 ((a:Int)+(n:Int)))) (w1.setCells b0 0 B):=⟨(World.cell?_setCells_out b0 B 0 w1 ⟨p,0,none⟩ (fun e _=>absurd e hpb)).trans K3.1,(World.cell?_setCells_out b0 B 0 w1 ⟨p,1,none⟩ (fun e _=>absurd e hpb)).trans K3.2⟩;have HX:=jh9 a2 ((HH.out.1.kn s2).keep s3 (show ¬k=q by omega) (show ¬0=q by omega)) (Step.setCells (.inl hb0) B 0 _ ((S00.out.ofNo.trans HH.out.2).trans s2.ofNo)) (Ok.setCells (b:=b0) B 0 _ o2) hB ht0 hi0 hi1 (all_oneCell_toArray hB1);clear a1 a2 s2 o2 s3 S0 hB hB1 hBl hBl0 ht0 hi0 hi1;refine hK.out _ _ (fun _=>K3) ?_;clear hK KQ
  (try simp only [jS])
  refine zab.one (i:=17) (by kernel_rfl) rfl (fun KQ hK=>?_);refine zar rfl 91 _ _ rfl b0 0 B.toArray rfl rfl HX.out.2.2.2.2.2.1 HX.out.2.2.2.2.2.2.2.1 HX.out.2.2.2.2.2.2.2.2 ?_;simp only [List.toList_toArray];refine hK.out _ _ (fun _=>K4) ?_;clear hK KQ
  (try simp only [jS])
  refine zab.done (by kernel_rfl) ?_ _;go_wp2_with fail;refine bodyPost_ret (zad rfl _ _ b0 0 B _ rfl HX.out.1.cells underlying91 rfl HX.out.2.2.2.2.2.2.1) rfl ⟨by rw [HX.out.2.2.2.2.1],c2,HX.out.2.1,HX.out.2.2.1,HX.out.2.2.2.1⟩
end
theorem info_four:(prog.info? 213).map (·.size)=some 4:=by kernel_rfl
section
variable {c:Col}{w:World}
theorem hashes_any (hok:Ok c w) (b:Nat) :
  Calls prog 139 #[.pointer (some ⟨b,0,none⟩)] w fun r w'=>r=.returned (.agg #[.pointer (some ⟨b,3,none⟩),.pointer (some ⟨b,35,none⟩),.pointer (some ⟨b,67,none⟩),.pointer (some ⟨b,99,none⟩)]) ∧
   ∃c',Step No c w c' w'∧Ok c' w':=by
 obtain ⟨q,hq,hqc⟩:=hok.spare 0;have hq0:q≠0:=by omega
 obtain ⟨az,oz,sz⟩:=zan hok [.pointer none,.pointer none,.pointer none,.pointer none] 213 q;obtain ⟨B,hB⟩:∃B:List Value,[.pointer (some ⟨b,3,none⟩),.pointer (some ⟨b,35,none⟩),.pointer (some ⟨b,67,none⟩),.pointer (some ⟨b,99,none⟩)]=B:=⟨_,rfl⟩;have hl:B.length=4:=by rw [←hB];rfl
 have h1:∀v∈B,v.oneCell'=true:=by rw [←hB];intro u hu;simp at hu;rcases hu with rfl | rfl | rfl | rfl <;> rfl
 have hi0:(prog.info? 213).map (·.size)=some B.length:=by rw [info_four,hl]
 have hi1:(prog.info? 213).map (·.size)=some B.toArray.size:=by rw [info_four];simp [hl]
 have az1:=az.keep (Step.rf.drewN 1) jI;have oz1:=oz.drewN 1;have ht0:=az1.there (o:=0) (n:=B.toArray.size) oz1 hq0 (by simp [hl]);obtain ⟨S0,a2⟩:=az1.st oz1 hq0 (ty:=213) (us:=B) (by simp [hl]) hi0 h1;have HX:=jh8 a2 ht0 hi1 (all_oneCell_toArray h1) hi0 (Step.setCells (.inl (Nat.le_refl _)) B 0 _ (sz.drewN 1)) (Ok.setCells (b:=w.heap.size) B 0 _ oz1) hB;clear az oz sz az1 oz1 ht0 S0 a2 hi0 hi1 h1 hl hok hqc;go_enter func139,ntmps139;go_wp2_with fail;have K1:(fun _:World=>True) (w.alloc (.cells #[.pointer none,.pointer none,.pointer none,.pointer none] 213)).drew:=trivial;refine zac (fun W=>True) (fun _=>true) (by kernel_rfl) ?_;refine tk0 0 _ 3 rfl rfl K1 ?_;refine tk0 1 _ 4 rfl rfl K1 ?_;refine tk0 2 _ 5 rfl rfl K1 ?_;refine tk0 3 _ 6 rfl rfl K1 ?_;refine tk0 4 _ 7 rfl rfl K1 ?_;refine tk0 5 _ 8 rfl rfl K1 ?_;refine tk0 6 _ 9 rfl rfl K1 ?_;refine tk0 7 _ 10 rfl rfl K1 ?_;refine tk0 8 _ 11 rfl rfl K1 ?_;refine tk0 9 _ 12 rfl rfl K1 ?_;refine tk0 10 _ 13 rfl rfl K1 ?_;refine tk0 11 _ 14 rfl rfl K1 ?_;refine tk0 12 _ 15 rfl rfl K1 ?_;refine zab.one (i:=13) (by kernel_rfl) rfl (fun KQ hK=>?_);refine zar rfl 213 _ _ rfl w.heap.size 0 B.toArray rfl (by rw [←hB];rfl) HX.out.2.1 HX.out.2.2.1 HX.out.2.2.2.1 ?_;simp only [List.toList_toArray];refine hK.out _ _ (fun _=>trivial) ?_;clear hK KQ
 (try simp only [jS])
 refine zab.done (by kernel_rfl) ?_ _;go_wp2_with fail;refine bodyPost_ret (zad rfl _ _ w.heap.size 0 B _ rfl HX.out.1.cells underlying213 rfl HX.out.2.2.2.2.1) rfl ⟨rfl,_,HX.out.2.2.2.2.2.1,HX.out.2.2.2.2.2.2.1⟩
end
