/- ServerReplies, part 07: lemmas, each with its own conditions. -/
import Derived.Test.YtgcobbapaaihiaaGreatSz06
import Derived.Lib.OthersKept
import Derived.Laws.CopyOwn
set_option linter.all false
set_option maxHeartbeats 12800000
set_option maxRecDepth 100000
open Go.Proofs.Tryz
namespace Go.Proofs.YtgcobbapaaihiaaGreat
open Go.RowKit
structure Wds (c:Col) (w:World) (b k n:Nat):Prop where
 at_:∃l,l.length=n∧(∀x∈l,x<4294967296)∧At c w b k (zbk l)
theorem Wds.cell {c:Col}{w:World}{b k n:Nat}(h:Wds c w b k n) {i:Nat}(hi:i<n):∃x:Nat,x<4294967296∧w.cell? ⟨b,i,none⟩=some (.int .u32 x):=by
 obtain ⟨l,hl,hx,a⟩:=h.at_;exact ⟨l[i]'(by omega),hx _ (List.getElem_mem _),a.get (by simp only [zbk,List.getElem?_map];rw [List.getElem?_eq_getElem (by omega)];rfl)⟩
theorem Wds.keep {K:Nat→Prop}{c c':Col}{w w':World}{b k n:Nat}(h:Wds c w b k n) (hs:Step K c w c' w') (hk:¬K k):Wds c' w' b k n:=by
 obtain ⟨l,hl,hx,a⟩:=h.at_;exact ⟨l,hl,hx,a.keep hs hk⟩
theorem Wds.set {c:Col}{w:World}{b k n:Nat}(h:Wds c w b k n) {i:Nat}(hi:i<n) (x:Nat) (hx:x<4294967296):Wds c (w.setCell ⟨b,i,none⟩ (.int .u32 x)) b k n:=by
 obtain ⟨l,hl,hl2,a⟩:=h.at_;refine ⟨l.set i x,by simp [hl],fun y hy=>?_,?_⟩
 ·rcases List.mem_or_eq_of_mem_set hy with h | rfl
  ·exact hl2 y h
  ·exact hx
 ·have:=a.setN (i:=i) (by rw [zaZ,hl];exact hi) (.int .u32 (x:Int))
  rw [show (zbk l).set i (.int .u32 (x:Int))=zbk (l.set i x) by simp [zbk,List.map_set]] at this;exact this
theorem Wds.drewN {c:Col}{w:World}{b k n:Nat}(h:Wds c w b k n) (m:Nat):Wds c (w.drewN m) b k n:=h.keep (Step.rf.drewN m) jI
theorem wrap32 (z:Int):∃y:Nat,y<4294967296∧IntKind.u32.wrap z=(y:Int):=by
 refine ⟨(IntKind.u32.wrap z).toNat,?_,?_⟩ <;> rw [IntKind.wrap_u32'] <;> omega
theorem Wds.col {c:Col}{w:World}{b k n:Nat}(h:Wds c w b k n):c b=k:=by obtain ⟨l,_,_,a⟩:=h.at_;exact a.col
theorem Wds.next {c:Col}{w w1:World}{b k n:Nat}(h:Wds c w1 b k n∧Step (One k) c w c w1∧Ok c w1) {i:Nat}(hi:i<n) (x:Nat) (hx:x<4294967296) :
  Wds c (w1.setCell ⟨b,i,none⟩ (.int .u32 x)).drew b k n∧Step (One k) c w c (w1.setCell ⟨b,i,none⟩ (.int .u32 x)).drew∧Ok c (w1.setCell ⟨b,i,none⟩ (.int .u32 x)).drew:=
 ⟨(h.1.set hi x hx).drewN 1,(h.2.1.setCell (a:=⟨b,i,none⟩) (.inr h.1.col) _).drew,(h.2.2.setCell _ _).drew⟩
theorem xor32 (x y:Nat) (hx:x<4294967296) (hy:y<4294967296):∃z:Nat,z<4294967296∧bits .xor .u32 (x:Int) (y:Int)=(z:Int):=
 ⟨x ^^^ y,Nat.xor_lt_two_pow (n:=32) hx hy,u32_xor_nat x y hx hy⟩
section
variable {c:Col}{w:World}
theorem mix_any (hok:Ok c w) {vb k:Nat}(hv:Wds c w vb k 16) (hk0:k≠0) (ia ib ic id:Nat) (ha:ia<16) (hb:ib<16) (hc:ic<16) (hd:id<16) (x y:Nat) (hx:x<4294967296) (hy:y<4294967296) :
  Calls prog 211 #[.agg #[.pointer (some ⟨vb,ia,none⟩),.pointer (some ⟨vb,ib,none⟩),.pointer (some ⟨vb,ic,none⟩),.pointer (some ⟨vb,id,none⟩)],.int .u32 x,.int .u32 y] w fun r w'=>r=.returned (.tuple #[]) ∧
   ∃c',Wds c' w' vb k 16∧Step (One k) c w c' w'∧Ok c' w':=by
 have a1:=At.new0 hok [.pointer (some ⟨vb,ia,none⟩),.pointer (some ⟨vb,ib,none⟩),.pointer (some ⟨vb,ic,none⟩),.pointer (some ⟨vb,id,none⟩)] 290;have s1:Step No c w c (w.alloc (.cells #[.pointer (some ⟨vb,ia,none⟩),.pointer (some ⟨vb,ib,none⟩),.pointer (some ⟨vb,ic,none⟩),.pointer (some ⟨vb,id,none⟩)] 290)):=Step.refl.alloc _;have o1:=hok.alloc (.cells #[.pointer (some ⟨vb,ia,none⟩),.pointer (some ⟨vb,ib,none⟩),.pointer (some ⟨vb,ic,none⟩),.pointer (some ⟨vb,id,none⟩)] 290);have v1:=hv.keep s1 jI;obtain ⟨w1,hw1⟩:=jE (w.alloc (.cells #[.pointer (some ⟨vb,ia,none⟩),.pointer (some ⟨vb,ib,none⟩),.pointer (some ⟨vb,ic,none⟩),.pointer (some ⟨vb,id,none⟩)] 290));obtain ⟨bx,hbx⟩:=jE w.heap.size;rw [hw1] at a1 s1 o1 v1;rw [hbx] at a1;have K1:(fun W:World=>W.cell? ⟨bx,0,none⟩=some (.pointer (some ⟨vb,ia,none⟩))∧W.cell? ⟨bx,1,none⟩=some (.pointer (some ⟨vb,ib,none⟩))∧W.cell? ⟨bx,2,none⟩=some (.pointer (some ⟨vb,ic,none⟩))∧W.cell? ⟨bx,3,none⟩=some (.pointer (some ⟨vb,id,none⟩))) w1.drew:=⟨a1.get (i:=0) rfl,a1.get (i:=1) rfl,a1.get (i:=2) rfl,a1.get (i:=3) rfl⟩;have X1:=jh3 (v1.drewN 1) (s1.ofNo (K:=One k)).drew o1.drew;clear a1 s1 o1 v1 hv hok;go_enter func211,ntmps211;go_wp2_with fail
 (try rw [hw1])
 (try rw [hbx])
 refine zac (fun W=>W.cell? ⟨bx,0,none⟩=some (.pointer (some ⟨vb,ia,none⟩))∧W.cell? ⟨bx,1,none⟩=some (.pointer (some ⟨vb,ib,none⟩))∧W.cell? ⟨bx,2,none⟩=some (.pointer (some ⟨vb,ic,none⟩))∧W.cell? ⟨bx,3,none⟩=some (.pointer (some ⟨vb,id,none⟩))) (fun _=>true) (by kernel_rfl) ?_;refine tk4 0 _ 10 rfl rfl K1 ?_;refine tk4 1 _ 11 rfl rfl K1 ?_;refine tk4 2 _ 12 rfl rfl K1 ?_;refine tk4 3 _ 13 rfl rfl K1 ?_;refine tk4 4 _ 14 rfl rfl K1 ?_;refine tk4 5 _ 15 rfl rfl K1 ?_;refine tk4 6 _ 16 rfl rfl K1 ?_;refine tk4 7 _ 17 rfl rfl K1 ?_;refine zab.one (i:=8) (by kernel_rfl) rfl (fun KQ hK=>?_);go_simp;refine hK.out _ _ (fun _=>K1) ?_;clear hK KQ
 (try simp only [jS])
 refine zab.one (i:=9) (by kernel_rfl) rfl (fun KQ hK=>?_);go_simp;refine hK.out _ _ (fun _=>K1) ?_;clear hK KQ
 (try simp only [jS])
 refine zab.one (i:=10) (by kernel_rfl) rfl (fun KQ hK=>?_);go_simp;refine hK.out _ _ (fun _=>K1) ?_;clear hK KQ
 (try simp only [jS])
 refine zab.one (i:=11) (by kernel_rfl) rfl (fun KQ hK=>?_);go_simp;refine hK.out _ _ (fun _=>K1) ?_;clear hK KQ
 (try simp only [jS])
 refine zab.done (by kernel_rfl) ?_ _;clear K1;have X1':RowKit.Hid (Wds c w1.drew vb k 16∧Step (One k) c w c w1.drew∧Ok c w1.drew):=X1;clear X1 hw1;generalize w1.drew=W1 at X1' ⊢;have X1:=X1';clear X1';go_wp2_with fail;obtain ⟨zp1,hzp1,yp1⟩:=X1.out.1.cell ha;obtain ⟨zq1,hzq1,yq1⟩:=X1.out.1.cell hb;have yf1:=X1.out.2.2.soft vb ia (by rw [X1.out.1.col];exact hk0);have K1:(fun W:World=>W.cell? ⟨vb,ia,none⟩=some (.int .u32 zp1)∧W.cell? ⟨vb,ib,none⟩=some (.int .u32 zq1)∧W.frozen? ⟨vb,ia,none⟩=false) W1.drew:=⟨yp1,yq1,yf1⟩;refine zac (fun W=>W.cell? ⟨vb,ia,none⟩=some (.int .u32 zp1)∧W.cell? ⟨vb,ib,none⟩=some (.int .u32 zq1)∧W.frozen? ⟨vb,ia,none⟩=false) (fun i=>!([10]:List Nat).contains i) (by kernel_rfl) ?_;refine tk3 0 _ 18 rfl rfl K1 ?_;refine tk3 1 _ 19 rfl rfl K1 ?_;refine tk3 2 _ 20 rfl rfl K1 ?_;refine tk3 3 _ 21 rfl rfl K1 ?_;refine tk3 4 _ 22 rfl rfl K1 ?_;refine tk3 5 _ 23 rfl rfl K1 ?_;refine tk3 6 _ 24 rfl rfl K1 ?_;refine tk3 7 _ 25 rfl rfl K1 ?_;refine tk3 8 _ 26 rfl rfl K1 ?_;refine tk3 9 _ 27 rfl rfl K1 ?_;refine zab.one (i:=10) (by kernel_rfl) rfl (fun KQ hK=>?_);go_simp;refine hK.out _ _ (fun h=>absurd h (by decide)) ?_;clear hK KQ
 (try simp only [jS])
 refine zab.done (by kernel_rfl) ?_ _;clear K1;obtain ⟨z1,hz1,ez1⟩:=wrap32 (zp1+IntKind.u32.wrap (zq1+(x:Int)));rw [ez1];have X2:=jh1 (Wds.next X1.out ha z1 hz1);clear yp1 yq1 yf1 X1;generalize (W1.setCell ⟨vb,ia,none⟩ (.int .u32 z1)).drew=W2 at X2 ⊢;go_wp2_with fail;obtain ⟨zp2,hzp2,yp2⟩:=X2.out.1.cell hd;obtain ⟨zq2,hzq2,yq2⟩:=X2.out.1.cell ha;have yf2:=X2.out.2.2.soft vb id (by rw [X2.out.1.col];exact hk0);have K2:(fun W:World=>W.cell? ⟨vb,id,none⟩=some (.int .u32 zp2)∧W.cell? ⟨vb,ia,none⟩=some (.int .u32 zq2)∧W.frozen? ⟨vb,id,none⟩=false) W2.drew:=⟨yp2,yq2,yf2⟩;obtain ⟨zx2,hzx2,ex2⟩:=xor32 zp2 zq2 hzp2 hzq2;refine zac (fun W=>W.cell? ⟨vb,id,none⟩=some (.int .u32 zp2)∧W.cell? ⟨vb,ia,none⟩=some (.int .u32 zq2)∧W.frozen? ⟨vb,id,none⟩=false) (fun i=>!([10]:List Nat).contains i) (by kernel_rfl) ?_;refine tk3 0 _ 28 rfl rfl K2 ?_;refine tk3 1 _ 29 rfl rfl K2 ?_;refine tk3 2 _ 30 rfl rfl K2 ?_;refine tk3 3 _ 31 rfl rfl K2 ?_;refine tk3 4 _ 32 rfl rfl K2 ?_;refine tk3 5 _ 33 rfl rfl K2 ?_;refine tk3 6 _ 34 rfl rfl K2 ?_;refine tk3 7 _ 35 rfl rfl K2 ?_;refine zab.one (i:=8) (by kernel_rfl) rfl (fun KQ hK=>?_);go_simp
 (try rw [ex2])
 refine (rot_any zx2 hzx2 _ (by decide) _).mono ?_;rintro r w2 ⟨⟨z2,hz2,rfl⟩,rfl⟩;go_simp;refine hK.out _ _ (fun _=>K2) ?_;clear hK KQ
 (try simp only [jS])
 refine tk3 9 _ 37 rfl rfl K2 ?_;refine zab.one (i:=10) (by kernel_rfl) rfl (fun KQ hK=>?_);go_simp;refine hK.out _ _ (fun h=>absurd h (by decide)) ?_;clear hK KQ
 (try simp only [jS])
 refine zab.done (by kernel_rfl) ?_ _;clear K2;have X3:=jh1 (Wds.next X2.out hd z2 hz2);clear yp2 yq2 yf2 X2;generalize (W2.setCell ⟨vb,id,none⟩ (.int .u32 z2)).drew=W3 at X3 ⊢;go_wp2_with fail;obtain ⟨zp3,hzp3,yp3⟩:=X3.out.1.cell hc;obtain ⟨zq3,hzq3,yq3⟩:=X3.out.1.cell hd;have yf3:=X3.out.2.2.soft vb ic (by rw [X3.out.1.col];exact hk0);have K3:(fun W:World=>W.cell? ⟨vb,ic,none⟩=some (.int .u32 zp3)∧W.cell? ⟨vb,id,none⟩=some (.int .u32 zq3)∧W.frozen? ⟨vb,ic,none⟩=false) W3.drew:=⟨yp3,yq3,yf3⟩;refine zac (fun W=>W.cell? ⟨vb,ic,none⟩=some (.int .u32 zp3)∧W.cell? ⟨vb,id,none⟩=some (.int .u32 zq3)∧W.frozen? ⟨vb,ic,none⟩=false) (fun i=>!([8]:List Nat).contains i) (by kernel_rfl) ?_;refine tk3 0 _ 38 rfl rfl K3 ?_;refine tk3 1 _ 39 rfl rfl K3 ?_;refine tk3 2 _ 40 rfl rfl K3 ?_;refine tk3 3 _ 41 rfl rfl K3 ?_;refine tk3 4 _ 42 rfl rfl K3 ?_;refine tk3 5 _ 43 rfl rfl K3 ?_;refine tk3 6 _ 44 rfl rfl K3 ?_;refine tk3 7 _ 45 rfl rfl K3 ?_;refine zab.one (i:=8) (by kernel_rfl) rfl (fun KQ hK=>?_);go_simp;refine hK.out _ _ (fun h=>absurd h (by decide)) ?_;clear hK KQ
 (try simp only [jS])
 refine zab.done (by kernel_rfl) ?_ _;clear K3;obtain ⟨z3,hz3,ez3⟩:=wrap32 (zp3+zq3);rw [ez3];have X4:=jh1 (Wds.next X3.out hc z3 hz3);clear yp3 yq3 yf3 X3;generalize (W3.setCell ⟨vb,ic,none⟩ (.int .u32 z3)).drew=W4 at X4 ⊢;go_wp2_with fail;obtain ⟨zp4,hzp4,yp4⟩:=X4.out.1.cell hb;obtain ⟨zq4,hzq4,yq4⟩:=X4.out.1.cell hc;have yf4:=X4.out.2.2.soft vb ib (by rw [X4.out.1.col];exact hk0);have K4:(fun W:World=>W.cell? ⟨vb,ib,none⟩=some (.int .u32 zp4)∧W.cell? ⟨vb,ic,none⟩=some (.int .u32 zq4)∧W.frozen? ⟨vb,ib,none⟩=false) W4.drew:=⟨yp4,yq4,yf4⟩;obtain ⟨zx4,hzx4,ex4⟩:=xor32 zp4 zq4 hzp4 hzq4;refine zac (fun W=>W.cell? ⟨vb,ib,none⟩=some (.int .u32 zp4)∧W.cell? ⟨vb,ic,none⟩=some (.int .u32 zq4)∧W.frozen? ⟨vb,ib,none⟩=false) (fun i=>!([10]:List Nat).contains i) (by kernel_rfl) ?_;refine tk3 0 _ 46 rfl rfl K4 ?_;refine tk3 1 _ 47 rfl rfl K4 ?_;refine tk3 2 _ 48 rfl rfl K4 ?_;refine tk3 3 _ 49 rfl rfl K4 ?_;refine tk3 4 _ 50 rfl rfl K4 ?_;refine tk3 5 _ 51 rfl rfl K4 ?_;refine tk3 6 _ 52 rfl rfl K4 ?_;refine tk3 7 _ 53 rfl rfl K4 ?_;refine zab.one (i:=8) (by kernel_rfl) rfl (fun KQ hK=>?_);go_simp
 (try rw [ex4])
 refine (rot_any zx4 hzx4 _ (by decide) _).mono ?_;rintro r w2 ⟨⟨z4,hz4,rfl⟩,rfl⟩;go_simp;refine hK.out _ _ (fun _=>K4) ?_;clear hK KQ
 (try simp only [jS])
 refine tk3 9 _ 55 rfl rfl K4 ?_;refine zab.one (i:=10) (by kernel_rfl) rfl (fun KQ hK=>?_);go_simp;refine hK.out _ _ (fun h=>absurd h (by decide)) ?_;clear hK KQ
 (try simp only [jS])
 refine zab.done (by kernel_rfl) ?_ _;clear K4;have X5:=jh1 (Wds.next X4.out hb z4 hz4);clear yp4 yq4 yf4 X4;generalize (W4.setCell ⟨vb,ib,none⟩ (.int .u32 z4)).drew=W5 at X5 ⊢;go_wp2_with fail;obtain ⟨zp5,hzp5,yp5⟩:=X5.out.1.cell ha;obtain ⟨zq5,hzq5,yq5⟩:=X5.out.1.cell hb;have yf5:=X5.out.2.2.soft vb ia (by rw [X5.out.1.col];exact hk0);have K5:(fun W:World=>W.cell? ⟨vb,ia,none⟩=some (.int .u32 zp5)∧W.cell? ⟨vb,ib,none⟩=some (.int .u32 zq5)∧W.frozen? ⟨vb,ia,none⟩=false) W5.drew:=⟨yp5,yq5,yf5⟩;refine zac (fun W=>W.cell? ⟨vb,ia,none⟩=some (.int .u32 zp5)∧W.cell? ⟨vb,ib,none⟩=some (.int .u32 zq5)∧W.frozen? ⟨vb,ia,none⟩=false) (fun i=>!([10]:List Nat).contains i) (by kernel_rfl) ?_;refine tk3 0 _ 56 rfl rfl K5 ?_;refine tk3 1 _ 57 rfl rfl K5 ?_;refine tk3 2 _ 58 rfl rfl K5 ?_;refine tk3 3 _ 59 rfl rfl K5 ?_;refine tk3 4 _ 60 rfl rfl K5 ?_;refine tk3 5 _ 61 rfl rfl K5 ?_;refine tk3 6 _ 62 rfl rfl K5 ?_;refine tk3 7 _ 63 rfl rfl K5 ?_;refine tk3 8 _ 64 rfl rfl K5 ?_;refine tk3 9 _ 65 rfl rfl K5 ?_;refine zab.one (i:=10) (by kernel_rfl) rfl (fun KQ hK=>?_);go_simp;refine hK.out _ _ (fun h=>absurd h (by decide)) ?_;clear hK KQ
 (try simp only [jS])
 refine zab.done (by kernel_rfl) ?_ _;clear K5;obtain ⟨z5,hz5,ez5⟩:=wrap32 (zp5+IntKind.u32.wrap (zq5+(y:Int)));rw [ez5];have X6:=jh1 (Wds.next X5.out ha z5 hz5);clear yp5 yq5 yf5 X5;generalize (W5.setCell ⟨vb,ia,none⟩ (.int .u32 z5)).drew=W6 at X6 ⊢;go_wp2_with fail;obtain ⟨zp6,hzp6,yp6⟩:=X6.out.1.cell hd;obtain ⟨zq6,hzq6,yq6⟩:=X6.out.1.cell ha;have yf6:=X6.out.2.2.soft vb id (by rw [X6.out.1.col];exact hk0);have K6:(fun W:World=>W.cell? ⟨vb,id,none⟩=some (.int .u32 zp6)∧W.cell? ⟨vb,ia,none⟩=some (.int .u32 zq6)∧W.frozen? ⟨vb,id,none⟩=false) W6.drew:=⟨yp6,yq6,yf6⟩;obtain ⟨zx6,hzx6,ex6⟩:=xor32 zp6 zq6 hzp6 hzq6;refine zac (fun W=>W.cell? ⟨vb,id,none⟩=some (.int .u32 zp6)∧W.cell? ⟨vb,ia,none⟩=some (.int .u32 zq6)∧W.frozen? ⟨vb,id,none⟩=false) (fun i=>!([10]:List Nat).contains i) (by kernel_rfl) ?_;refine tk3 0 _ 66 rfl rfl K6 ?_;refine tk3 1 _ 67 rfl rfl K6 ?_;refine tk3 2 _ 68 rfl rfl K6 ?_;refine tk3 3 _ 69 rfl rfl K6 ?_;refine tk3 4 _ 70 rfl rfl K6 ?_;refine tk3 5 _ 71 rfl rfl K6 ?_;refine tk3 6 _ 72 rfl rfl K6 ?_;refine tk3 7 _ 73 rfl rfl K6 ?_;refine zab.one (i:=8) (by kernel_rfl) rfl (fun KQ hK=>?_);go_simp
 (try rw [ex6])
 refine (rot_any zx6 hzx6 _ (by decide) _).mono ?_;rintro r w2 ⟨⟨z6,hz6,rfl⟩,rfl⟩;go_simp;refine hK.out _ _ (fun _=>K6) ?_;clear hK KQ
 (try simp only [jS])
 refine tk3 9 _ 75 rfl rfl K6 ?_;refine zab.one (i:=10) (by kernel_rfl) rfl (fun KQ hK=>?_);go_simp;refine hK.out _ _ (fun h=>absurd h (by decide)) ?_;clear hK KQ
 (try simp only [jS])
 refine zab.done (by kernel_rfl) ?_ _;clear K6;have X7:=jh1 (Wds.next X6.out hd z6 hz6);clear yp6 yq6 yf6 X6;generalize (W6.setCell ⟨vb,id,none⟩ (.int .u32 z6)).drew=W7 at X7 ⊢;go_wp2_with fail;obtain ⟨zp7,hzp7,yp7⟩:=X7.out.1.cell hc;obtain ⟨zq7,hzq7,yq7⟩:=X7.out.1.cell hd;have yf7:=X7.out.2.2.soft vb ic (by rw [X7.out.1.col];exact hk0);have K7:(fun W:World=>W.cell? ⟨vb,ic,none⟩=some (.int .u32 zp7)∧W.cell? ⟨vb,id,none⟩=some (.int .u32 zq7)∧W.frozen? ⟨vb,ic,none⟩=false) W7.drew:=⟨yp7,yq7,yf7⟩;refine zac (fun W=>W.cell? ⟨vb,ic,none⟩=some (.int .u32 zp7)∧W.cell? ⟨vb,id,none⟩=some (.int .u32 zq7)∧W.frozen? ⟨vb,ic,none⟩=false) (fun i=>!([8]:List Nat).contains i) (by kernel_rfl) ?_;refine tk3 0 _ 76 rfl rfl K7 ?_;refine tk3 1 _ 77 rfl rfl K7 ?_;refine tk3 2 _ 78 rfl rfl K7 ?_;refine tk3 3 _ 79 rfl rfl K7 ?_;refine tk3 4 _ 80 rfl rfl K7 ?_;refine tk3 5 _ 81 rfl rfl K7 ?_;refine tk3 6 _ 82 rfl rfl K7 ?_;refine tk3 7 _ 83 rfl rfl K7 ?_;refine zab.one (i:=8) (by kernel_rfl) rfl (fun KQ hK=>?_);go_simp;refine hK.out _ _ (fun h=>absurd h (by decide)) ?_;clear hK KQ
 (try simp only [jS])
 refine zab.done (by kernel_rfl) ?_ _;clear K7;obtain ⟨z7,hz7,ez7⟩:=wrap32 (zp7+zq7);rw [ez7];have X8:=jh1 (Wds.next X7.out hc z7 hz7);clear yp7 yq7 yf7 X7;generalize (W7.setCell ⟨vb,ic,none⟩ (.int .u32 z7)).drew=W8 at X8 ⊢;go_wp2_with fail;obtain ⟨zp8,hzp8,yp8⟩:=X8.out.1.cell hb;obtain ⟨zq8,hzq8,yq8⟩:=X8.out.1.cell hc;have yf8:=X8.out.2.2.soft vb ib (by rw [X8.out.1.col];exact hk0);have K8:(fun W:World=>W.cell? ⟨vb,ib,none⟩=some (.int .u32 zp8)∧W.cell? ⟨vb,ic,none⟩=some (.int .u32 zq8)∧W.frozen? ⟨vb,ib,none⟩=false) W8.drew:=⟨yp8,yq8,yf8⟩;obtain ⟨zx8,hzx8,ex8⟩:=xor32 zp8 zq8 hzp8 hzq8;refine zac (fun W=>W.cell? ⟨vb,ib,none⟩=some (.int .u32 zp8)∧W.cell? ⟨vb,ic,none⟩=some (.int .u32 zq8)∧W.frozen? ⟨vb,ib,none⟩=false) (fun i=>!([10]:List Nat).contains i) (by kernel_rfl) ?_;refine tk3 0 _ 84 rfl rfl K8 ?_;refine tk3 1 _ 85 rfl rfl K8 ?_;refine tk3 2 _ 86 rfl rfl K8 ?_;refine tk3 3 _ 87 rfl rfl K8 ?_;refine tk3 4 _ 88 rfl rfl K8 ?_;refine tk3 5 _ 89 rfl rfl K8 ?_;refine tk3 6 _ 90 rfl rfl K8 ?_;refine tk3 7 _ 91 rfl rfl K8 ?_;refine zab.one (i:=8) (by kernel_rfl) rfl (fun KQ hK=>?_);go_simp
 (try rw [ex8])
 refine (rot_any zx8 hzx8 _ (by decide) _).mono ?_;rintro r w2 ⟨⟨z8,hz8,rfl⟩,rfl⟩;go_simp;refine hK.out _ _ (fun _=>K8) ?_;clear hK KQ
 (try simp only [jS])
 refine tk3 9 _ 93 rfl rfl K8 ?_;refine zab.one (i:=10) (by kernel_rfl) rfl (fun KQ hK=>?_);go_simp;refine hK.out _ _ (fun h=>absurd h (by decide)) ?_;clear hK KQ
 (try simp only [jS])
 refine zab.done (by kernel_rfl) ?_ _;clear K8;have X9:=jh1 (Wds.next X8.out hb z8 hz8);clear yp8 yq8 yf8 X8;generalize (W8.setCell ⟨vb,ib,none⟩ (.int .u32 z8)).drew=W9 at X9 ⊢;go_wp2_with fail
 first | go_end0 | refine bodyPost_ret (results_none rfl _ _ _) rfl ?_
 exact ⟨rfl,c,X9.out.1,X9.out.2.1,X9.out.2.2⟩
end
section
variable {P:Program}
theorem wp_copy {o:Oper}{a:Act}{w:World}{K:Act→World→Prop}{Q:Exit→Act→World→Prop}(d s:Operand) (dT sT:TypeId)
  (ho:o.op=.call { callee:=.builtin .copy,args:=#[d,s],argTypes:=#[dT,sT] }) (elem:TypeId) (hu:P.underlying dT=some (.slice elem)) (hsz:(P.info? elem).map (·.size)=some 1)
  (b off dLen dCap:Nat) (ad:Addr) (sLen sCap:Nat) (hd:a.eval d=.slice (some ⟨b,off,none⟩) dLen dCap) (hs:a.eval s=.slice (some ad) sLen sCap)
  (cs:List Value) (hn:cs.length=Nat.min sLen dLen) (hsrc:∀j v,cs[j]? = some v→w.cell? (ad.add j)=some v) (ht:w.there b off cs.length) (h1:∀v∈cs,v.oneCell'=true)
  (h:K (a.put o.dst (goInt cs.length)) (w.setCells b off cs)):o.wp P a w K Q:=by
 have hrun:=run_copy_cells (P:=P) w dT sT o.type elem b off dLen dCap ad sLen sCap cs hu hsz hn hsrc (fun j hj=>(ht j hj).1) (fun j hj=>(ht j hj).2) h1;unfold Oper.wp execOp;simp only [ho,resolve,invoke,builtin,Sem.run_bind,Sem.run_pure,Result.andThen_ok,List.map_toArray,List.map_cons,List.map_nil,hd,hs,hrun];exact h
theorem step_copy {ops:Array Oper}{o:Oper}{a:Act}{w:World}{K:Act→World→Prop}{Q:Exit→Act→World→Prop}{E:Prop}(hgd:o.guard=none) {dd:Option Tmp}(hdd:o.dst=dd) (d s:Operand) (dT sT:TypeId)
  (ho:o.op=.call { callee:=.builtin .copy,args:=#[d,s],argTypes:=#[dT,sT] }) (elem:TypeId) (hu:P.underlying dT=some (.slice elem)) (hsz:(P.info? elem).map (·.size)=some 1)
  (b off dLen dCap:Nat) (ad:Addr) (sLen sCap:Nat) (hd:a.eval d=.slice (some ⟨b,off,none⟩) dLen dCap) (hs:a.eval s=.slice (some ad) sLen sCap)
  (cs:List Value) (hn:cs.length=Nat.min sLen dLen) (hsrc:∀j v,cs[j]? = some v→w.cell? (ad.add j)=some v) (ht:w.there b off cs.length) (h1:∀v∈cs,v.oneCell'=true)
  (h:K (a.put dd (goInt cs.length)) (w.setCells b off cs)):if Region.wanted o (yielded ops a.tmps)=true then Oper.wp P o a w K Q else E:=by
 subst hdd;rw [if_pos (by simp [Region.wanted,hgd])];exact wp_copy d s dT sT ho elem hu hsz b off dLen dCap ad sLen sCap hd hs cs hn hsrc ht h1 h
end
structure WdsM (c:Col) (w:World) (b k:Nat) (pre post:List Value) (n:Nat):Prop where
 at_:∃l,l.length=n∧(∀x∈l,x<4294967296)∧At c w b k (pre++(zbk l++post))
theorem WdsM.cell {c:Col}{w:World}{b k n:Nat}{pre post:List Value}(h:WdsM c w b k pre post n) {i:Nat}(hi:i<n):∃x:Nat,x<4294967296∧w.cell? ⟨b,pre.length+i,none⟩=some (.int .u32 x):=by
 obtain ⟨l,hl,hx,a⟩:=h.at_;refine ⟨l[i]'(by omega),hx _ (List.getElem_mem _),a.get ?_⟩;rw [List.getElem?_append_right (by omega),List.getElem?_append_left (by rw [zaZ];omega),Nat.add_sub_cancel_left];simp only [zbk,List.getElem?_map];rw [List.getElem?_eq_getElem (by omega)];rfl
theorem WdsM.keep {K:Nat→Prop}{c c':Col}{w w':World}{b k n:Nat}{pre post:List Value}(h:WdsM c w b k pre post n) (hs:Step K c w c' w') (hk:¬K k):WdsM c' w' b k pre post n:=by
 obtain ⟨l,hl,hx,a⟩:=h.at_;exact ⟨l,hl,hx,a.keep hs hk⟩
theorem WdsM.set {c:Col}{w:World}{b k n:Nat}{pre post:List Value}(h:WdsM c w b k pre post n) {i:Nat}(hi:i<n) (x:Nat) (hx:x<4294967296):WdsM c (w.setCell ⟨b,pre.length+i,none⟩ (.int .u32 x)) b k pre post n:=by
 obtain ⟨l,hl,hl2,a⟩:=h.at_;refine ⟨l.set i x,by simp [hl],fun y hy=>?_,?_⟩
 ·rcases List.mem_or_eq_of_mem_set hy with h | rfl
  ·exact hl2 y h
  ·exact hx
 ·have:=a.setN (i:=pre.length+i) (by simp only [List.length_append,zaZ,hl];omega) (.int .u32 (x:Int))
  rw [List.set_append_right _ _ (by omega),Nat.add_sub_cancel_left,List.set_append_left _ _ (by rw [zaZ];omega)] at this;rw [show (zbk l).set i (.int .u32 (x:Int))=zbk (l.set i x) by simp [zbk,List.map_set]] at this;exact this
theorem WdsM.col {c:Col}{w:World}{b k n:Nat}{pre post:List Value}(h:WdsM c w b k pre post n):c b=k:=by obtain ⟨l,_,_,a⟩:=h.at_;exact a.col
theorem WdsM.lt {c:Col}{w:World}{b k n:Nat}{pre post:List Value}(h:WdsM c w b k pre post n):b<w.heap.size:=by obtain ⟨l,_,_,a⟩:=h.at_;exact a.lt
theorem Wds.lt {c:Col}{w:World}{b k n:Nat}(h:Wds c w b k n):b<w.heap.size:=by obtain ⟨l,_,_,a⟩:=h.at_;exact a.lt
theorem Wds.off {c:Col}{w:World}{b k n:Nat}(h:Wds c w b k n) {b' o:Nat}{u:Value}(hb:b≠b'):Wds c (w.setCell ⟨b',o,none⟩ u) b k n:=by
 obtain ⟨l,hl,hx,a⟩:=h.at_;exact ⟨l,hl,hx,a.offC b' o u hb⟩
theorem WdsM.off {c:Col}{w:World}{b k n:Nat}{pre post:List Value}(h:WdsM c w b k pre post n) {b' o:Nat}{u:Value}(hb:b≠b'):WdsM c (w.setCell ⟨b',o,none⟩ u) b k pre post n:=by
 obtain ⟨l,hl,hx,a⟩:=h.at_;exact ⟨l,hl,hx,a.offC b' o u hb⟩
theorem Wds.setN {c:Col}{w:World}{b k n:Nat}(h:Wds c w b k n) (hok:Ok c w) (hk:k≠0) {o:Nat}{l:List Nat}(hl:∀x∈l,x<4294967296) (hn:o+l.length≤n) :
  w.there b o (zbk l).length∧Wds c (w.setCells b o (zbk l)) b k n:=by
 constructor
 ·obtain ⟨m,hm,hx,a⟩:=h.at_
  exact a.there hok hk (by rw [zaZ,zaZ];omega)
 ·induction l generalizing w o with
  | nil=>exact h
  | cons x r ih=>
   have h1:=h.set (i:=o) (by simp at hn;omega) x (hl x (by simp));exact ih h1 (hok.setCell _ _) (fun y hy=>hl y (by simp [hy])) (by simp at hn;omega)
theorem WdsM.src {c:Col}{w:World}{b k n:Nat}{pre post:List Value}(h:WdsM c w b k pre post n):∃l,l.length=n∧(∀x∈l,x<4294967296)∧∀j v,(zbk l)[j]? = some v→w.cell? ((⟨b,pre.length,none⟩:Addr).add j)=some v:=by
 obtain ⟨l,hl,hx,a⟩:=h.at_;refine ⟨l,hl,hx,fun j v hj=>?_⟩;have hadd:(⟨b,pre.length,none⟩:Addr).add j=⟨b,pre.length+j,none⟩:=by unfold Addr.add;split <;> simp_all
 rw [hadd];refine a.get ?_;have hjl:j<(zbk l).length:=(List.getElem?_eq_some_iff.1 hj).1;rw [List.getElem?_append_right (by omega),Nat.add_sub_cancel_left,List.getElem?_append_left hjl];exact hj
theorem Wds.mid {c:Col}{w:World}{b k n:Nat}(h:Wds c w b k n):WdsM c w b k [] [] n:=by
 obtain ⟨l,hl,hx,a⟩:=h.at_;exact ⟨l,hl,hx,by simpa using a⟩
def TU32:Ty Nat where
 n:=1
 rd:=fun _ _ _ vs x=>vs=[.int .u32 x]∧x<4294967296
 len:=by rintro _ _ _ _ _ ⟨rfl,_⟩;rfl
 one:=by rintro _ _ _ _ _ ⟨rfl,_⟩ u hu;simp at hu;subst hu;rfl
 keep:=by rintro _ _ _ _ _ _ _ _ _ _ h;exact h
 turn:=by rintro _ _ _ _ _ _ h;exact h
theorem infoU32:(prog.info? 269).map (fun i=>(i.zero,i.size,i.bytes))=some (some (.int .u32 0),1,4):=by kernel_rfl
theorem infoU32s:(prog.info? 269).map (·.size)=some 1:=by kernel_rfl
theorem sizeU32 (W:World):(sizeOf 269).run prog W=.ok 1 W:=by
 obtain ⟨i,hi,hz,hs1,hb1⟩:=info_parts infoU32;simp [sizeOf,typeInfo,hi,hs1]
theorem run_v8h (W:World) (b:Nat):(Instr.sliceAt 284 (.pointer (some ⟨b,0,none⟩)) none (some (.int .i64 8)) none).run prog W=.ok (.slice (some ⟨b,0,none⟩) 8 16) W:=by
 have ht:=underlying284;have ha:prog.arrayLen 284=16:=by simp [Program.arrayLen,ht]
 have he:prog.elem 284=269:=by simp [Program.elem,ht]
 rw [run_sliceAt_array_h W 284 ⟨b,0,none⟩ (by rw [ha,he];exact ht) .i64 8 (by omega) (by rw [ha];omega),he,sizeU32,ha];simp [Result.andThen,slicedAt,Addr.add]
theorem run_v8l (W:World) (b:Nat):(Instr.sliceAt 284 (.pointer (some ⟨b,0,none⟩)) (some (.int .i64 8)) none none).run prog W=.ok (.slice (some ⟨b,8,none⟩) 8 8) W:=by
 have ht:=underlying284;have ha:prog.arrayLen 284=16:=by simp [Program.arrayLen,ht]
 have he:prog.elem 284=269:=by simp [Program.elem,ht]
 rw [run_sliceAt_array_l W 284 ⟨b,0,none⟩ (by rw [ha,he];exact ht) .i64 8 (by omega) (by rw [ha];omega),he,sizeU32,ha];simp [Result.andThen,slicedAt,Addr.add]
theorem run_w8 (W:World) (b o:Nat):(Instr.sliceAt 271 (.pointer (some ⟨b,o,none⟩)) none none none).run prog W=.ok (.slice (some ⟨b,o,none⟩) 8 8) W:=by
 have ht:=underlying271;have ha:prog.arrayLen 271=8:=by simp [Program.arrayLen,ht]
 have he:prog.elem 271=269:=by simp [Program.elem,ht]
 rw [run_sliceAt_array_all W 271 ⟨b,o,none⟩ (by rw [ha,he];exact ht),he,sizeU32,ha];simp [Result.andThen,slicedAt,Addr.add]
structure ItAt (c:Col) (w:World) (b k:Nat) (s:ByteArray) (pos:Nat):Prop where
 col:c b=k
 it:w.heap[b]? = some (.stringIter s pos)
theorem ItAt.lt {c:Col}{w:World}{b k:Nat}{s:ByteArray}{pos:Nat}(h:ItAt c w b k s pos):b<w.heap.size:=(Array.getElem?_eq_some_iff.1 h.it).1
theorem ItAt.keep {K:Nat→Prop}{c c':Col}{w w':World}{b k:Nat}{s:ByteArray}{pos:Nat}(h:ItAt c w b k s pos) (hs:Step K c w c' w') (hk:¬K k):ItAt c' w' b k s pos:=
 ⟨by rw [hs.col b h.lt (by rw [h.col];exact hk)];exact h.col,by rw [hs.block b h.lt (by rw [h.col];exact hk)];exact h.it⟩
theorem ItAt.new {c:Col}{w:World}(hok:Ok c w) (s:ByteArray) (k:Nat) :
  ItAt (c.put w.heap.size k) (w.alloc (.stringIter s 0)) w.heap.size k s 0∧Ok (c.put w.heap.size k) (w.alloc (.stringIter s 0))∧Step No c w (c.put w.heap.size k) (w.alloc (.stringIter s 0)):=by
 have hnew:(w.alloc (.stringIter s 0)).heap[w.heap.size]? = some (.stringIter s 0):=heap_alloc_new w _;exact ⟨⟨by simp,hnew⟩,(hok.alloc _).put (by simp) (fun o=>by unfold World.frozen?;rw [hnew]),(Step.refl.alloc _).put (.inl (Nat.le_refl _))⟩
theorem ItAt.move {c:Col}{w:World}{b k:Nat}{s:ByteArray}{pos:Nat}(h:ItAt c w b k s pos) (hok:Ok c w) (pos':Nat) :
  ItAt c (w.iterAt b s pos') b k s pos'∧Ok c (w.iterAt b s pos')∧Step (One k) c w c (w.iterAt b s pos'):=by
 have hi:=Go.Lib.iterAt_heap w b s pos pos' h.it;refine ⟨⟨h.col,hi⟩,⟨fun j hj=>hok.fresh j (by rw [Go.Lib.iterAt_size] at hj;exact hj),fun j o hc=>?_⟩,⟨rfl,rfl,rfl,by rw [Go.Lib.iterAt_size];exact Nat.le_refl _,fun j _ hk=>Go.Lib.iterAt_other w b j s pos' (by rintro rfl;exact hk h.col),fun _ _ _=>rfl⟩⟩;by_cases e:j=b
 ·subst e
  unfold World.frozen?;rw [hi]
 ·have:=hok.soft j o hc
  unfold World.frozen? at this ⊢;rw [show (w.iterAt b s pos').heap[j]? = w.heap[j]? from Go.Lib.iterAt_other w b j s pos' e];exact this
theorem Sl.some {α:Type}{T:Ty α}{c:Col}{k k2:Nat}{w:World}{v:Value}{l:List α}(h:Sl T c k k2 w v l) (hl:0<l.length):∃g off cap,v=.slice (some ⟨g,off,none⟩) l.length cap∧l.length≤cap∧cap≤maxLen:=by
 rcases h with ⟨rfl,_⟩ | ⟨b,off,cap,rfl,h1,h2,_⟩
 ·simp at hl
 ·exact ⟨b,off,cap,rfl,h1,h2⟩
theorem Ok.top {c:Col}{w:World}(h:Ok c w) (n:Nat):∃k,n<k∧∀b,c b<k:=by
 have hm:∀m,∃u,∀b,b<m→c b≤u:=by
  intro m
  induction m with
  | zero=>exact ⟨0,fun b hb=>absurd hb (Nat.not_lt_zero b)⟩
  | succ m ih=>
   obtain ⟨u,hu⟩:=ih;refine ⟨max u (c m),fun b hb=>?_⟩;by_cases e:b=m
   ·subst e;exact Nat.le_max_right _ _
   ·exact Nat.le_trans (hu b (by omega)) (Nat.le_max_left _ _)
 obtain ⟨u,hu⟩:=hm w.heap.size;refine ⟨max u n+1,by omega,fun b=>?_⟩;by_cases hb:b<w.heap.size
 ·have:=hu b hb;omega
 ·have:=h.fresh b (by omega);omega
def Hi (a k:Nat):Nat→Prop:=fun j=>j=a∨k≤j
theorem Step.low {c c':Col}{w w':World}{a k:Nat}(h:Step (Hi a k) c w c' w') (hk:∀b,c b<k):Step (One a) c w c' w':=
 h.drop fun b _ e=>e.elim id fun x=>absurd x (by have:=hk b;omega)
theorem Step.hi {c c' c'':Col}{w w' w'':World}{a k x:Nat}(h:Step (Hi a k) c w c' w') (h2:Step (One x) c' w' c'' w'') (hx:Hi a k x):Step (Hi a k) c w c'' w'':=
 h.trans (h2.mono fun j (e:j=x)=>by rw [e];exact hx)
section
variable {c:Col}{w:World}
theorem vnew (hok:Ok c w) {x:Vld}(hx:x.key.length=4) {q:Nat}(hq:q≠0) :
  ∃W c',(w.alloc (.cells #[.int .u8 0,.int .u8 0,.int .u8 0,.int .u8 0,.int .i64 0] 93)).setCells w.heap.size 0 (valC x)=W∧At c' W w.heap.size q (valC x)∧Ok c' W∧Step No c w c' W ∧
   (w.alloc (.cells #[.int .u8 0,.int .u8 0,.int .u8 0,.int .u8 0,.int .i64 0] 93)).there w.heap.size 0 (valC x).toArray.size∧(prog.info? 93).map (·.size)=some (valC x).toArray.size∧(valC x).toArray.all (·.oneCell')=true∧(prog.info? 93).map (·.size)=some (valC x).length:=by
 obtain ⟨a,o,s⟩:=zan hok [.int .u8 0,.int .u8 0,.int .u8 0,.int .u8 0,.int .i64 0] 93 q;have hl:=valC_len hx;have hi0:(prog.info? 93).map (·.size)=some (valC x).length:=by rw [info_val,hl]
 have hi1:(prog.info? 93).map (·.size)=some (valC x).toArray.size:=by rw [info_val];simp [hl]
 obtain ⟨_,a2⟩:=a.st o hq (ty:=93) (us:=valC x) (by rw [hl];rfl) hi0 (valC_one x);exact ⟨_,_,rfl,a2,Ok.setCells _ _ _ o,Step.setCells (.inl (Nat.le_refl _)) _ _ _ s,a.there o hq (by simp [hl]),hi1,all_oneCell_toArray (valC_one x),hi0⟩
theorem vcheck_any (hok:Ok c w) {kx k2:Nat}{v:Value}{l:List Vld}(hv:Sl TVal c kx k2 w v l) (hn:l.length≤1000000000) :
  Calls prog 128 #[v] w fun r w'=>r=.returned (.int .i64 (zaJ l))∧∃c',Step No c w c' w'∧Ok c' w':=by
 obtain ⟨va,vc,rfl,_⟩:=hv.form;by_cases h0:l.length=0
 ·have hc:zaJ l=6:=by unfold zaJ;rw [if_pos h0]
  rw [hc];clear hv;go_enter func128,ntmps128;go_wp2;go_ret;exact ⟨rfl,c,Step.refl,hok⟩
 by_cases h64:64<l.length
 ·have hc:zaJ l=4:=by unfold zaJ;rw [if_neg h0,if_pos h64]
  have h0':¬(l.length:Int)=0:=by omega
  have h64':(64:Int)<(l.length:Int):=by omega
  rw [hc];clear hv;go_enter func128,ntmps128;go_wp2;go_ret;exact ⟨rfl,c,Step.refl,hok⟩
 have hc:zaJ l=goV 1 4611686018427387904 none l:=by unfold zaJ;rw [if_neg h0,if_neg h64]
 rw [hc];have h0':¬(l.length:Int)=0:=by omega
 have h64':¬(64:Int)<(l.length:Int):=by omega
 obtain ⟨q,hq,hqc⟩:=hok.top (kx+k2);have hq0:q≠0:=by omega
 obtain ⟨g,off,cap,e,hcap,hcm⟩:=hv.some (by omega);injection e with e1 _ e2;subst e1 e2;obtain ⟨ax,ox,sx⟩:=zan hok (lookC [0,0,0,0] false 1 4611686018427387904) 229 q;have X0:=jh4 ax (hv.kn sx) sx ox;obtain ⟨xb,hxb⟩:=jE w.heap.size;rw [hxb] at X0;clear ax ox sx hv hok hc;go_enter func128,ntmps128;go_wp2
 go_loopw [18] (fun vi wr=>∃(i:Nat) (cr:Col) (last:List UInt8) (begun:Bool),i≤l.length∧vi=.int .i64 i∧last.length=4∧goV 1 4611686018427387904 none l=goV 1 4611686018427387904 (lastO begun last) (l.drop i)∧At cr wr xb q (lookC last begun 1 4611686018427387904) ∧
  Sl TVal cr kx k2 wr (.slice (some ⟨g,off,none⟩) l.length vc) l∧Step (Hi q q) c w cr wr∧Ok cr wr) (fun vi _=>l.length-(intOf vi).toNat)
 case atStart=>exact ⟨0,_,[0,0,0,0],false,Nat.zero_le _,rfl,rfl,by rw [List.drop_zero];rfl,X0.out.1,X0.out.2.1,X0.out.2.2.1.ofNo,X0.out.2.2.2⟩
 case round=>
  clear X0;obtain ⟨i,cr,last,begun,hi,rfl,hl4,hgo,ax,sl,st,ok⟩:=hrel;by_cases hlt:i<l.length
  ·obtain ⟨x,hx⟩:∃x,l[i]? = some x:=⟨l[i],by simp [hlt]⟩
   have hdr:l.drop i=x::l.drop (i+1):=by rw [List.drop_eq_getElem_cons hlt];rw [List.getElem?_eq_getElem hlt] at hx;injection hx with hx;rw [hx]
   obtain ⟨vs,⟨rfl,hk4,hpw⟩,hcs⟩:=sl.at hx;obtain ⟨W2,c2,hW2,a2,o2,s2,t1,t2,t3,t4⟩:=vnew ok hk4 (jz q);have x2:=ax.keep s2 jI;have AT:=at_any o2 hq0 hl4 begun 1 4611686018427387904 x2 x hk4;obtain ⟨e,he⟩:=jE (atV (lastO begun last) 1 4611686018427387904 x);rw [he] at AT;have hgo2:goV 1 4611686018427387904 none l=if e≠0 then e else goV 1 4611686018427387904 (some x.key) (l.drop (i+1)):=by rw [hgo,hdr,goV,he]
   obtain ⟨b2,hb2⟩:=jE wr.heap.size;rw [hb2] at hW2 a2 t1;obtain ⟨V,hV⟩:=jE (valC x);rw [hV] at hW2 a2 t1 t2 t3 t4 hcs AT;have SL:=jh6 hcs t4 t1 t2 t3 a2.cells;have X2:=jh5 (sl.kn s2) (st.trans s2.ofNo) hgo2 hk4 hi;have hlt':(i:Int)<(l.length:Int):=by omega
   have hW:=jh1 hW2;clear hcs t1 t2 t3 t4 a2 o2 s2 x2 ax sl st ok hgo hgo2 hdr hx he hV hk4 hpw;by_cases he0:e=0
   ·subst he0
    go_wp2_with (first | (refine wpList_load_mid rfl 93 _ rfl g (off+i*5) rfl V _ SL.out.1 underlying93 rfl SL.out.2.1 ?_) | (refine wpList_store_mid rfl 93 _ _ rfl b2 0 V.toArray rfl rfl SL.out.2.2.1 SL.out.2.2.2.1 SL.out.2.2.2.2.1 ?_;rw [hW2]) | (refine wpList_load_mid rfl 93 _ rfl b2 0 rfl V _ SL.out.2.2.2.2.2 underlying93 rfl SL.out.2.1 ?_));refine AT.mono ?_;rintro e1 w3 ⟨rfl,c3,a3,s3,o3⟩;have X3:=jh4 a3 (X2.out.1.keep s3 (show ¬kx=q by omega) (show ¬k2=q by omega)) (X2.out.2.1.hi s3 (.inr (Nat.le_refl _))) o3;clear AT a3 s3 o3;go_wp2;go_roundw
    case rel=>
     refine ⟨i+1,c3,x.key,true,by omega,by go_num,X2.out.2.2.2.1,?_,X3.out⟩;rw [X2.out.2.2.1,if_neg (by simp)];rfl
    case measure=>simp [intOf];omega
   ·have he0':(e != 0)=true:=by rw [bne_iff_ne];exact he0
    go_wp2_with (first | (refine wpList_load_mid rfl 93 _ rfl g (off+i*5) rfl V _ SL.out.1 underlying93 rfl SL.out.2.1 ?_) | (refine wpList_store_mid rfl 93 _ _ rfl b2 0 V.toArray rfl rfl SL.out.2.2.1 SL.out.2.2.2.1 SL.out.2.2.2.2.1 ?_;rw [hW2]) | (refine wpList_load_mid rfl 93 _ rfl b2 0 rfl V _ SL.out.2.2.2.2.2 underlying93 rfl SL.out.2.1 ?_));refine AT.mono ?_;rintro e1 w3 ⟨rfl,c3,a3,s3,o3⟩;have X3:=jh2 ((X2.out.2.1.hi s3 (.inr (Nat.le_refl _))).drop (K':=No) fun b _ e=>by have:=hqc b;rcases e with e | e <;> omega) o3;clear AT a3 s3 o3;go_wp2;go_ret;exact ⟨by rw [X2.out.2.2.1,if_pos he0];rfl,c3,X3.out⟩
  ·have hil:i=l.length:=by omega
   subst hil;rw [List.drop_length] at hgo;have hgo0:goV 1 4611686018427387904 none l=0:=by rw [hgo];cases begun <;> rfl
   have X3:=jh2 (st.drop (K':=No) fun b _ e=>by have:=hqc b;rcases e with e | e <;> omega) ok;have HG:=jh1 hgo0;clear ax sl st ok hgo hgo0;go_wp2;go_ret;exact ⟨by rw [HG.out];rfl,cr,X3.out⟩
end
