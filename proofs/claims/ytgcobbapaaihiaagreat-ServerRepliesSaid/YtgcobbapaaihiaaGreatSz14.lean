/- ServerReplies, part 14: lemmas, each with its own conditions. -/
import Derived.Test.YtgcobbapaaihiaaGreatSz10
import Derived.Defers
import Derived.Recover
import Derived.Laws.Pointers
set_option linter.all false
set_option maxHeartbeats 12800000
set_option maxRecDepth 100000
open Go.Proofs.Tryz
namespace Go.Proofs.YtgcobbapaaihiaaGreat
open Go.RowKit
def endF (bs:List UInt8) (a:Nat) (f:Int×Int):Int×Int:=if f.1=0∧a<bs.length then (4,a) else f
theorem zao:(prog.info? 74).map (·.size)=some 2:=by kernel_rfl
section
variable {c:Col}{w:World}
theorem rest_ok {k p:Nat}{bs:List UInt8}{a:Nat}{f:Int×Int}(h:IsRd c k w p bs a f) (hf:f.1=0) :
  Calls prog 98 #[.pointer (some ⟨p,0,none⟩)] w fun r w'=>r=.returned (.int .i64 ((bs.length:Int)-a))∧∃n,w'=w.drewN n:=by
 obtain ⟨bv,x,ow⟩:=h.row;have hle:=h.le;have hfew:=h.few;obtain ⟨va,vc,rfl,_⟩:=ow.sl.form;have y0:=x.get (i:=0) rfl;have y1:=x.get (i:=1) rfl;have y2:=x.get (i:=2) rfl;have y4:=x.get (i:=4) rfl;rw [hf] at y2;have hw:IntKind.i64.wrap ((bs.length:Int)-(a:Int))=(bs.length:Int)-(a:Int):=IntWalk.i64_in _ (by omega);clear h x ow hf;go_enter func98,ntmps98;go_wp2_with fail;go_quiet (fail);go_wp2;go_ret;exact ⟨rfl,_,rfl⟩
theorem rest_bad {k p:Nat}{bs:List UInt8}{a:Nat}{f:Int×Int}(h:IsRd c k w p bs a f) (hf:f.1≠0) :
  Calls prog 98 #[.pointer (some ⟨p,0,none⟩)] w fun r w'=>r=.returned (.int .i64 0)∧w'=w:=by
 obtain ⟨bv,x,ow⟩:=h.row;have y2:=x.get (i:=2) rfl;have y4:=x.get (i:=4) rfl;have hf1:(f.1==0)=false:=beq_eq_false_iff_ne.2 hf;have hf2:(f.1 != 0)=true:=by rw [bne_iff_ne];exact hf
 clear h x ow;go_enter func98,ntmps98;go_wp2;go_ret;exact ⟨rfl,rfl⟩
theorem zaY (hok:Ok c w) {k p:Nat}{bs:List UInt8}{a:Nat}{f:Int×Int}(h:IsRd c k w p bs a f) :
  Calls prog 59 #[.pointer (some ⟨p,0,none⟩)] w fun r w'=>r=.returned (.agg #[.int .i64 (endF bs a f).1,.int .i64 (endF bs a f).2])∧∃c',Step No c w c' w'∧Ok c' w':=by
 obtain ⟨bv,x,ow⟩:=h.row;have hle:=h.le;have hfew:=h.few;obtain ⟨va,vc,rfl,_⟩:=ow.sl.form;obtain ⟨f1,f2⟩:=f;have hE:=jh1 (show endF bs a (f1,f2)=if f1=0∧a<bs.length then (4,(a:Int)) else (f1,f2) from rfl);obtain ⟨q,hq,hqc⟩:=hok.spare 0;have hq0:q≠0:=by omega
 obtain ⟨a0,o0,s0⟩:=zan hok [.int .i64 0,.int .i64 0] 74 q;have HH:=jh3 a0 o0 s0;have x':=x.keep s0 jI;have y0:=x'.get (i:=0) rfl;have y1:=x'.get (i:=1) rfl;have y2:=x'.get (i:=2) rfl;have y3:=x'.get (i:=3) rfl;have y4:=x'.get (i:=4) rfl;have hxb:p≠w.heap.size:=by have:=x.lt;omega
 have z0:=a0.get (i:=0) rfl;have z1:=a0.get (i:=1) rfl;have zf0:=a0.fz o0 hq0 0;have zf1:=a0.fz o0 hq0 1;clear h x x' ow hok hqc a0 o0 s0
 have fin:∀n e1 e2,True∧At (c.put w.heap.size q) ((((w.alloc (.cells #[.int .i64 0,.int .i64 0] 74)).drewN n).setCell ⟨w.heap.size,0,none⟩ (.int .i64 e1)).setCell ⟨w.heap.size,1,none⟩ (.int .i64 e2)) w.heap.size q [.int .i64 e1,.int .i64 e2] ∧
   Step No c w (c.put w.heap.size q) ((((w.alloc (.cells #[.int .i64 0,.int .i64 0] 74)).drewN n).setCell ⟨w.heap.size,0,none⟩ (.int .i64 e1)).setCell ⟨w.heap.size,1,none⟩ (.int .i64 e2)) ∧
   Ok (c.put w.heap.size q) ((((w.alloc (.cells #[.int .i64 0,.int .i64 0] 74)).drewN n).setCell ⟨w.heap.size,0,none⟩ (.int .i64 e1)).setCell ⟨w.heap.size,1,none⟩ (.int .i64 e2)):=fun n e1 e2=>by
  obtain ⟨a0,o0,s0⟩:=HH.out;have b0:=a0.keep (Step.rf.drewN n) jI;have b1:=b0.setN (i:=0) (by simp) (.int .i64 e1);have b2:=b1.setN (i:=1) (by simp) (.int .i64 e2);exact ⟨trivial,b2,((s0.drewN n).setCell (a:=⟨w.heap.size,0,none⟩) (.inl (Nat.le_refl _)) _).setCell (a:=⟨w.heap.size,1,none⟩) (.inl (Nat.le_refl _)) _,((o0.drewN n).setCell _ _).setCell _ _⟩
 have FIN:=jh1 fin;have hi2:Hid ((prog.info? 74).map (·.size)=some 2):=jh1 zao;clear fin;by_cases hf:f1=0
 ·subst hf
  by_cases hlt:a<bs.length
  ·have hlt':(a:Int)<(bs.length:Int):=by omega
   go_enter func59,ntmps59;go_wp2_with fail;go_quiet (fail);go_wp2_with fail;rw [hE.out,if_pos ⟨by first | rfl | trivial,hlt⟩];refine bodyPost_ret (zad rfl _ _ w.heap.size 0 _ _ rfl (FIN.out _ _ _).2.1.cells underlying74 rfl hi2.out) rfl ⟨rfl,_,(FIN.out _ _ _).2.2⟩
  ·have hlt':¬(a:Int)<(bs.length:Int):=by omega
   go_enter func59,ntmps59;go_wp2_with fail;go_quiet (fail);go_wp2_with fail;rw [hE.out,if_neg (fun h=>hlt h.2)];refine bodyPost_ret (zad rfl _ _ w.heap.size 0 _ _ rfl (FIN.out _ _ _).2.1.cells underlying74 rfl hi2.out) rfl ⟨rfl,_,(FIN.out _ _ _).2.2⟩
 ·have hf1:(f1==0)=false:=beq_eq_false_iff_ne.2 hf
  go_enter func59,ntmps59;go_wp2_with fail;go_quiet (fail);go_wp2_with fail;rw [hE.out,if_neg (fun h=>hf h.1)];refine bodyPost_ret (zad rfl _ _ w.heap.size 0 _ _ rfl (FIN.out _ _ _).2.1.cells underlying74 rfl hi2.out) rfl ⟨rfl,_,(FIN.out _ _ _).2.2⟩
end
theorem bigN_min:∀(f n:Nat),n<256 ^ f→bigN (minF f n)=n
 | 0,n,h=>by simp at h;subst h;rfl
 | f+1,n,h=>by
  rw [minF]
  split
  ·next h0=>subst h0;rfl
  ·have h1:n / 256<256 ^ f:=Nat.div_lt_of_lt_mul (by rw [Nat.pow_succ] at h;omega)
   rw [bigN_app,bigN_min f (n / 256) h1];have:(UInt8.ofNat (n % 256)).toNat=n % 256:=by simp
   rw [this];omega
theorem min_head:∀(f n:Nat),n<256 ^ f→∀x l,minF f n=x::l→x≠0
 | 0,n,h,x,l,e=>by simp [minF] at e
 | f+1,n,h,x,l,e=>by
  rw [minF] at e
  split at e
  ·cases e
  ·next h0=>
   have h1:n / 256<256 ^ f:=Nat.div_lt_of_lt_mul (by rw [Nat.pow_succ] at h;omega)
   rcases hm:minF f (n / 256) with _ | ⟨y,r⟩
   ·rw [hm] at e
    have hz:n / 256=0:=by
     have:=bigN_min f (n / 256) h1;rw [hm] at this;exact this.symm
    simp at e;rw [←e.1];intro h2;have h3:(UInt8.ofNat (n % 256)).toNat=n % 256:=by simp
    have h4:=congrArg UInt8.toNat h2;simp at h4;omega
   ·rw [hm] at e
    simp at e;rw [←e.1];exact min_head f (n / 256) h1 y r hm
section
variable {c:Col}{w:World}
theorem num1_any {kx:Nat}{v:Value}{l:List UInt8}(h:Sl zag c kx 0 w v l) (hl:l.length≤8) {p5 p6:Nat}{x6:Int}(h5:w.cell? ⟨p5,0,none⟩=some (.int .i64 l.length)) (h6:w.cell? ⟨p6,0,none⟩=some (.int .u8 x6)) (h6f:w.frozen? ⟨p6,0,none⟩=false)
  (h6c:c p6≠kx) (h60:c p6≠0) :
  Calls prog 137 #[v,.pointer (some ⟨p5,0,none⟩),.pointer (some ⟨p6,0,none⟩)] w fun r w'=>r=.returned (.int .u64 (bigN l)) ∧
   w'=(if l=[] then w else w.setCell ⟨p6,0,none⟩ (.int .u8 ((l.headD 0).toNat))):=by
 rcases l with _ | ⟨x,l⟩
 ·have B:=big_any h hl
  obtain ⟨va,vc,rfl,_⟩:=h.form;simp only [List.length_nil] at *;clear h;go_enter func137,ntmps137;go_wp2_with fail;refine B.mono ?_;rintro e w1 ⟨rfl,rfl⟩;go_wp2;go_ret;exact ⟨rfl,rfl⟩
 ·obtain ⟨g,off,cap,rfl,_⟩:=h.ex (by simp)
  have y0:w.cell? ⟨g,off,none⟩=some (.int .u8 x.toNat):=by
   obtain ⟨vs,rfl,hcs⟩:=h.at (j:=0) (x:=x) rfl;have:=hcs.get 0 rfl;simpa [zag] using this
  have B:=big_any (h.set (a:=⟨p6,0,none⟩) h6c h60 (.int .u8 x.toNat)) hl;obtain ⟨n,hn⟩:=jE ((x::l).length);have hn0:0<n:=by rw [←hn];simp
  have hi0:(0:Int)<(n:Int):=by omega
  rw [hn] at B h5 ⊢;clear h hn;go_enter func137,ntmps137;go_wp2_with fail;refine B.mono ?_;rintro e w1 ⟨rfl,rfl⟩;go_wp2;go_ret;exact ⟨rfl,rfl⟩
end
def firstB (x:Int):List UInt8→Int
 | []=>x
 | y::_=>y.toNat
section
variable {c:Col}{w:World}
theorem takeF_any (hok:Ok c w) {k p:Nat}{bs:List UInt8}{a:Nat}{f:Int×Int}(h:IsRd c k w p bs a f) (hk0:k≠0) (n:Nat) (hn:a+n≤bs.length) (h8:n≤8) {p5 p6 q:Nat}{x6:Int}(a5:At c w p5 q [.int .i64 n]) (a6:At c w p6 q [.int .u8 x6]) (hq0:q≠0) (hqk:q≠k) (at0:Int) :
  Calls prog 135 #[.pointer (some ⟨p,0,none⟩),.int .i64 n,.int .i64 at0,.func (.func 137) #[] #[.pointer (some ⟨p5,0,none⟩),.pointer (some ⟨p6,0,none⟩)]] w fun r w'=>r=.returned (.int .u64 (bigN ((bs.drop a).take n)))∧At c w' p6 q [.int .u8 (firstB x6 ((bs.drop a).take n))]∧IsRd c k w' p bs (a+n) f∧Step (Two k q) c w c w'∧Ok c w'∧(At c w' p5 q [.int .i64 n]∨p5=p6):=by
 obtain ⟨bv,x,ow⟩:=h.row;have hle:=h.le;have hfew:=h.few
 obtain ⟨va,vc,hbv,hcap,hcase⟩:∃va vc,bv=.slice va bs.length vc∧bs.length≤vc∧((va=none∧vc=0)∨∃g,va=some ⟨g,0,none⟩):=by
  rcases ow.form2 with ⟨rfl,rfl⟩ | ⟨g,cap,rfl,hc⟩
  ·exact ⟨none,0,rfl,Nat.le_refl _,.inl ⟨rfl,rfl⟩⟩
  ·exact ⟨_,cap,rfl,hc,.inr ⟨g,rfl⟩⟩
 subst hbv;have y0:=x.get (i:=0) rfl;have y1:=x.get (i:=1) rfl;have y1f:=x.fz hok hk0 1;have hcp:c p=k:=x.col;have hd:decide ((n:Int)≤(bs.length:Int)-(a:Int))=true:=by simp;omega
 have hw:IntKind.i64.wrap ((bs.length:Int)-(a:Int))=(bs.length:Int)-(a:Int):=IntWalk.i64_in _ (by omega);have hw2:IntKind.i64.wrap ((a:Int)+(n:Int))=(a:Int)+(n:Int):=IntWalk.i64_in _ (by omega);have hw3:IntKind.i64.wrap (a:Int)=(a:Int):=IntWalk.i64_in _ (by omega);have ht:((a:Int)+(n:Int)).toNat-a=n:=by omega
 have ha0:(0:Int)≤(a:Int):=by omega
 have ha1:(a:Int)≤(a:Int)+(n:Int):=by omega
 have ha2:(a:Int)+(n:Int)≤(vc:Int):=by omega
 have M:=zbF w.drew 6 at0;have m1:=h.move hk0 (a':=a+n) hn;rw [Int.natCast_add] at m1
 have z0:(w.setCell ⟨p,1,none⟩ (.int .i64 ((a:Int)+(n:Int)))).drew.drew.cell? ⟨p,0,none⟩=some (.slice va bs.length vc):=by
  show (w.setCell ⟨p,1,none⟩ (.int .i64 ((a:Int)+(n:Int)))).cell? ⟨p,0,none⟩=_;rw [World.cell?_setCell_other _ _ _ _ (by intro e;injection e with e1 e2;cases e2)];exact y0
 have z1:(w.setCell ⟨p,1,none⟩ (.int .i64 ((a:Int)+(n:Int)))).drew.drew.cell? ⟨p,1,none⟩=some (.int .i64 ((a:Int)+(n:Int))):=
  World.cell?_setCell_same' _ _ _ (by rw [y1];rfl)
 have s1:Step (One k) c w c ((w.setCell ⟨p,1,none⟩ (.int .i64 ((a:Int)+(n:Int)))).drewN 2):=((Step.refl (K:=One k)).setCell (a:=⟨p,1,none⟩) (.inr x.col) _).drewN 2;have ok1:Ok c ((w.setCell ⟨p,1,none⟩ (.int .i64 ((a:Int)+(n:Int)))).drewN 2):=(hok.setCell _ _).drewN 2;have ow1:Own zag 5 c 0 0 ((w.setCell ⟨p,1,none⟩ (.int .i64 ((a:Int)+(n:Int)))).drewN 2) (.slice va bs.length vc) bs:=(ow.set (a:=⟨p,1,none⟩) (by show c p≠0;omega) (by show c p≠0;omega) _).kn (Step.rf.drewN 2);have hm2:=m1.kn (Step.rf.drewN 2);have HH:=jh2 hm2 s1;have OK:=jh1 ok1;have K1:(fun W=>W.cell? ⟨p,0,none⟩=some (.slice va bs.length vc)∧W.cell? ⟨p,1,none⟩=some (.int .i64 a)) w.drew:=⟨y0,y1⟩;by_cases hca:vc=a
 ·have HN:=jh1 (show n=0 by omega)
  have hca1:(vc=a)=True:=eq_true hca;have hva:vc-a=0:=by omega
  clear hca;have a52:At c ((w.setCell ⟨p,1,none⟩ (.int .i64 ((a:Int)+(n:Int)))).drewN 2) p5 q [.int .i64 n]:=(a5.offC p 1 _ (fun e=>by have:=a5.col;rw [e,hcp] at this;exact hqk this.symm)).keep (Step.rf.drewN 2) jI;have a62:At c ((w.setCell ⟨p,1,none⟩ (.int .i64 ((a:Int)+(n:Int)))).drewN 2) p6 q [.int .u8 x6]:=(a6.offC p 1 _ (fun e=>by have:=a6.col;rw [e,hcp] at this;exact hqk this.symm)).keep (Step.rf.drewN 2) jI;have hLn:((bs.drop a).take n).length=n:=by rw [List.length_take,List.length_drop];omega
  have SL:Sl zag c 0 0 ((w.setCell ⟨p,1,none⟩ (.int .i64 ((a:Int)+(n:Int)))).drewN 2) (.slice va n 0) ((bs.drop a).take n):=by rw [HN.out];exact .inl ⟨by simp,_,_,rfl,Nat.zero_le _,fun _=>rfl⟩
  have B:=num1_any SL (by omega) (by rw [hLn];exact a52.c0) a62.c0 (a62.fz ok1 hq0 0) (by rw [a62.col];exact hq0) (by rw [a62.col];exact hq0);obtain ⟨W3,hW3⟩:=jE ((if (bs.drop a).take n=[] then ((w.setCell ⟨p,1,none⟩ (.int .i64 ((a:Int)+(n:Int)))).drewN 2) else ((w.setCell ⟨p,1,none⟩ (.int .i64 ((a:Int)+(n:Int)))).drewN 2).setCell ⟨p6,0,none⟩ (.int .u8 ((((bs.drop a).take n).headD 0).toNat))));rw [hW3] at B;have hp6:p≠p6:=fun e=>by have:=a6.col;rw [←e,hcp] at this;exact hqk this.symm
  have hp5:p≠p5:=fun e=>by have:=a5.col;rw [←e,hcp] at this;exact hqk this.symm
  have hx:At c W3 p6 q [.int .u8 (firstB x6 ((bs.drop a).take n))]∧IsRd c k W3 p bs (a+n) f∧Step (Two k q) c w c W3∧Ok c W3∧W3.cell? ⟨p,0,none⟩=some (.slice va bs.length vc)∧W3.cell? ⟨p,1,none⟩=some (.int .i64 ((a:Int)+(n:Int))):=by
   rw [←hW3];obtain ⟨L,hL⟩:=jE ((bs.drop a).take n);rw [hL]
   rcases L with _ | ⟨y,L⟩
   ·rw [if_pos rfl]
    exact ⟨a62,hm2,s1.mono fun _ h=>.inl h,ok1,z0,z1⟩
   ·rw [if_neg (by simp)]
    exact ⟨a62.set0,hm2.keep (Step.set1 ⟨p6,0,none⟩ _) (fun e=>hqk (by have:=a62.col;rw [show k=c p6 from e,this])) (fun e=>hq0 (by have:=a62.col;rw [←this];exact e.symm)),(s1.mono fun _ h=>.inl h).setCell (a:=⟨p6,0,none⟩) (.inr (.inr a6.col)) _,ok1.setCell _ _,(World.cell?_setCell_other _ _ _ _ (by intro e;injection e with e1 e2;exact hp6 e1.symm)).trans z0,(World.cell?_setCell_other _ _ _ _ (by intro e;injection e with e1 e2;exact hp6 e1.symm)).trans z1⟩
  have h53:At c W3 p5 q [.int .i64 n]∨p5=p6:=by
   by_cases e:p5=p6
   ·exact .inr e
   ·left
    rw [←hW3]
    split
    ·exact a52
    ·exact a52.offC p6 0 _ e
  have K3:(fun W:World=>W.cell? ⟨p,0,none⟩=some (.slice va bs.length vc)∧W.cell? ⟨p,1,none⟩=some (.int .i64 ((a:Int)+(n:Int)))) W3:=⟨hx.2.2.2.2.1,hx.2.2.2.2.2⟩;have HX:=jh5 hx.1 hx.2.1 hx.2.2.1 hx.2.2.2.1 h53;clear hx h53 a62 a52 a5 a6 hW3 hp5 hp6;clear x ow hok h m1 hm2 s1 ok1 ow1 SL;go_enter func135,ntmps135;go_wp2_with fail;refine zac (fun W=>W.cell? ⟨p,0,none⟩=some (.slice va bs.length vc)∧W.cell? ⟨p,1,none⟩=some (.int .i64 a)) (fun _=>true) (by kernel_rfl) ?_;refine tk2 0 _ 9 rfl rfl K1 ?_;refine tk2 1 _ 10 rfl rfl K1 ?_;refine tk2 2 _ 11 rfl rfl K1 ?_;refine tk2 3 _ 12 rfl rfl K1 ?_;refine tk2 4 _ 13 rfl rfl K1 ?_;refine tk2 5 _ 14 rfl rfl K1 ?_;refine tk2 6 _ 15 rfl rfl K1 ?_;refine tk2 7 _ 16 rfl rfl K1 ?_;refine tk2 8 _ 17 rfl rfl K1 ?_;refine tk2 9 _ 18 rfl rfl K1 ?_;refine tk2 10 _ 19 rfl rfl K1 ?_;refine tk2 11 (.bool true) 20 rfl rfl K1 ?_;refine tk2 12 _ 21 rfl rfl K1 ?_;refine zab.one (i:=13) (by kernel_rfl) rfl (fun KQ hK=>?_);go_simp;refine M.mono ?_;rintro e w1 ⟨rfl,rfl⟩;refine hK.out _ _ (fun _=>K1) ?_;clear hK KQ
  (try simp only [jS])
  refine zab.done (by kernel_rfl) ?_ _;go_wp2_with fail;clear y0 y1 K1 M hd hw;have K2:(fun W=>W.cell? ⟨p,0,none⟩=some (.slice va bs.length vc)∧W.cell? ⟨p,1,none⟩=some (.int .i64 ((a:Int)+(n:Int)))) (w.setCell ⟨p,1,none⟩ (.int .i64 ((a:Int)+(n:Int)))).drew.drew:=⟨z0,z1⟩;refine zac (fun W=>W.cell? ⟨p,0,none⟩=some (.slice va bs.length vc)∧W.cell? ⟨p,1,none⟩=some (.int .i64 ((a:Int)+(n:Int)))) (fun _=>true) (by kernel_rfl) ?_;refine tk2 0 _ 31 rfl rfl K2 ?_;refine tk2 1 _ 32 rfl rfl K2 ?_;refine tk2 2 _ 33 rfl rfl K2 ?_;refine tk2 3 _ 34 rfl rfl K2 ?_;refine tk2 4 _ 35 rfl rfl K2 ?_;refine tk2 5 _ 36 rfl rfl K2 ?_;refine tk2 6 _ 37 rfl rfl K2 ?_;refine tk2 7 _ 38 rfl rfl K2 ?_;refine tk2 8 _ 39 rfl rfl K2 ?_;refine tk2 9 _ 40 rfl rfl K2 ?_;refine tk2 10 (.int .i64 a) 41 rfl rfl K2 ?_;refine tk2 11 _ 42 rfl rfl K2 ?_;refine tk2 12 _ 43 rfl rfl K2 ?_;refine tk2 13 _ 44 rfl rfl K2 ?_;refine tk2 14 _ 45 rfl rfl K2 ?_;refine tk2 15 (.slice va n 0) 46 rfl rfl K2 ?_;refine zab.one (i:=16) (by kernel_rfl) rfl (fun KQ hK=>?_);go_simp;refine B.mono ?_;rintro e w1 ⟨rfl,rfl⟩;refine hK.out _ _ (fun _=>K3) ?_;clear hK KQ
  (try simp only [jS])
  refine zab.one (i:=17) (by kernel_rfl) rfl (fun KQ hK=>?_);go_simp;refine hK.out _ _ (fun _=>K3) ?_;clear hK KQ
  (try simp only [jS])
  refine zab.done (by kernel_rfl) ?_ _;go_wp2;go_ret;exact ⟨rfl,HX.out⟩
 ·obtain ⟨g,rfl⟩:∃g,va=some ⟨g,0,none⟩:=by
   rcases hcase with ⟨rfl,rfl⟩ | h
   ·exact absurd (by omega) hca
   ·exact h
  have a52:At c ((w.setCell ⟨p,1,none⟩ (.int .i64 ((a:Int)+(n:Int)))).drewN 2) p5 q [.int .i64 n]:=(a5.offC p 1 _ (fun e=>by have:=a5.col;rw [e,hcp] at this;exact hqk this.symm)).keep (Step.rf.drewN 2) jI;have a62:At c ((w.setCell ⟨p,1,none⟩ (.int .i64 ((a:Int)+(n:Int)))).drewN 2) p6 q [.int .u8 x6]:=(a6.offC p 1 _ (fun e=>by have:=a6.col;rw [e,hcp] at this;exact hqk this.symm)).keep (Step.rf.drewN 2) jI;have hLn:((bs.drop a).take n).length=n:=by rw [List.length_take,List.length_drop];omega
  have SL:Sl zag c 0 0 ((w.setCell ⟨p,1,none⟩ (.int .i64 ((a:Int)+(n:Int)))).drewN 2) (.slice (some ⟨g,a,none⟩) n (vc-a)) ((bs.drop a).take n):=by have:=ow1.sl.sub a n hn;rwa [Nat.zero_add] at this
  have B:=num1_any SL (by omega) (by rw [hLn];exact a52.c0) a62.c0 (a62.fz ok1 hq0 0) (by rw [a62.col];exact hq0) (by rw [a62.col];exact hq0);obtain ⟨W3,hW3⟩:=jE ((if (bs.drop a).take n=[] then ((w.setCell ⟨p,1,none⟩ (.int .i64 ((a:Int)+(n:Int)))).drewN 2) else ((w.setCell ⟨p,1,none⟩ (.int .i64 ((a:Int)+(n:Int)))).drewN 2).setCell ⟨p6,0,none⟩ (.int .u8 ((((bs.drop a).take n).headD 0).toNat))));rw [hW3] at B;have hp6:p≠p6:=fun e=>by have:=a6.col;rw [←e,hcp] at this;exact hqk this.symm
  have hp5:p≠p5:=fun e=>by have:=a5.col;rw [←e,hcp] at this;exact hqk this.symm
  have hx:At c W3 p6 q [.int .u8 (firstB x6 ((bs.drop a).take n))]∧IsRd c k W3 p bs (a+n) f∧Step (Two k q) c w c W3∧Ok c W3∧W3.cell? ⟨p,0,none⟩=some (.slice (some ⟨g,0,none⟩) bs.length vc)∧W3.cell? ⟨p,1,none⟩=some (.int .i64 ((a:Int)+(n:Int))):=by
   rw [←hW3];obtain ⟨L,hL⟩:=jE ((bs.drop a).take n);rw [hL]
   rcases L with _ | ⟨y,L⟩
   ·rw [if_pos rfl]
    exact ⟨a62,hm2,s1.mono fun _ h=>.inl h,ok1,z0,z1⟩
   ·rw [if_neg (by simp)]
    exact ⟨a62.set0,hm2.keep (Step.set1 ⟨p6,0,none⟩ _) (fun e=>hqk (by have:=a62.col;rw [show k=c p6 from e,this])) (fun e=>hq0 (by have:=a62.col;rw [←this];exact e.symm)),(s1.mono fun _ h=>.inl h).setCell (a:=⟨p6,0,none⟩) (.inr (.inr a6.col)) _,ok1.setCell _ _,(World.cell?_setCell_other _ _ _ _ (by intro e;injection e with e1 e2;exact hp6 e1.symm)).trans z0,(World.cell?_setCell_other _ _ _ _ (by intro e;injection e with e1 e2;exact hp6 e1.symm)).trans z1⟩
  have h53:At c W3 p5 q [.int .i64 n]∨p5=p6:=by
   by_cases e:p5=p6
   ·exact .inr e
   ·left
    rw [←hW3]
    split
    ·exact a52
    ·exact a52.offC p6 0 _ e
  have K3:(fun W:World=>W.cell? ⟨p,0,none⟩=some (.slice (some ⟨g,0,none⟩) bs.length vc)∧W.cell? ⟨p,1,none⟩=some (.int .i64 ((a:Int)+(n:Int)))) W3:=⟨hx.2.2.2.2.1,hx.2.2.2.2.2⟩;have HX:=jh5 hx.1 hx.2.1 hx.2.2.1 hx.2.2.2.1 h53;clear hx h53 a62 a52 a5 a6 hW3 hp5 hp6;clear x ow hok h m1 hm2 s1 ok1 ow1 SL;go_enter func135,ntmps135;go_wp2_with fail;refine zac (fun W=>W.cell? ⟨p,0,none⟩=some (.slice (some ⟨g,0,none⟩) bs.length vc)∧W.cell? ⟨p,1,none⟩=some (.int .i64 a)) (fun _=>true) (by kernel_rfl) ?_;refine tk2 0 _ 9 rfl rfl K1 ?_;refine tk2 1 _ 10 rfl rfl K1 ?_;refine tk2 2 _ 11 rfl rfl K1 ?_;refine tk2 3 _ 12 rfl rfl K1 ?_;refine tk2 4 _ 13 rfl rfl K1 ?_;refine tk2 5 _ 14 rfl rfl K1 ?_;refine tk2 6 _ 15 rfl rfl K1 ?_;refine tk2 7 _ 16 rfl rfl K1 ?_;refine tk2 8 _ 17 rfl rfl K1 ?_;refine tk2 9 _ 18 rfl rfl K1 ?_;refine tk2 10 _ 19 rfl rfl K1 ?_;refine tk2 11 (.bool true) 20 rfl rfl K1 ?_;refine tk2 12 _ 21 rfl rfl K1 ?_;refine zab.one (i:=13) (by kernel_rfl) rfl (fun KQ hK=>?_);go_simp;refine M.mono ?_;rintro e w1 ⟨rfl,rfl⟩;refine hK.out _ _ (fun _=>K1) ?_;clear hK KQ
  (try simp only [jS])
  refine zab.done (by kernel_rfl) ?_ _;go_wp2_with fail;clear y0 y1 K1 M hd hw;have K2:(fun W=>W.cell? ⟨p,0,none⟩=some (.slice (some ⟨g,0,none⟩) bs.length vc)∧W.cell? ⟨p,1,none⟩=some (.int .i64 ((a:Int)+(n:Int)))) (w.setCell ⟨p,1,none⟩ (.int .i64 ((a:Int)+(n:Int)))).drew.drew:=⟨z0,z1⟩;refine zac (fun W=>W.cell? ⟨p,0,none⟩=some (.slice (some ⟨g,0,none⟩) bs.length vc)∧W.cell? ⟨p,1,none⟩=some (.int .i64 ((a:Int)+(n:Int)))) (fun _=>true) (by kernel_rfl) ?_;refine tk2 0 _ 31 rfl rfl K2 ?_;refine tk2 1 _ 32 rfl rfl K2 ?_;refine tk2 2 _ 33 rfl rfl K2 ?_;refine tk2 3 _ 34 rfl rfl K2 ?_;refine tk2 4 _ 35 rfl rfl K2 ?_;refine tk2 5 _ 36 rfl rfl K2 ?_;refine tk2 6 _ 37 rfl rfl K2 ?_;refine tk2 7 _ 38 rfl rfl K2 ?_;refine tk2 8 _ 39 rfl rfl K2 ?_;refine tk2 9 _ 40 rfl rfl K2 ?_;refine tk2 10 (.int .i64 a) 41 rfl rfl K2 ?_;refine tk2 11 _ 42 rfl rfl K2 ?_;refine tk2 12 _ 43 rfl rfl K2 ?_;refine tk2 13 _ 44 rfl rfl K2 ?_;refine tk2 14 _ 45 rfl rfl K2 ?_;refine tk2 15 (.slice (some ⟨g,a,none⟩) n (vc-a)) 46 rfl rfl K2 ?_;refine zab.one (i:=16) (by kernel_rfl) rfl (fun KQ hK=>?_);go_simp;refine B.mono ?_;rintro e w1 ⟨rfl,rfl⟩;refine hK.out _ _ (fun _=>K3) ?_;clear hK KQ
  (try simp only [jS])
  refine zab.one (i:=17) (by kernel_rfl) rfl (fun KQ hK=>?_);go_simp;refine hK.out _ _ (fun _=>K3) ?_;clear hK KQ
  (try simp only [jS])
  refine zab.done (by kernel_rfl) ?_ _;go_wp2;go_ret;exact ⟨rfl,HX.out⟩
end
theorem minB_len8 (n:Nat):(minB n).length≤8:=minF_len 8 n
theorem num_bytes {bs rest:List UInt8}{a n:Nat}(hb:bs.drop a=zay n++rest) (ha:a≤bs.length) :
  (bs.drop a).take 1=[UInt8.ofNat (minB n).length]∧(bs.drop (a+1)).take (minB n).length=minB n∧a+1+(minB n).length≤bs.length∧bigN [UInt8.ofNat (minB n).length]=(minB n).length:=by
 have h8:=minB_len8 n;refine ⟨by rw [hb];simp [zay],?_,?_,?_⟩
 ·rw [←List.drop_drop,hb];simp [zay]
 ·have:=congrArg List.length hb
  rw [List.length_drop] at this;simp [zay] at this;omega
 ·simp [bigN,bigF];omega
section
variable {c:Col}{w:World}
theorem rnum_any (hok:Ok c w) {k p:Nat}{bs:List UInt8}{a:Nat}{f:Int×Int}(h:IsRd c k w p bs a f) (hk0:k≠0) (n:Nat) (hn:n<9223372036854775808) {rest:List UInt8}(hb:bs.drop a=zay n++rest) (at0:Int) :
  Calls prog 97 #[.pointer (some ⟨p,0,none⟩),.int .i64 at0] w fun r w'=>r=.returned (.int .i64 n) ∧
   ∃c',IsRd c' k w' p bs (a+(zay n).length) f∧Step (One k) c w c' w'∧Ok c' w':=by
 obtain ⟨b1,b2,b3,b4⟩:=num_bytes hb h.le;have hm8:=minB_len8 n;have hbn:bigN (minB n)=n:=bigN_min 8 n (by omega)
 have hfst:firstB 1 (minB n)≠0:=by
  rcases hm:minB n with _ | ⟨x,l⟩
  ·simp [firstB]
  ·have:=min_head 8 n (by omega) x l hm
   simp only [firstB];intro e;apply this;exact UInt8.toNat_inj.1 (by simpa using e)
 have hlen:(zay n).length=1+(minB n).length:=by simp [zay];omega
 obtain ⟨m,hm⟩:=jE ((minB n).length);obtain ⟨q,hq,hqc⟩:=hok.spare k;have hq0:q≠0:=by omega
 have T1:Calls prog 135 #[.pointer (some ⟨p,0,none⟩),.int .i64 1,.int .i64 at0,.func (.func 136) #[] #[]] w fun r w'=>r=.returned (.int .u64 m)∧IsRd c k w' p bs (a+1) f∧Step (One k) c w c w'∧Ok c w':=by
  have:=takeN_any hok h hk0 1 (by omega) (by omega) at0;rw [b1,b4,hm] at this;exact this
 rw [hm] at b2 b3 hm8 hlen;have hmi:(m:Int)≤8:=by omega
 have hwm:IntKind.i64.wrap (m:Int)=(m:Int):=IntWalk.i64_in _ (by omega);have hwn:IntKind.i64.wrap (n:Int)=(n:Int):=IntWalk.i64_in _ (by omega);have hni:(n:Int)≤9223372036854775807:=by omega
 have hfs:(firstB 1 (minB n)==0)=false:=beq_eq_false_iff_ne.2 hfst;obtain ⟨fb,hfb⟩:=jE (firstB 1 (minB n));have HB:=jh6 b2 b3 hbn hlen hqc hfb;rw [hfb] at hfs;have hfs2:¬fb=0:=by rw [←hfb];exact hfst
 have hfs3:(fb != 0)=true:=by rw [bne_iff_ne];exact hfs2
 clear h hok b1 b2 b3 b4 hbn hfst hm hlen hqc hb hfb;go_enter func97,ntmps97;go_wp2_with fail;refine T1.mono ?_;rintro e w1 ⟨rfl,i1,s1,o1⟩;obtain ⟨a2,o2,s2⟩:=zan o1 [.int .i64 m] 3 q;obtain ⟨a3,o3,s3⟩:=zan o2 [.int .u8 1] 5 q;rw [World.size_alloc] at a3 o3 s3;have M1:=zbF (w1.alloc (.cells #[.int .i64 m] 3)) 5 at0;have a23:=a2.keep s3 jI;have T2:=takeF_any o3 ((i1.kn s2).kn s3) hk0 m HB.out.2.1 hm8 a23 a3 hq0 (by omega) at0;rw [HB.out.1,HB.out.2.2.1,HB.out.2.2.2.2.2] at T2;have z5:=a23.c0;have z2:=a2.c0;have S1:=jh1 (s1.trans (s2.trans s3).ofNo);clear T1 i1 s1 o1 a2 o2 s2 a3 o3 s3 a23;go_wp2_with fail;refine M1.mono ?_;rintro e w2 ⟨rfl,rfl⟩;go_wp2_with fail;refine T2.mono ?_;rintro e w3 ⟨rfl,a6,i3,s3,o3,_⟩;have z6:=a6.c0;have M2:=zbF w3 5 at0;have SX:=jh3 i3 s3 o3;clear T2 M1 z5 z2 a6 i3 s3 o3;go_wp2_with fail;refine M2.mono ?_;rintro e w4 ⟨rfl,rfl⟩;go_wp2;go_ret;obtain ⟨i3,s3,o3⟩:=SX.out;obtain ⟨b2,b3,hbn,hlen,hqc,hfb⟩:=HB.out;refine ⟨rfl,_,by rw [hlen,←Nat.add_assoc];exact i3,?_,o3⟩;refine ((S1.out.mono (K':=Two k q) fun _ h=>.inl h).trans s3).drop fun b _ e=>?_
 rcases e with e | e
 ·exact e
 ·exact absurd e (hqc b)
end
theorem zbc (p:Nat) (w:World) :
  CallsD prog 134 #[.pointer (some ⟨p,0,none⟩)] .returning w fun e u' w'=>e=.returned (.tuple #[])∧u'=.returning∧w'=w:=by
 refine callsD_of_wpS func134 rfl fun c₀ cs hu=>?_;apply wpS_seq;apply wpS_region;simp [wpOpsS,go_sem,recoverD,hu,ntmps134,Exit.thenS];apply wpS_seq;apply wpS_region;simp [wpOpsS,go_sem,Exit.thenS];refine wpS_cond (t:=false) (by simp [Act.eval,Array.replicate]) ?_;simp only [Bool.false_eq_true,if_false];refine wpS_of_wp (wp_skip ?_)
 cases c₀
 simp_all [bodyPostS,results,Tryz.results134]
section
variable {c:Col}{w:World}
theorem readsNum (hok:Ok c w) {k p:Nat}{bs:List UInt8}{a:Nat}{f:Int}(h:IsRd c k w p bs a (0,f)) (hk0:k≠0) (n:Nat) (hn:n<9223372036854775808) {rest:List UInt8}(hb:bs.drop a=zay n++rest) :
  Calls prog 96 #[.pointer (some ⟨p,0,none⟩),.func (.func 97) #[.pointer (some ⟨p,0,none⟩)] #[]] w fun r w'=>r=.returned (.int .i64 n) ∧
   ∃c',IsRd c' k w' p bs (a+(zay n).length) (0,f)∧Step (One k) c w c' w'∧Ok c' w':=by
 have R:=rnum_any hok h hk0 n hn hb a;obtain ⟨bv,x,ow⟩:=h.row;have y1:=x.get (i:=1) rfl;have y2:=x.get (i:=2) rfl;have y4:=x.get (i:=4) rfl;clear h x ow hok;go_enter_defers func96,ntmps96;go_wp2_with fail;refine R.mono ?_;rintro e w1 ⟨rfl,c1,i1,s1,o1⟩;have X:=jh3 i1 s1 o1;clear R i1 s1 o1;go_wp2_with fail;refine leaves_cons (f:=134) (args:=#[.pointer (some ⟨p,0,none⟩)]) (by simp) (by simp [go_sem]) ?_;refine (zbc p w1).mono ?_;rintro e u' w'' ⟨rfl,rfl,rfl⟩;exact ⟨_,results_tmp rfl _ _ _,rfl,c1,X.out⟩
theorem Num_any (hok:Ok c w) {k p:Nat}{bs:List UInt8}{a:Nat}{f:Int}(h:IsRd c k w p bs a (0,f)) (hk0:k≠0) (n:Nat) (hn:n<9223372036854775808) {rest:List UInt8}(hb:bs.drop a=zay n++rest) :
  Calls prog 51 #[.pointer (some ⟨p,0,none⟩)] w fun r w'=>r=.returned (.int .i64 n) ∧
   ∃c',IsRd c' k w' p bs (a+(zay n).length) (0,f)∧Step (One k) c w c' w'∧Ok c' w':=by
 have R:=readsNum hok h hk0 n hn hb;have hmf:∀(fn:Fn) (first cap:Array Value) (w:World),(Instr.makeFunc fn first cap).run prog w=.ok (.func fn first cap) w:=fun _ _ _ _=>rfl;clear h hok;go_enter func51,ntmps51;go_wp2_with fail;refine R.mono ?_;rintro e w1 ⟨rfl,c1,X⟩;have HX:=jh1 X;clear X R;go_wp2;go_ret;exact ⟨rfl,c1,HX.out⟩
end
section
variable {c:Col}{w:World}
theorem mat_any (hok:Ok c w) {k p:Nat}{bs:List UInt8}{a:Nat}(h:IsRd c k w p bs a (0,0)) :
  Calls prog 56 #[.agg #[.pointer (some ⟨p,0,none⟩),.int .i64 bs.length]] w fun r w'=>r=.returned (.int .i64 a)∧∃c',Step No c w c' w'∧Ok c' w':=by
 have s1:Step No c w c (w.alloc (.cells #[.pointer (some ⟨p,0,none⟩),.int .i64 bs.length] 115)):=Step.refl.alloc _;have a1:=At.new0 hok [.pointer (some ⟨p,0,none⟩),.int .i64 bs.length] 115;have o1:=hok.alloc (.cells #[.pointer (some ⟨p,0,none⟩),.int .i64 bs.length] 115);have R:=rest_ok ((h.kn s1).kn (Step.rf.drewN 1)) rfl;have hle:=h.le;have hfew:=h.few;have hw:IntKind.i64.wrap ((bs.length:Int)-((bs.length:Int)-(a:Int)))=(a:Int):=by rw [IntWalk.i64_in _ (by omega)];omega
 obtain ⟨W1,hW1⟩:=jE (w.alloc (.cells #[.pointer (some ⟨p,0,none⟩),.int .i64 bs.length] 115));obtain ⟨bx,hbx⟩:=jE w.heap.size;have K1:(fun W:World=>W.cell? ⟨bx,0,none⟩=some (.pointer (some ⟨p,0,none⟩))∧W.cell? ⟨bx,1,none⟩=some (.int .i64 bs.length)) W1.drew:=by rw [←hW1,←hbx];exact ⟨a1.get (i:=0) rfl,a1.get (i:=1) rfl⟩
 rw [hW1] at s1 o1 R;have X:=jh2 s1 o1;clear s1 o1 a1 h hok;go_enter func56,ntmps56;go_wp2_with fail
 (try rw [hW1])
 (try rw [hbx])
 refine zac (fun W=>W.cell? ⟨bx,0,none⟩=some (.pointer (some ⟨p,0,none⟩))∧W.cell? ⟨bx,1,none⟩=some (.int .i64 bs.length)) (fun i=>!([6]:List Nat).contains i) (by kernel_rfl) ?_;refine tk2 0 _ 3 rfl rfl K1 ?_;refine tk2 1 _ 4 rfl rfl K1 ?_;refine tk2 2 _ 5 rfl rfl K1 ?_;refine tk2 3 _ 6 rfl rfl K1 ?_;refine zab.one (i:=4) (by kernel_rfl) rfl (fun KQ hK=>?_);go_simp;refine R.mono ?_;rintro e w2 ⟨rfl,n,rfl⟩;have X2:=jh2 (X.out.1.drewN (1+n)) (X.out.2.drewN (1+n));go_simp;refine hK.out _ _ (fun _=>K1) ?_;clear hK KQ
 (try simp only [jS])
 refine tk2 5 _ 8 rfl rfl K1 ?_;refine zab.one (i:=6) (by kernel_rfl) rfl (fun KQ hK=>?_);go_simp;refine hK.out _ _ (fun h=>absurd h (by decide)) ?_;clear hK KQ
 (try simp only [jS])
 refine zab.done (by kernel_rfl) ?_ _;go_wp2;go_ret;exact ⟨rfl,c,X2.out⟩
theorem fine_any (hok:Ok c w) {k p:Nat}{bs:List UInt8}{a:Nat}(h:IsRd c k w p bs a (0,0)) (n:Int) :
  Calls prog 52 #[.agg #[.pointer (some ⟨p,0,none⟩),.int .i64 n]] w fun r w'=>r=.returned (.tuple #[])∧∃c',Step No c w c' w'∧Ok c' w':=by
 have s1:Step No c w c (w.alloc (.cells #[.pointer (some ⟨p,0,none⟩),.int .i64 n] 115)):=Step.refl.alloc _;have a1:=At.new0 hok [.pointer (some ⟨p,0,none⟩),.int .i64 n] 115;have o1:=hok.alloc (.cells #[.pointer (some ⟨p,0,none⟩),.int .i64 n] 115);have E:=zaY o1 (h.kn s1);have hle:=h.le;have hfew:=h.few;obtain ⟨W1,hW1⟩:=jE (w.alloc (.cells #[.pointer (some ⟨p,0,none⟩),.int .i64 n] 115));obtain ⟨bx,hbx⟩:=jE w.heap.size;have h1:=h.kn s1;rw [hW1] at s1 o1 E a1 h1;rw [hbx] at a1;have y0:=a1.get (i:=0) rfl;have X1:=jh3 s1 a1 h1;clear s1 o1 a1 h hok h1;by_cases hlt:a<bs.length
 ·have he:endF bs a (0,0)=(4,(a:Int)):=by unfold endF;rw [if_pos ⟨rfl,hlt⟩]
  rw [he] at E;go_enter func52,ntmps52;go_wp2_with fail
  (try rw [hW1])
  (try rw [hbx])
  refine E.mono ?_;rintro e w2 ⟨rfl,c2,s2,o2⟩;have a2:=X1.out.2.1.keep s2 jI;have s3:Step No c2 w2 c2 (w2.alloc (.cells #[.int .i64 4,.int .i64 a] 74)):=Step.refl.alloc _;have f3:=At.new0 o2 [.int .i64 4,.int .i64 a] 74;have o3:=o2.alloc (.cells #[.int .i64 4,.int .i64 a] 74);have a3:=a2.keep s3 jI;have R:=rest_ok (((X1.out.2.2.kn s2).kn s3).kn (Step.rf.drewN 1)) rfl;obtain ⟨W3,hW3⟩:=jE (w2.alloc (.cells #[.int .i64 4,.int .i64 a] 74));obtain ⟨fb,hfb⟩:=jE w2.heap.size;have K1:(fun W:World=>W.cell? ⟨bx,0,none⟩=some (.pointer (some ⟨p,0,none⟩))∧W.cell? ⟨fb,0,none⟩=some (.int .i64 4)∧W.cell? ⟨fb,1,none⟩=some (.int .i64 a)) W3.drew:=by rw [←hW3,←hfb];exact ⟨a3.get (i:=0) rfl,f3.get (i:=0) rfl,f3.get (i:=1) rfl⟩
  rw [hW3] at s3 o3 R;have X3:=jh2 ((X1.out.1.trans s2).trans s3) o3;have hg:(0:Int)<(bs.length:Int)-(a:Int):=by omega
  have hgd:decide ((0:Int)<(bs.length:Int)-(a:Int))=true:=by simp;omega
  clear E s2 o2 a2 s3 f3 o3 a3 y0;go_wp2_with fail
  (try rw [hW3])
  (try rw [hfb])
  refine zac (fun W=>W.cell? ⟨bx,0,none⟩=some (.pointer (some ⟨p,0,none⟩))∧W.cell? ⟨fb,0,none⟩=some (.int .i64 4)∧W.cell? ⟨fb,1,none⟩=some (.int .i64 a)) (fun _=>true) (by kernel_rfl) ?_;refine tk3 0 _ 6 rfl rfl K1 ?_;refine tk3 1 _ 7 rfl rfl K1 ?_;refine tk3 2 _ 8 rfl rfl K1 ?_;refine tk3 3 _ 9 rfl rfl K1 ?_;refine tk3 4 _ 10 rfl rfl K1 ?_;refine tk3 5 _ 11 rfl rfl K1 ?_;refine tk3 9 _ 15 rfl rfl K1 ?_;refine tk3 10 _ 16 rfl rfl K1 ?_;refine tk3 11 _ 17 rfl rfl K1 ?_;refine tk3 12 _ 18 rfl rfl K1 ?_;refine zab.one (i:=6) (by kernel_rfl) rfl (fun KQ hK=>?_);go_simp;refine R.mono ?_;rintro e w4 ⟨rfl,m,rfl⟩;have X4:=jh2 (X3.out.1.drewN (1+m)) (X3.out.2.drewN (1+m));go_simp;refine hK.out _ _ (fun _=>K1) ?_;clear hK KQ
  (try simp only [jS])
  refine tk3 7 _ 13 rfl rfl K1 ?_;refine tk3 8 _ 14 rfl rfl K1 ?_;refine zab.one (i:=13) (by kernel_rfl) rfl (fun KQ hK=>?_);go_simp;refine (zaX _ 4 (a:Int)).mono ?_;rintro e w5 ⟨rfl,rfl⟩;go_simp;refine hK.out _ _ (fun _=>K1) ?_;clear hK KQ
  (try simp only [jS])
  refine zab.done (by kernel_rfl) ?_ _;go_wp2_with fail
  first | go_end0 | refine bodyPost_ret (results_none rfl _ _ _) rfl ?_
  exact ⟨rfl,c2,X4.out⟩
 ·have he:endF bs a (0,0)=(0,0):=by unfold endF;rw [if_neg (fun h=>hlt h.2)]
  rw [he] at E;go_enter func52,ntmps52;go_wp2_with fail
  (try rw [hW1])
  (try rw [hbx])
  refine E.mono ?_;rintro e w2 ⟨rfl,c2,s2,o2⟩;have s3:Step No c2 w2 c2 (w2.alloc (.cells #[.int .i64 0,.int .i64 0] 74)):=Step.refl.alloc _;have f3:=At.new0 o2 [.int .i64 0,.int .i64 0] 74;have o3:=o2.alloc (.cells #[.int .i64 0,.int .i64 0] 74);obtain ⟨W3,hW3⟩:=jE (w2.alloc (.cells #[.int .i64 0,.int .i64 0] 74));obtain ⟨fb,hfb⟩:=jE w2.heap.size;have K1:(fun W:World=>W.cell? ⟨fb,0,none⟩=some (.int .i64 0)∧W.cell? ⟨fb,1,none⟩=some (.int .i64 0)) W3.drew:=by rw [←hW3,←hfb];exact ⟨f3.get (i:=0) rfl,f3.get (i:=1) rfl⟩
  rw [hW3] at s3 o3;have X3:=jh2 (((X1.out.1.trans s2).trans s3).drewN 1) (o3.drewN 1);have HW3:=jh1 hW3;clear E s2 o2 s3 f3 o3 y0 hW3;go_wp2_with fail
  (try rw [HW3.out])
  (try rw [hfb])
  refine zac (fun W=>W.cell? ⟨fb,0,none⟩=some (.int .i64 0)∧W.cell? ⟨fb,1,none⟩=some (.int .i64 0)) (fun _=>true) (by kernel_rfl) ?_;refine tk2 0 _ 6 rfl rfl K1 ?_;refine tk2 1 _ 7 rfl rfl K1 ?_;refine tk2 2 _ 8 rfl rfl K1 ?_;refine tk2 3 _ 9 rfl rfl K1 ?_;refine tku 4 _ 10 rfl rfl K1 ?_;refine tku 5 _ 11 rfl rfl K1 ?_;refine tku 6 _ 12 rfl rfl K1 ?_;refine tku 7 _ 13 rfl rfl K1 ?_;refine tk2 8 _ 14 rfl rfl K1 ?_;refine tk2 9 _ 15 rfl rfl K1 ?_;refine tk2 10 _ 16 rfl rfl K1 ?_;refine tk2 11 _ 17 rfl rfl K1 ?_;refine tk2 12 _ 18 rfl rfl K1 ?_;refine zab.one (i:=13) (by kernel_rfl) rfl (fun KQ hK=>?_);go_simp;refine (zaX _ 0 0).mono ?_;rintro e w5 ⟨rfl,rfl⟩;go_simp;refine hK.out _ _ (fun _=>K1) ?_;clear hK KQ
  (try simp only [jS])
  refine zab.done (by kernel_rfl) ?_ _;go_wp2_with fail
  first | go_end0 | refine bodyPost_ret (results_none rfl _ _ _) rfl ?_
  exact ⟨rfl,c2,X3.out⟩
theorem mnum_any (hok:Ok c w) {k p:Nat}{bs:List UInt8}{a:Nat}(h:IsRd c k w p bs a (0,0)) (hk0:k≠0) (n:Nat) (hn:n<9223372036854775808) {rest:List UInt8}(hb:bs.drop a=zay n++rest) {may:Nat}(hmay:∀W,Calls prog may #[.int .i64 n] W fun r w'=>r=.returned (.bool true)∧w'=W) (hmf:may=54∨may=55) :
  Calls prog 53 #[.agg #[.pointer (some ⟨p,0,none⟩),.int .i64 bs.length],.func (.func may) #[] #[]] w fun r w'=>r=.returned (.int .i64 n) ∧
   ∃c',IsRd c' k w' p bs (a+(zay n).length) (0,0)∧Step (One k) c w c' w'∧Ok c' w':=by
 have hnk:¬One k 0:=fun (e:0=k)=>hk0 e.symm;have s1:Step No c w c (w.alloc (.cells #[.pointer (some ⟨p,0,none⟩),.int .i64 bs.length] 115)):=Step.refl.alloc _;have a1:=At.new0 hok [.pointer (some ⟨p,0,none⟩),.int .i64 bs.length] 115;have o1:=hok.alloc (.cells #[.pointer (some ⟨p,0,none⟩),.int .i64 bs.length] 115);have AT:=mat_any o1 (h.kn s1);obtain ⟨W1,hW1⟩:=jE (w.alloc (.cells #[.pointer (some ⟨p,0,none⟩),.int .i64 bs.length] 115));obtain ⟨bx,hbx⟩:=jE w.heap.size;have h1:=h.kn s1;rw [hW1] at s1 o1 AT a1 h1;rw [hbx] at a1;have y0:=a1.get (i:=0) rfl;have y1:=a1.get (i:=1) rfl;have X1:=jh3 s1 a1 h1;have HB:=jh2 hb hmay;clear s1 o1 a1 h hok h1 hb hmay;go_enter func53,ntmps53;go_wp2_with fail
 (try rw [hW1])
 (try rw [hbx])
 refine AT.mono ?_;rintro e w2 ⟨rfl,c2,s2,o2⟩;have a2:=X1.out.2.1.keep s2 jI;have NM:=Num_any o2 (X1.out.2.2.kn s2) hk0 n hn HB.out.1;have z0:=a2.get (i:=0) rfl;have X2:=jh2 (X1.out.1.trans s2) a2;clear AT s2 o2 a2 y0 y1;go_wp2_with fail;refine NM.mono ?_;rintro e w3 ⟨rfl,c3,i3,s3,o3⟩;have a3:=X2.out.2.keep s3 hnk;have FN:=fine_any o3 i3 bs.length;have z3:=a3.get (i:=0) rfl;have z31:=a3.get (i:=1) rfl;have X3:=jh2 i3 (X2.out.1.ofNo.trans s3);clear NM i3 s3 o3 a3 z0;go_wp2_with fail;refine FN.mono ?_;rintro e w4 ⟨rfl,c4,s4,o4⟩;have MY:=HB.out.2 w4;have MU:=zaX w4 3 (a:Int);have X4:=jh3 (X3.out.1.kn s4) (X3.out.2.trans s4.ofNo) o4;clear FN s4 o4 z3 z31
 rcases hmf with rfl | rfl
 ·go_wp2_with fail
  refine MY.mono ?_;rintro e w5 ⟨rfl,rfl⟩;go_wp2_with fail;refine MU.mono ?_;rintro e w5 ⟨rfl,rfl⟩;go_wp2;go_ret;exact ⟨rfl,c4,X4.out⟩
 ·go_wp2_with fail
  refine MY.mono ?_;rintro e w5 ⟨rfl,rfl⟩;go_wp2_with fail;refine MU.mono ?_;rintro e w5 ⟨rfl,rfl⟩;go_wp2;go_ret;exact ⟨rfl,c4,X4.out⟩
end
