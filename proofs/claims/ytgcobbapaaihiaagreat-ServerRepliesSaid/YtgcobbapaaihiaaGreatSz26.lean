/- ServerReplies, part 26: lemmas, each with its own conditions. -/
import Derived.Test.YtgcobbapaaihiaaGreatSz25
set_option linter.all false
set_option maxHeartbeats 12800000
set_option maxRecDepth 100000
open Go.Proofs.Tryz
namespace Go.Proofs.YtgcobbapaaihiaaGreat
open Go.RowKit
def IsVals (v:Value) (c:Col) (w:World):Prop:=∃l:List Vld,l.length≤64∧Sl TVal c 0 0 w v l
section
variable {c:Col}{w:World}
theorem At.faultG {b k:Nat}{e0 e1:Int}(ho:Ok c w) (hk:k≠0) (h:At c w b k [.int .i64 e0,.int .i64 e1]) (g0 g1:Int) :
  At c ((w.setCell ⟨b,0,none⟩ (.int .i64 g0)).setCell ⟨b,1,none⟩ (.int .i64 g1)) b k [.int .i64 g0,.int .i64 g1]∧Ok c ((w.setCell ⟨b,0,none⟩ (.int .i64 g0)).setCell ⟨b,1,none⟩ (.int .i64 g1))∧Step (One k) c w c ((w.setCell ⟨b,0,none⟩ (.int .i64 g0)).setCell ⟨b,1,none⟩ (.int .i64 g1)) ∧
   w.cell? ⟨b,0,none⟩=some (.int .i64 e0)∧w.cell? ⟨b,1,none⟩=some (.int .i64 e1)∧w.frozen? ⟨b,0,none⟩=false∧w.frozen? ⟨b,1,none⟩=false:=
 ⟨(h.setN (i:=0) (by simp) (.int .i64 g0)).setN (i:=1) (by simp) (.int .i64 g1),(ho.setCell _ _).setCell _ _,((Step.refl (K:=One k)).setCell (a:=⟨b,0,none⟩) (.inr h.col) _).setCell (a:=⟨b,1,none⟩) (.inr h.col) _,
  h.get (i:=0) rfl,h.get (i:=1) rfl,h.fz ho hk 0,h.fz ho hk 1⟩
theorem valsX_any (hok:Ok c w) {bs:List UInt8}(hbl:bs.length≤1000000) {kx:Nat}{v:Value}(hv:Sl zag c kx 0 w v bs) :
  Calls prog 108 #[v] w (DecOut IsVals c w):=by
 obtain ⟨q,hq,hqc⟩:=hok.top kx;have hq0:q≠0:=by omega
 obtain ⟨af,of_,sf⟩:=zan hok [.int .i64 0,.int .i64 0] 74 (q+2);obtain ⟨fb,hfb⟩:=jE w.heap.size;rw [hfb] at af of_ sf;obtain ⟨W1,hW1⟩:=jE (w.alloc (.cells #[.int .i64 0,.int .i64 0] 74));have hW1':w.alloc (.cells ([Value.int .i64 0,.int .i64 0]:List Value).toArray 74)=W1:=hW1;rw [hW1'] at af of_ sf;have NR:=zaM of_ (hv.kn sf) (by omega) q;obtain ⟨va,vd,rfl,_⟩:=hv.form;have HB:=jh1 hqc;have X:=jh2 af sf;clear af of_ sf hok hv hqc;go_enter func108,ntmps108;go_wp2_with fail
 (try rw [hfb])
 (try rw [hW1])
 refine NR.mono ?_;rintro e w2 ⟨p,rfl,c2,i2,s2,o2,_⟩;have N1:=NumX_any o2 i2 hq0;have X2:=jh2 (X.out.1.kn s2) (X.out.2.trans s2);clear NR X i2 s2 o2;go_wp2_with fail;refine N1.mono ?_;rintro e w3 ⟨n,rfl,hn,c3,a3,⟨f30,f31⟩,i3,s3,o3,-⟩;have xf3:=X2.out.1.keep s3 (show ¬q+2=q by omega);have st3:Step (fun j=>q≤j) c w c3 w3:=(X2.out.2.ofNo.trans s3).mono fun j (e:j=q)=>by omega
 by_cases h64:(64:Int)<(n:Int)
 ·obtain ⟨f1,f2,f3,f4,f5,f6,f7⟩:=xf3.faultG o3 (jz _) 4 0
  have FL:=jh3 f1.cells ((st3.trans (f3.mono fun j (e:j=q+2)=>by omega)).drop (K':=No) fun b _ e=>by have:=HB.out b;omega) f2;clear N1 X2 i3 s3 o3 xf3 st3 f1 f2 f3;go_wp2_with fail;exact bodyPost_ret (zaQ rfl _ _ fb _ _ rfl FL.out.1 underlying74 rfl zao) rfl ⟨_,4,0,rfl,c3,⟨[],by simp,Sl.nil _ _ _ _ _⟩,FL.out.2.1,FL.out.2.2⟩
 have hn64:n≤64:=by omega
 have X3:=jh4 xf3 st3 i3 o3;clear N1 X2 i3 s3 o3 xf3 st3;go_wp2;go_loopw [2,15] (fun vo vi wr=>∃(j:Nat) (cr:Col) (l:List Vld) (a:Nat) (f:Int×Int),j≤n∧vi=.int .i64 j∧Own TVal 93 cr (q+4) 0 wr vo l∧l.length=j∧At cr wr fb (q+2) [.int .i64 0,.int .i64 0]∧IsRd cr q wr p bs a f∧Step (fun j=>q≤j) c w cr wr∧Ok cr wr) (fun _ vi _=>n-(intOf vi).toNat)
 case atStart=>
  obtain ⟨x1,x2,x3,x4⟩:=X3.out;exact ⟨0,c3,[],_,_,Nat.zero_le _,rfl,Own.nil _ _ _ _ _ _,rfl,x1,x3,x2,x4⟩
 case round=>
  obtain ⟨j,cr,l,a,⟨f0,f1⟩,hj,rfl,ow,hl,af,ir,sr,okr⟩:=hrel;obtain ⟨oa,oc,hform,_⟩:=ow.sl.form;rw [hl] at hform;subst hform;have HL:=jh1 hl;clear hl;by_cases hjn:j<n
  ·have RK:=KeyX_any okr ir hq0
   have hjni:(j:Int)<(n:Int):=by omega
   have Y:=jh3 ow af sr;clear ow af ir sr okr X3;go_wp2_with fail;refine RK.mono ?_;rintro e w4 ⟨_,rfl,c4,a4,⟨f40,f41⟩,i4,s4,o4,x,hx,rfl⟩
   obtain ⟨b0,b1,b2,b3,rfl⟩:∃b0 b1 b2 b3,x=[b0,b1,b2,b3]:=by
    rcases x with _ | ⟨b0,_ | ⟨b1,_ | ⟨b2,_ | ⟨b3,_ | ⟨b4,x⟩⟩⟩⟩⟩ <;> simp at hx
    exact ⟨b0,b1,b2,b3,rfl⟩
   rw [show bC [b0,b1,b2,b3]=[.int .u8 b0.toNat,.int .u8 b1.toNat,.int .u8 b2.toNat,.int .u8 b3.toNat] from rfl];obtain ⟨av,ov,sv⟩:=zan o4 [.int .u8 b0.toNat,.int .u8 b1.toNat,.int .u8 b2.toNat,.int .u8 b3.toNat,.int .i64 0] 93 (q+3);obtain ⟨vb,hvb⟩:=jE w4.heap.size;rw [hvb] at av ov sv;have N2:=NumX_any ov (i4.kn sv) hq0;obtain ⟨ow,af,sr⟩:=Y.out;have X4:=jh4 ((af.keep s4 (show ¬q+2=q by omega)).kn sv) ((sr.trans (s4.mono fun j (e:j=q)=>by omega)).trans sv.ofNo) av ((ow.keep s4 (show ¬q+4=q by omega) (show ¬0=q by omega)).kn sv);obtain ⟨W4,hW4⟩:=jE (w4.alloc (.cells #[.int .u8 b0.toNat,.int .u8 b1.toNat,.int .u8 b2.toNat,.int .u8 b3.toNat,.int .i64 0] 93));have hW4':w4.alloc (.cells ([Value.int .u8 b0.toNat,.int .u8 b1.toNat,.int .u8 b2.toNat,.int .u8 b3.toNat,.int .i64 0]:List Value).toArray 93)=W4:=hW4;rw [hW4'] at N2 X4;have HW4:=jh1 hW4;clear RK Y i4 s4 o4 av ov sv hW4 hW4' ow af sr hx;go_wp2_with fail
   (try rw [hvb])
   (try rw [HW4.out])
   refine N2.mono ?_;rintro e w5 ⟨n2,rfl,hn2,c5,a5,⟨f50,f51⟩,i5,s5,o5,-⟩;obtain ⟨xf,xs,xv,xo⟩:=X4.out;have xv5:=xv.keep s5 (show ¬q+3=q by omega);have y4:=xv5.get (i:=4) rfl;have yf4:=xv5.fz o5 (jz _) 4;have xv6:At c5 (w5.setCell ⟨vb,4,none⟩ (.int .i64 n2)) vb (q+3) [.int .u8 b0.toNat,.int .u8 b1.toNat,.int .u8 b2.toNat,.int .u8 b3.toNat,.int .i64 n2]:=xv5.setN (i:=4) (by simp) (.int .i64 n2);have s6:Step (One (q+3)) c5 w5 c5 (w5.setCell ⟨vb,4,none⟩ (.int .i64 n2)):=(Step.refl (K:=One (q+3))).setCell (a:=⟨vb,4,none⟩) (.inr xv5.col) _;have o6:=o5.setCell ⟨vb,4,none⟩ (.int .i64 n2);have i6:=i5.keep s6 (show ¬q=q+3 by omega) (show ¬0=q+3 by omega);have xf6:=(xf.keep s5 (show ¬q+2=q by omega)).keep s6 (show ¬q+2=q+3 by omega);have xo6:=(xo.keep s5 (show ¬q+4=q by omega) (show ¬0=q by omega)).keep s6 (show ¬q+4=q+3 by omega) (show ¬0=q+3 by omega);have st6:Step (fun j=>q≤j) c w c5 (w5.setCell ⟨vb,4,none⟩ (.int .i64 n2)):=(xs.trans (s5.mono fun j (e:j=q)=>by omega)).trans (s6.mono fun j (e:j=q+3)=>by omega);obtain ⟨W6,hW6⟩:=jE (w5.setCell ⟨vb,4,none⟩ (.int .i64 n2));rw [hW6] at xv6 s6 o6 i6 xf6 xo6 st6;have z0:=xv6.get (i:=0) rfl;have z1:=xv6.get (i:=1) rfl;have z2:=xv6.get (i:=2) rfl;have z3:=xv6.get (i:=3) rfl;have z4:=xv6.get (i:=4) rfl;obtain ⟨x1,x2,x3⟩:=zbE (T:=TVal) (x:=⟨[b0,b1,b2,b3],n2⟩) (vs:=[.int .u8 b0.toNat,.int .u8 b1.toNat,.int .u8 b2.toNat,.int .u8 b3.toNat,.int .i64 n2]) (k2:=0) o6 ⟨rfl,rfl,has_nat hn2⟩ 93;have on:=xo6.kn x3;have hq4:0≠q+4:=by omega
   have hm1:l.length + [(⟨[b0,b1,b2,b3],n2⟩:Vld)].length≤maxLen:=by rw [HL.out];simp [maxLen];omega
   have hm2:(l.length + [(⟨[b0,b1,b2,b3],n2⟩:Vld)].length)*16≤140737488355328:=by rw [HL.out];simp;omega
   have X6:=jh4 xf6 st6 i6 x3;have hwj:IntKind.i64.wrap ((j:Int)+1)=((j+1:Nat):Int):=by rw [IntWalk.i64_in _ (by omega)];rfl
   clear N2 X4 i5 s5 o5 xf xs xv xo xv5 xv6 s6 o6 i6 xf6 xo6 st6 x3;go_wp2_with (at_builtin;refine zaq TVal x1 rfl _ _ 57 rfl 93 underlying57 infoVal3 rfl (by decide) rfl rfl on x2 hq4 hm1 hm2 ?_;rintro v7 w7 c7 b1 b2 b3 -;have X7:=jh3 b1 b2 b3;clear b1 b2 b3 x1 x2 on);go_roundw
   case rel=>
    obtain ⟨b1,b2,b3⟩:=X7.out;obtain ⟨xf6,st6,i6,x3⟩:=X6.out;exact ⟨j+1,c7,_,_,_,by omega,by first | rfl | go_num,b1,by rw [List.length_append,HL.out];rfl,(xf6.kn x3).keep b2 (show ¬q+2=q+4 by omega),(i6.kn x3).keep b2 (show ¬q=q+4 by omega) (show ¬0=q+4 by omega),(st6.trans x3.ofNo).trans (b2.mono fun j (e:j=q+4)=>by omega),b3⟩
   case measure=>simp [intOf];omega
  ·have hjni:¬(j:Int)<(n:Int):=by omega
   have EN:=zaY okr ir;have Y:=jh3 ow af sr;clear ow af ir sr okr X3;obtain ⟨g0,hg0⟩:=jE ((endF bs a (f0,f1)).1);obtain ⟨g1,hg1⟩:=jE ((endF bs a (f0,f1)).2);rw [hg0,hg1] at EN;go_wp2_with fail;refine EN.mono ?_;rintro e w8 ⟨rfl,c8,s8,o8⟩;obtain ⟨xo,xf,xs⟩:=Y.out;obtain ⟨f1,f2,f3,f4,f5,f6,f7⟩:=(xf.kn s8).faultG o8 (jz _) g0 g1;have xo9:=(xo.kn s8).keep f3 (show ¬q+4=q+2 by omega) (show ¬0=q+2 by omega);have xs9:=(xs.trans s8.ofNo).trans (f3.mono fun j (e:j=q+2)=>by omega);obtain ⟨W9,hW9⟩:=jE ((w8.setCell ⟨fb,0,none⟩ (.int .i64 g0)).setCell ⟨fb,1,none⟩ (.int .i64 g1));rw [hW9] at f1 f2 f3 xo9 xs9;have h0:=f1.get (i:=0) rfl;have h1:=f1.get (i:=1) rfl;obtain ⟨gz,hgz⟩:=jE ((g0==0&&g1==0));have hE:=fun W=>eqF g0 g1 W;rw [hgz] at hE;have X9:=jh4 f1 xs9 xo9 f2;clear EN Y s8 o8 xf xs xo f1 f2 f3 xo9 xs9 hg0 hg1 hgz;go_upto_if 32 with (fail)
   (try rw [hW9])
   clear hE f4 f5 f6 f7;go_cut [] from 30 to 35 (fun wr=>∃cr g0 g1,At cr wr fb (q+2) [.int .i64 g0,.int .i64 g1]∧Step (One (q+2)) c8 W9 cr wr∧Ok cr wr)
   case first=>
    rcases gz with _ | _
    ·go_wp2
     go_meet
     case rel=>exact ⟨c8,g0,g1,X9.out.1,Step.refl,X9.out.2.2.2⟩
    ·have VC:=vcheck_any X9.out.2.2.2 X9.out.2.2.1.sl (by rw [HL.out];omega)
     obtain ⟨ck,hck⟩:=jE (zaJ l);rw [hck] at VC;clear hck;go_wp2_with fail;refine VC.mono ?_;rintro e wA ⟨rfl,cA,sA,oA⟩;have xfA:=X9.out.1.kn sA;have h0:=xfA.get (i:=0) rfl;have hf0:=xfA.fz oA (jz _) 0;have sB:Step (One (q+2)) cA wA cA (wA.setCell ⟨fb,0,none⟩ (.int .i64 ck)):=(Step.refl (K:=One (q+2))).setCell (a:=⟨fb,0,none⟩) (.inr xfA.col) _;have R9:=jh3 (xfA.setN (i:=0) (by simp) (.int .i64 ck)) (sA.ofNo.trans sB) (oA.setCell ⟨fb,0,none⟩ (.int .i64 ck));clear VC sA oA xfA sB;go_wp2;go_meet
     case rel=>exact ⟨cA,ck,g1,R9.out⟩
   case rest=>
    obtain ⟨c9,g0,g1,ag9,s9,o9⟩:=hcut;obtain ⟨gz,hgz⟩:=jE ((g0==0&&g1==0));have hE:=fun W=>neF g0 g1 W;rw [hgz] at hE;have h0:=ag9.get (i:=0) rfl;have h1:=ag9.get (i:=1) rfl;have fz0:=ag9.fz o9 (jz _) 0;have fz1:=ag9.fz o9 (jz _) 1;obtain ⟨_,xs,xo,_⟩:=X9.out;have xo9:=xo.keep s9 (show ¬q+4=q+2 by omega) (show ¬0=q+2 by omega);have xs9:=xs.trans (s9.mono fun j (e:j=q+2)=>by omega);have sd:Step No c9 wc c9 wc.drew:=Step.rf.drewN 1;have od:Ok c9 wc.drew:=o9.drewN 1;obtain ⟨f1,f2,f3,f4,f5,f6,f7⟩:=(ag9.kn sd).faultG od (jz _) g0 g1;have xo10:=((xo9.kn sd).keep f3 (show ¬q+4=q+2 by omega) (show ¬0=q+2 by omega)).turn (k:=0) (show 0≠q+4 by omega);have xs10:=(((xs9.trans sd.ofNo).trans (f3.mono fun j (e:j=q+2)=>by omega)).turn (q:=q+4) (k:=0) (show q≤q+4 by omega)).drop (K':=No) fun b _ e=>by have:=HB.out b;omega
    have FL:=jh4 f1.cells xo10.sl xs10 (f2.turn (q:=q+4) (k:=0) (by omega));have KK:(fun W:World=>W.cell? ⟨fb,0,none⟩=some (.int .i64 g0)∧W.cell? ⟨fb,1,none⟩=some (.int .i64 g1)) wc.drew:=⟨f4,f5⟩;clear X9 xs xo xo9 xs9 ag9 s9 o9 sd od f1 f2 f3 xo10 xs10 hgz
    rcases gz with _ | _
    ·go_wp2_with fail
     refine zac (fun W=>W.cell? ⟨fb,0,none⟩=some (.int .i64 g0)∧W.cell? ⟨fb,1,none⟩=some (.int .i64 g1)) (fun i=>!([2]:List Nat).contains i) (by kernel_rfl) ?_;refine tk2 0 _ 39 rfl rfl KK ?_;refine zab.one (i:=1) (by kernel_rfl) rfl (fun KQ hK=>?_);go_simp;refine hK.out _ _ (fun _=>KK) ?_;clear hK KQ
     (try simp only [jS])
     refine zab.one (i:=2) (by kernel_rfl) rfl (fun KQ hK=>?_);go_simp;refine hK.out _ _ (fun h=>absurd h (by decide)) ?_;clear hK KQ
     (try simp only [jS])
     refine zab.done (by kernel_rfl) ?_ _;go_wp2_with fail;exact bodyPost_ret (zaQ rfl _ _ fb _ _ rfl FL.out.1 underlying74 rfl zao) rfl ⟨_,g0,g1,rfl,_,⟨[],by simp,Sl.nil _ _ _ _ _⟩,FL.out.2.2.1,FL.out.2.2.2⟩
    ·go_wp2_with fail
     refine zac (fun W=>W.cell? ⟨fb,0,none⟩=some (.int .i64 g0)∧W.cell? ⟨fb,1,none⟩=some (.int .i64 g1)) (fun i=>!([3]:List Nat).contains i) (by kernel_rfl) ?_;refine tk2 0 _ 40 rfl rfl KK ?_;refine tk2 1 _ 41 rfl rfl KK ?_;refine zab.one (i:=2) (by kernel_rfl) rfl (fun KQ hK=>?_);go_simp;refine hK.out _ _ (fun _=>KK) ?_;clear hK KQ
     (try simp only [jS])
     refine zab.one (i:=3) (by kernel_rfl) rfl (fun KQ hK=>?_);go_simp;refine hK.out _ _ (fun h=>absurd h (by decide)) ?_;clear hK KQ
     (try simp only [jS])
     refine zab.done (by kernel_rfl) ?_ _;go_wp2_with fail;exact bodyPost_ret (zaQ rfl _ _ fb _ _ rfl FL.out.1 underlying74 rfl zao) rfl ⟨_,g0,g1,rfl,_,⟨l,by rw [HL.out];omega,by rw [←HL.out] at *;exact FL.out.2.1⟩,FL.out.2.2.1,FL.out.2.2.2⟩
end
def encC1 (ht:Int) (y:List UInt8) (wd:List UInt8):List UInt8:=zay ht.toNat++(y++(zay 1++(zay 0++wd)))
def zaC (ht:Int) (y:List UInt8) (v:Value):List Value:=.int .i64 ht::(bC y++[v])
theorem zero_commitZ:zaE prog 56 (zaC 0 zap (.slice none 0 0)):=by unfold zaE;kernel_rfl
section
variable {c:Col}{w:World}
theorem zaH (ht:Int) {y:List UInt8}(hy:y.length=32) (v:Value):(zaC ht y v).length=34:=by simp [zaC,zaf,hy]
theorem cm_slot {b k:Nat}{ht:Int}{y:List UInt8}{v:Value}(hy:y.length=32) (h:At c w b k (zaC ht y v)):w.cell? ⟨b,33,none⟩=some v:=by
 have h1:=(zam (xs:=.int .i64 ht::bC y) (ys:=[v]) h.cells).2 0 v rfl;simpa [zaf,hy] using h1
theorem cm_set {ht:Int}{y:List UInt8}{v:Value}(hy:y.length=32) (u:Value):(zaC ht y v).set 33 u=zaC ht y u:=by
 unfold zaC;rw [show (33:Nat)=32+1 from rfl,List.set_cons_succ,List.set_append_right _ _ (by rw [zaf,hy];omega),zaf,hy]
 rfl
theorem commitD_ok (hok:Ok c w) {ht:Int}(hh:zav ht=true) {y wd:List UInt8}(hy:y.length=32) (hwd:wd.length=8) {kx:Nat}{v:Value}(hv:Sl zag c kx 0 w v (encC1 ht y wd)) :
  Calls prog 106 #[v] w fun r w'=>∃(s:Nat) (x:Value),r=.returned (.tuple #[.agg (zaC ht y x).toArray,.agg #[.int .i64 0,.int .i64 0]])∧∃c',Sl TVot c' 0 0 w' x [⟨0,s⟩]∧Step No c w c' w'∧Ok c' w':=by
 obtain ⟨q,hq,hqc⟩:=hok.top kx;have hq0:q≠0:=by omega
 have hhn:((ht.toNat:Nat):Int)=ht∧ht.toNat<9223372036854775808:=by simp only [zav,Bool.and_eq_true,decide_eq_true_eq] at hh;omega
 obtain ⟨ar,or_,sr⟩:=zan hok (zaC 0 zap (.slice none 0 0)) 56 (q+1);obtain ⟨af,of_,sf⟩:=zan or_ [.int .i64 0,.int .i64 0] 74 (q+2);rw [World.size_alloc] at af of_ sf;obtain ⟨cb,hcb⟩:=jE w.heap.size;rw [hcb] at ar or_ sr af of_ sf;have ar1:=ar.kn sf;have s1:=sr.trans sf;have hv1:=hv.kn s1
 have hbl:(encC1 ht y wd).length≤100:=by
  have h1:=zae ht.toNat;have h2:=zae 1;have h3:=zae 0;simp [encC1,hy,hwd];omega
 obtain ⟨bs,hbs⟩:=jE (encC1 ht y wd);rw [hbs] at hv hv1 hbl;obtain ⟨Z,hZ⟩:=jE (zaC 0 zap (.slice none 0 0));have zC:=zero_commitZ;rw [hZ] at ar1 of_ s1 hv1 zC af;obtain ⟨W1,hW1⟩:=jE ((w.alloc (.cells Z.toArray 56)).alloc (.cells #[.int .i64 0,.int .i64 0] 74));have hW1':(w.alloc (.cells Z.toArray 56)).alloc (.cells ([Value.int .i64 0,.int .i64 0]:List Value).toArray 74)=W1:=hW1;rw [hW1'] at ar1 s1 hv1 af of_;have NR:=zaM of_ hv1 (by omega) q;obtain ⟨va,vd,rfl,_⟩:=hv.form;have HB:=jh9 hbs hqc hy hwd hhn hh hZ zC hbl;have X:=jh3 ar1 af s1;clear ar or_ sr af of_ sf ar1 s1 hv1 hv hok hqc hbs hy hwd hhn hh hZ zC hbl;go_enter func106,ntmps106;go_wp2_with (refine zaa rfl (some 2) rfl 56 rfl HB.out.2.2.2.2.2.2.2.1 ?_)
 (try simp only [World.size_alloc])
 (try rw [hcb])
 (try rw [hW1])
 refine NR.mono ?_;rintro e w2 ⟨p,rfl,c2,i2,s2,o2,_⟩;obtain ⟨hbs,hqc,hy,hwd,hhn,hh,hZ,zC,hbl⟩:=HB.out;have e2:bs.drop 0=zay ht.toNat++(y++(zay 1++(zay 0++wd))):=by rw [←hbs,List.drop_zero];rfl
 have N1:=Num_any o2 i2 hq0 ht.toNat hhn.2 e2;rw [hhn.1] at N1;obtain ⟨A1,hA1⟩:=jE (0+(zay ht.toNat).length);rw [hA1] at N1
 have e3:bs.drop A1=y++(zay 1++(zay 0++wd)):=by
  rw [←hA1,←List.drop_drop,e2,List.drop_left]
 have hL:bs.length=A1+43:=by
  have:=congrArg List.length e3;have d1:(zay 1).length=2:=by decide
  have d0:(zay 0).length=1:=by decide
  simp [hy,hwd,d1,d0] at this;omega
 have X2:=jh5 (X.out.1.kn s2) (X.out.2.1.kn s2) (X.out.2.2.trans s2) e3 hL;clear NR X i2 s2 o2 e2 e3 hbs hqc hy hwd hhn hh hZ zC hbl hA1 hL;go_wp2_with fail;refine N1.mono ?_;rintro e w3 ⟨rfl,c3,i3,s3,o3⟩;obtain ⟨hbs,hqc,hy,hwd,hhn,hh,hZ,zC,hbl⟩:=HB.out;obtain ⟨xr,xf,xs,xe,xl⟩:=X2.out;have xr3:=xr.keep s3 (show ¬q+1=q by omega);rw [←hZ] at xr3;have y0:=xr3.get (i:=0) rfl;have yf:=xr3.fz o3 (jz _) 0;have xr4:At c3 (w3.setCell ⟨cb,0,none⟩ (.int .i64 ht)) cb (q+1) (zaC ht zap (.slice none 0 0)):=xr3.setN (i:=0) (by rw [zaH _ rfl];omega) (.int .i64 ht);have s4:Step (One (q+1)) c3 w3 c3 (w3.setCell ⟨cb,0,none⟩ (.int .i64 ht)):=(Step.refl (K:=One (q+1))).setCell (a:=⟨cb,0,none⟩) (.inr xr3.col) _;have o4:=o3.setCell ⟨cb,0,none⟩ (.int .i64 ht);have i4:=i3.keep s4 (show ¬q=q+1 by omega) (show ¬0=q+1 by omega);have xf4:=(xf.keep s3 (show ¬q+2=q by omega)).keep s4 (show ¬q+2=q+1 by omega);have xs4:Step (fun j=>q≤j) c w c3 (w3.setCell ⟨cb,0,none⟩ (.int .i64 ht)):=(xs.ofNo.trans (s3.mono fun j (e:j=q)=>by omega)).trans (s4.mono fun j (e:j=q+1)=>by omega);obtain ⟨W4,hW4⟩:=jE (w3.setCell ⟨cb,0,none⟩ (.int .i64 ht));rw [hW4] at xr4 s4 o4 i4 xf4 xs4;have RH:=RHash_any o4 i4 hq0 (by rw [xl];omega);have eT:(bs.drop A1).take 32=y:=by rw [xe];exact List.take_left' hy
 rw [eT] at RH;have e5:bs.drop (A1+32)=zay 1++(zay 0++wd):=by rw [←List.drop_drop,xe];exact List.drop_left' hy
 have X4:=jh5 xr4 xf4 xs4 e5 xl;clear N1 X2 i3 s3 o3 xr xf xs xe xl xr3 xr4 s4 o4 i4 xf4 xs4 eT e5 hbs hqc hy hwd hhn hh hZ zC hbl;go_wp2_with fail
 (try rw [hW4])
 refine RH.mono ?_;rintro e w5 ⟨rfl,c5,i5,s5,o5⟩;obtain ⟨hbs,hqc,hy,hwd,hhn,hh,hZ,zC,hbl⟩:=HB.out;obtain ⟨xr,xf,xs,xe,xl⟩:=X4.out;have xr5:=xr.keep s5 (show ¬q+1=q by omega);obtain ⟨aw,tw⟩:=At.seg (xs:=[.int .i64 ht]) (os:=bC zap) (zs:=[.slice none 0 0]) (us:=bC y) xr5 o5 (jz q) (by rw [zaf,zaf,hy];rfl);have aw:At c5 (w5.setCells cb 1 (bC y)) cb (q+1) (zaC ht y (.slice none 0 0)):=aw;have tw:w5.there cb 1 (bC y).length:=tw;have s6:Step (One (q+1)) c5 w5 c5 (w5.setCells cb 1 (bC y)):=Step.setCells (K:=One (q+1)) (.inr xr5.col) _ _ _ Step.refl;have o6:=Ok.setCells (b:=cb) (bC y) 1 _ o5;have i6:=i5.keep s6 (show ¬q=q+1 by omega) (show ¬0=q+1 by omega);have xf6:=(xf.keep s5 (show ¬q+2=q by omega)).keep s6 (show ¬q+2=q+1 by omega);have xs6:=(xs.trans (s5.mono fun j (e:j=q)=>by omega)).trans (s6.mono fun j (e:j=q+1)=>by omega);obtain ⟨Y,hY⟩:=jE (bC y);obtain ⟨W6,hW6⟩:=jE (w5.setCells cb 1 (bC y));rw [hW6] at aw s6 o6 i6 xf6 xs6;rw [hY] at hW6 tw ⊢;have hYl:Y.length=32:=by rw [←hY,zaf,hy]
 have T6:=jh4 (show w5.there cb 1 Y.toArray.size by simpa using tw) (show (prog.info? 51).map (·.size)=some Y.toArray.size by rw [zai];simp [hYl]) (show Y.toArray.all (·.oneCell')=true by rw [←hY];exact all_oneCell_toArray (zaD y)) hW6;have RS:=rest_ok i6 rfl;have X6:=jh8 aw xf6 xs6 xe xl i6 o6 hY;clear RH X4 i5 s5 o5 xr xf xs xe xl xr5 aw tw s6 o6 i6 xf6 xs6 hYl hW6 hY hbs hqc hy hwd hhn hh hZ zC hbl y0 yf hW4;go_wp2_with (refine wpList_store_mid rfl 51 _ _ rfl cb 1 Y.toArray rfl rfl T6.out.1 T6.out.2.1 T6.out.2.2.1 ?_;rw [T6.out.2.2.2]);refine RS.mono ?_;rintro e w7 ⟨rfl,n7,rfl⟩;obtain ⟨xr,xf,xs,xe,xl,xi,xo,hY⟩:=X6.out;have sd:Step No c5 W6 c5 (W6.drewN n7):=Step.rf.drewN n7;have od:Ok c5 (W6.drewN n7):=xo.drewN n7;have N2:=Num_any od (xi.kn sd) hq0 1 (by omega) xe;have d1:(zay 1).length=2:=by decide
 rw [d1] at N2;have e8:bs.drop (A1+32+2)=zay 0++wd:=by rw [←List.drop_drop,xe];exact List.drop_left' d1
 have X7:=jh6 (xr.kn sd) (xf.kn sd) (xs.trans sd.ofNo) e8 xl hY;clear RS X6 T6 xr xf xs xe xl xi xo hY sd od e8 d1;go_wp2_with fail;refine N2.mono ?_;rintro e w8 ⟨rfl,c8,i8,s8,o8⟩;obtain ⟨xr,xf,xs,xe,xl,hY⟩:=X7.out;have N3:=Num_any o8 i8 hq0 0 (by omega) xe;have d0:(zay 0).length=1:=by decide
 rw [d0] at N3;have X8:=jh5 (xr.keep s8 (show ¬q+1=q by omega)) (xf.keep s8 (show ¬q+2=q by omega)) (xs.trans (s8.mono fun j (e:j=q)=>by omega)) xl hY;clear N2 X7 i8 s8 o8 xr xf xs xe xl hY d0;go_wp2_with fail;refine wp_loop_rounds 2 ?_;rw [rounds_succ];go_wp2_with fail;refine N3.mono ?_;rintro e w9 ⟨rfl,c9,i9,s9,o9⟩;obtain ⟨xr,xf,xs,xl,hY⟩:=X8.out;obtain ⟨av,ov,sv⟩:=zan o9 [.int .i64 0,.int .u64 0] 106 (q+3);obtain ⟨vb,hvb⟩:=jE w9.heap.size;rw [hvb] at av ov sv;have WD:=Word_any ov (i9.kn sv) hq0 (by omega)
 have hsig:bigN ((bs.drop (A1+32+2+1)).take 8)<18446744073709551616:=by
  have h1:=bigN_lt ((bs.drop (A1+32+2+1)).take 8);have h2:((bs.drop (A1+32+2+1)).take 8).length≤8:=by rw [List.length_take];omega
  exact Nat.lt_of_lt_of_le h1 (Nat.pow_le_pow_right (by omega) h2)
 obtain ⟨sg,hsg⟩:=jE (bigN ((bs.drop (A1+32+2+1)).take 8));rw [hsg] at WD hsig;have X9:=jh6 ((xr.keep s9 (show ¬q+1=q by omega)).kn sv) ((xf.keep s9 (show ¬q+2=q by omega)).kn sv) ((xs.trans (s9.mono fun j (e:j=q)=>by omega)).trans sv.ofNo) av xl hY;obtain ⟨W9,hW9⟩:=jE (w9.alloc (.cells #[.int .i64 0,.int .u64 0] 106));have hW9':w9.alloc (.cells ([Value.int .i64 0,.int .u64 0]:List Value).toArray 106)=W9:=hW9;rw [hW9'] at WD X9;have HW9:=jh1 hW9;clear N3 X8 i9 s9 o9 xr xf xs xl hY av ov sv hW9 hW9' hsg;go_wp2_with fail
 (try rw [hvb])
 (try rw [HW9.out])
 refine WD.mono ?_;rintro e wA ⟨rfl,cA,iA,sA,oA⟩;obtain ⟨hbs,hqc,hy,hwd,hhn,hh,hZ,zC,hbl⟩:=HB.out;obtain ⟨xr,xf,xs,xv,xl,hY⟩:=X9.out;have xvA:=xv.keep sA (show ¬q+3=q by omega);have y1:=xvA.get (i:=1) rfl;have yf1:=xvA.fz oA (jz _) 1;have xvB:At cA (wA.setCell ⟨vb,1,none⟩ (.int .u64 sg)) vb (q+3) [.int .i64 0,.int .u64 sg]:=xvA.setN (i:=1) (by simp) (.int .u64 sg);have sB:Step (One (q+3)) cA wA cA (wA.setCell ⟨vb,1,none⟩ (.int .u64 sg)):=(Step.refl (K:=One (q+3))).setCell (a:=⟨vb,1,none⟩) (.inr xvA.col) _;have oB:=oA.setCell ⟨vb,1,none⟩ (.int .u64 sg);have iB:=iA.keep sB (show ¬q=q+3 by omega) (show ¬0=q+3 by omega);have xrB:=(xr.keep sA (show ¬q+1=q by omega)).keep sB (show ¬q+1=q+3 by omega);have xfB:=(xf.keep sA (show ¬q+2=q by omega)).keep sB (show ¬q+2=q+3 by omega);have xsB:=(xs.trans (sA.mono fun j (e:j=q)=>by omega)).trans (sB.mono fun j (e:j=q+3)=>by omega);obtain ⟨WB,hWB⟩:=jE (wA.setCell ⟨vb,1,none⟩ (.int .u64 sg));rw [hWB] at xvB sB oB iB xrB xfB xsB;have z0:=xvB.get (i:=0) rfl;have z1:=xvB.get (i:=1) rfl;have ys:=cm_slot hy xrB;have h0has:IntKind.i64.has 0:=⟨by decide,by decide⟩;obtain ⟨x1,x2,x3⟩:=zbE (T:=TVot) (x:=⟨0,sg⟩) (vs:=[.int .i64 0,.int .u64 sg]) (k2:=0) oB ⟨rfl,h0has,hsig⟩ 106;have on:=Own.nil TVot 106 cA (q+4) 0 (WB.alloc (.cells [Value.int .i64 0,.int .u64 sg].toArray 106));have hq4:0≠q+4:=by omega
 have hm1:([]:List Vot).length + [(⟨0,sg⟩:Vot)].length≤maxLen:=by simp [maxLen]
 have hm2:(([]:List Vot).length + [(⟨0,sg⟩:Vot)].length)*16≤140737488355328:=by simp
 have XB:=jh7 xrB xfB xsB iB x3 xl hY;clear WD X9 iA sA oA xr xf xs xv xl hY xvA xvB sB oB iB xrB xfB xsB x3 hsig h0has hbs hqc hwd hhn hh hZ zC hbl;have HY:=jh1 hy;clear hy;go_wp2_with (at_builtin;refine zaq TVot x1 rfl _ _ 54 rfl 106 underlying54 infoVot3 rfl (by decide) rfl rfl on x2 hq4 hm1 hm2 ?_;rintro vC wC cC b1 b2 b3 -;obtain ⟨vaC,vcC,rfl,_⟩:=b1.sl.form;have xrC:=(XB.out.1.kn XB.out.2.2.2.2.1).keep b2 (show ¬q+1=q+4 by omega);have ysC:=cm_slot HY.out xrC;have yfC:=xrC.fz b3 (jz q) 33;have XC:=jh4 b1 b2 b3 xrC;clear b1 b2 b3 xrC x1 x2 on ys);rw [rounds_succ];obtain ⟨hbs,hqc,hy,hwd,hhn,hh,hZ,zC,hbl⟩:=HB.out;obtain ⟨b1,b2,b3,xrC⟩:=XC.out;obtain ⟨_,xf,xs,xi,x3,xl,hY⟩:=XB.out
 have xrD:At cC (wC.setCell ⟨cb,33,none⟩ (.slice vaC 1 vcC)) cb (q+1) (zaC ht y (.slice vaC 1 vcC)):=by
  have:=xrC.setN (i:=33) (by rw [zaH _ hy];omega) (.slice vaC 1 vcC)
  rwa [cm_set hy] at this
 have sD:Step (One (q+1)) cC wC cC (wC.setCell ⟨cb,33,none⟩ (.slice vaC 1 vcC)):=(Step.refl (K:=One (q+1))).setCell (a:=⟨cb,33,none⟩) (.inr xrC.col) _;have oD:=b3.setCell ⟨cb,33,none⟩ (.slice vaC 1 vcC);have iD:=((xi.kn x3).keep b2 (show ¬q=q+4 by omega) (show ¬0=q+4 by omega)).keep sD (show ¬q=q+1 by omega) (show ¬0=q+1 by omega);have xfD:=((xf.kn x3).keep b2 (show ¬q+2=q+4 by omega)).keep sD (show ¬q+2=q+1 by omega);have bD:=b1.keep sD (show ¬q+4=q+1 by omega) (show ¬0=q+1 by omega);have xsD:=((xs.trans x3.ofNo).trans (b2.mono fun j (e:j=q+4)=>by omega)).trans (sD.mono fun j (e:j=q+1)=>by omega);obtain ⟨WD,hWD⟩:=jE (wC.setCell ⟨cb,33,none⟩ (.slice vaC 1 vcC));rw [hWD] at xrD sD oD iD xfD bD xsD;have EN:=zaY oD iD;rw [endF_all (by rw [xl];omega)] at EN;have XD:=jh4 xrD xfD xsD bD;clear XC XB b1 b2 b3 xrC xf xs xi x3 xl hY xrD sD oD iD xfD bD xsD hbs hqc hy hwd hhn hh hZ zC hbl;go_wp2_with fail
 (try rw [hWD])
 refine EN.mono ?_;rintro e wE ⟨rfl,cE,sE,oE⟩;obtain ⟨hbs,hqc,hy,hwd,hhn,hh,hZ,zC,hbl⟩:=HB.out;obtain ⟨xr,xf,xs,xo⟩:=XD.out;obtain ⟨f1,f2,f3,f4,f5,f6,f7⟩:=(xf.kn sE).fault oE (jz _);have xrF:=(xr.kn sE).keep f3 (show ¬q+1=q+2 by omega);have xoF:=(xo.kn sE).keep f3 (show ¬q+4=q+2 by omega) (show ¬0=q+2 by omega);have xsF:=(xs.trans sE.ofNo).trans (f3.mono fun j (e:j=q+2)=>by omega);obtain ⟨WF,hWF⟩:=jE ((wE.setCell ⟨cb+1,0,none⟩ (.int .i64 0)).setCell ⟨cb+1,1,none⟩ (.int .i64 0));rw [hWF] at f1 f2 f3 xrF xoF xsF;have g0:=f1.get (i:=0) rfl;have g1:=f1.get (i:=1) rfl;have CK:=ccheck_any f2 ⟨ht,y,[⟨0,sg⟩]⟩ hy (show Sl TVot cE (q+4) 0 WF (.slice vaC 1 vcC) [⟨0,sg⟩] from xoF.sl) (by simp)
 have hck:zaI ⟨ht,y,[⟨0,sg⟩]⟩=0:=by
  simp only [zav,Bool.and_eq_true,decide_eq_true_eq] at hh;unfold zaI;rw [if_neg (by show ¬(ht<1∨1073741824<ht);omega),if_neg (by show ¬64<1;omega)]
  rfl
 rw [hck,show cmC ⟨ht,y,[⟨0,sg⟩]⟩ (.slice vaC 1 vcC)=zaC ht y (.slice vaC 1 vcC) from rfl] at CK;have hMl:=zaH ht hy (.slice vaC 1 vcC);have hM1:∀u∈zaC ht y (.slice vaC 1 vcC),u.oneCell'=true:=zbx (x:=⟨ht,y,[]⟩) rfl;obtain ⟨M,hM⟩:=jE (zaC ht y (.slice vaC 1 vcC));rw [hM] at CK hMl hM1 xrF;have hil:(prog.info? 56).map (·.size)=some M.length:=by rw [zaw,hMl]
 have XF:=jh7 xrF f1 xsF xoF hM hMl hM1;have LD:=jh2 xrF.cells hil;clear EN XD sE oE xr xf xs xo f1 f2 f3 xrF xoF xsF hck hMl hM1 hM hil hbs hqc hy hwd hhn hh hZ zC hbl;go_wp2_with (refine wpList_load_mid rfl 56 _ rfl cb 0 rfl M _ LD.out.1 underlying56 rfl LD.out.2 ?_)
 (try rw [hWF])
 refine CK.mono ?_;rintro e wG ⟨rfl,cG,sG,oG⟩;obtain ⟨xr,xf,xs,xo,hM,hMl,hM1⟩:=XF.out;have xfG:=xf.kn sG;have h0:=xfG.get (i:=0) rfl;have hf0:=xfG.fz oG (jz _) 0;have xfH:At cG (wG.setCell ⟨cb+1,0,none⟩ (.int .i64 0)) (cb+1) (q+2) [.int .i64 0,.int .i64 0]:=xfG.setN (i:=0) (by simp) (.int .i64 0);have sH:Step (One (q+2)) cG wG cG (wG.setCell ⟨cb+1,0,none⟩ (.int .i64 0)):=(Step.refl (K:=One (q+2))).setCell (a:=⟨cb+1,0,none⟩) (.inr xfG.col) _;have oH:=oG.setCell ⟨cb+1,0,none⟩ (.int .i64 0);have xrH:=(xr.kn sG).keep sH (show ¬q+1=q+2 by omega);have xoH:=(xo.kn sG).keep sH (show ¬q+4=q+2 by omega) (show ¬0=q+2 by omega);have xsH:=(xs.trans sG.ofNo).trans (sH.mono fun j (e:j=q+2)=>by omega);obtain ⟨WH,hWH⟩:=jE (wG.setCell ⟨cb+1,0,none⟩ (.int .i64 0));rw [hWH] at xfH sH oH xrH xoH xsH;have m0:=xfH.get (i:=0) rfl;have m1:=xfH.get (i:=1) rfl;have sd:Step No cG WH cG WH.drew:=Step.rf.drewN 1;have od:Ok cG WH.drew:=oH.drewN 1;have xrI:=xrH.kn sd;have xfI:=xfH.kn sd;have hil:=LD.out.2;have ht0:=xrI.there (o:=0) (n:=M.toArray.size) od (jz q) (by simp);obtain ⟨_,aR⟩:=xrI.st od (jz q) (ty:=56) (us:=M) rfl hil hM1;have sR:Step (One (q+1)) cG WH.drew cG (WH.drew.setCells cb 0 M):=Step.setCells (K:=One (q+1)) (.inr xrI.col) _ _ _ Step.refl;have oR:=Ok.setCells (b:=cb) M 0 _ od;have xfR:=xfI.keep sR (show ¬q+2=q+1 by omega);obtain ⟨f1,f2,f3,f4,f5,f6,f7⟩:=xfR.fault oR (jz _);have KK:(fun W:World=>(Instr.loadAt 56 (.pointer (some ⟨cb,0,none⟩))).run prog W=.ok (.agg M.toArray) W∧W.cell? ⟨cb+1,0,none⟩=some (.int .i64 0)∧W.cell? ⟨cb+1,1,none⟩=some (.int .i64 0)) WH.drew:=⟨xrI.ld (ty:=56) underlying56 rfl hil,xfI.get (i:=0) rfl,xfI.get (i:=1) rfl⟩;have KR:(fun W:World=>(Instr.loadAt 56 (.pointer (some ⟨cb,0,none⟩))).run prog W=.ok (.agg M.toArray) W∧W.cell? ⟨cb+1,0,none⟩=some (.int .i64 0)∧W.cell? ⟨cb+1,1,none⟩=some (.int .i64 0)) (WH.drew.setCells cb 0 M):=⟨aR.ld (ty:=56) underlying56 rfl hil,f4,f5⟩;have aRF:=aR.keep f3 (show ¬q+1=q+2 by omega);have xoC:=((xoH.kn sd).keep sR (show ¬q+4=q+1 by omega) (show ¬0=q+1 by omega)).keep f3 (show ¬q+4=q+2 by omega) (show ¬0=q+2 by omega);have slC:=(xoC.turn (k:=0) (show 0≠q+4 by omega)).sl;have sAll:Step No c w (cG.turn (q+4) 0) (((WH.drew.setCells cb 0 M).setCell ⟨cb+1,0,none⟩ (.int .i64 0)).setCell ⟨cb+1,1,none⟩ (.int .i64 0)):=((((xsH.trans sd.ofNo).trans (sR.mono fun j (e:j=q+1)=>by omega)).trans (f3.mono fun j (e:j=q+2)=>by omega)).turn (show q≤q+4 by omega)).drop fun b _ e=>by have:=HB.out.2.1 b;omega
 have FL:=jh10 ht0 (show (prog.info? 56).map (·.size)=some M.toArray.size by rw [zaw];simp [hMl]) (all_oneCell_toArray hM1) aRF.cells f1.cells slC sAll (f2.turn (q:=q+4) (k:=0) (by omega)) hil hM;clear CK XF sG oG xr xf xs xo hM hMl hM1 xfG xfH sH oH xrH xoH xsH sd od xrI xfI hil ht0 aR sR oR xfR f1 f2 f3 aRF xoC slC sAll;go_wp2_with fail
 (try rw [hWH])
 refine zac (fun W=>(Instr.loadAt 56 (.pointer (some ⟨cb,0,none⟩))).run prog W=.ok (.agg M.toArray) W∧W.cell? ⟨cb+1,0,none⟩=some (.int .i64 0)∧W.cell? ⟨cb+1,1,none⟩=some (.int .i64 0)) (fun i=>!([3]:List Nat).contains i) (by kernel_rfl) ?_;refine tk 0 _ 57 rfl rfl (Or.inl ⟨by rfl,fun W hW=>by obtain ⟨q0,q1,q2⟩:=hW;exact zaT 56 q0 (.tmp 2) rfl rfl⟩) KK ?_;refine tk3 1 _ 58 rfl rfl KK ?_;refine zab.one (i:=2) (by kernel_rfl) rfl (fun KQ hK=>?_);refine zar rfl 56 _ _ rfl cb 0 M.toArray rfl rfl FL.out.1 FL.out.2.1 FL.out.2.2.1 ?_;simp only [List.toList_toArray];refine hK.out _ _ (fun _=>KR) ?_;clear hK KQ
 (try simp only [jS])
 refine zab.one (i:=3) (by kernel_rfl) rfl (fun KQ hK=>?_);go_simp;refine hK.out _ _ (fun h=>absurd h (by decide)) ?_;clear hK KQ
 (try simp only [jS])
 refine zab.done (by kernel_rfl) ?_ _;go_wp2_with fail;obtain ⟨_,_,_,f4,f5,f6,f7,f8,f9,f10⟩:=FL.out;refine bodyPost_ret (zak rfl _ _ cb (cb+1) M _ _ _ rfl rfl f4 underlying56 rfl f9 f5 underlying74 rfl zao) rfl ⟨sg,_,by rw [←f10];rfl,cG.turn (q+4) 0,f6,f7,f8⟩
end
