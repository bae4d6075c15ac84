/- ServerReplies, part 24: lemmas, each with its own conditions. -/
import Derived.Test.YtgcobbapaaihiaaGreatSz23
import Derived.DeepKeys5
import Derived.Carry
import Derived.RangeFuncRecord
set_option linter.all false
set_option maxHeartbeats 12800000
set_option maxRecDepth 100000
open Go.Proofs.Tryz
namespace Go.Proofs.YtgcobbapaaihiaaGreat
open Go.RowKit
def DecOut (P:Value→Col→World→Prop) (c:Col) (w:World) (r:Ending) (w':World):Prop:=
 ∃(v:Value) (e0 e1:Int),r=.returned (.tuple #[v,.agg #[.int .i64 e0,.int .i64 e1]])∧∃c',P v c' w'∧Step No c w c' w'∧Ok c' w'
theorem has_nat {n:Nat}(h:n≤9223372036854775807):IntKind.i64.has (n:Int):=⟨show (-9223372036854775808:Int)≤(n:Int) by omega,show (n:Int)≤9223372036854775807 by omega⟩
theorem hdr_wj {c:Col}{w:World}{b k:Nat}{h:Hdr}(hw:h.Wf) (ho:Ok c w) (hk:k≠0) (ha:At c w b k (zaz h)) {x:List UInt8}(hx:x.length=32) (j:Nat) (hj:j<4) :
  w.there b (3+32*j) (bC x).length∧∃h':Hdr,h'.Wf∧At c (w.setCells b (3+32*j) (bC x)) b k (zaz h'):=by
 have:j=0∨j=1∨j=2∨j=3:=by omega
 rcases this with rfl | rfl | rfl | rfl
 ·obtain ⟨a,t⟩:=hdr_w1 hw ho hk ha hx
  exact ⟨t,{ h with prev:=x },⟨hw.name,hw.height,hw.time,hx,hw.vals,hw.next,hw.app⟩,a⟩
 ·obtain ⟨a,t⟩:=hdr_w2 hw ho hk ha hx
  exact ⟨t,{ h with vals:=x },⟨hw.name,hw.height,hw.time,hw.prev,hx,hw.next,hw.app⟩,a⟩
 ·obtain ⟨a,t⟩:=hdr_w3 hw ho hk ha hx
  exact ⟨t,{ h with next:=x },⟨hw.name,hw.height,hw.time,hw.prev,hw.vals,hx,hw.app⟩,a⟩
 ·obtain ⟨a,t⟩:=hdr_w4 hw ho hk ha hx
  exact ⟨t,{ h with app:=x },⟨hw.name,hw.height,hw.time,hw.prev,hw.vals,hw.next,hx⟩,a⟩
theorem header_zero:prog.built 53 []=some (zaz ⟨[],0,0,zap,zap,zap,zap⟩).toArray:=by kernel_rfl
theorem eqF (g0 g1:Int) (W:World):(binOp .eql 74 (.agg #[.int .i64 g0,.int .i64 g1]) (.agg #[.int .i64 0,.int .i64 0])).run prog W=.ok (.bool (g0==0&&g1==0)) W:=by
 rcases Decidable.em (g0=0) with h0 | h0 <;> rcases Decidable.em (g1=0) with h1 | h1 <;> simp [go_sem,h0,h1]
theorem neF (g0 g1:Int) (W:World):(binOp .neq 74 (.agg #[.int .i64 g0,.int .i64 g1]) (.agg #[.int .i64 0,.int .i64 0])).run prog W=.ok (.bool (!(g0==0&&g1==0))) W:=by
 rcases Decidable.em (g0=0) with h0 | h0 <;> rcases Decidable.em (g1=0) with h1 | h1 <;> simp [go_sem,h0,h1]
def IsHdr (v:Value) (_:Col) (_:World):Prop:=∃h:Hdr,h.Wf∧v=.agg (zaz h).toArray
section
variable {c:Col}{w:World}
theorem headerX_any (hok:Ok c w) {bs:List UInt8}(hbl:bs.length≤1000000) {kx:Nat}{v:Value}(hv:Sl zag c kx 0 w v bs) :
  Calls prog 104 #[v] w (DecOut IsHdr c w):=by
 obtain ⟨q,hq,hqc⟩:=hok.top kx;have hq0:q≠0:=by omega
 obtain ⟨Z,hZ,zH⟩:=zero_header;obtain ⟨ar,or_,sr⟩:=zan hok Z 53 (q+1);obtain ⟨af,of_,sf⟩:=zan or_ [.int .i64 0,.int .i64 0] 74 (q+2);rw [World.size_alloc] at af of_ sf;obtain ⟨rb,hrb⟩:=jE w.heap.size;rw [hrb] at ar or_ sr af of_ sf;obtain ⟨W1,hW1⟩:=jE ((w.alloc (.cells Z.toArray 53)).alloc (.cells #[.int .i64 0,.int .i64 0] 74));have ar1:=ar.kn sf;have s1:=sr.trans sf;have hv1:=hv.kn s1;obtain ⟨c1,hc1⟩:=jE (((c.put rb (q+1)).put (rb+1) (q+2)));have hW1':(w.alloc (.cells Z.toArray 53)).alloc (.cells ([Value.int .i64 0,.int .i64 0]:List Value).toArray 74)=W1:=hW1;rw [hc1,hW1'] at ar1 s1 hv1 af of_;have NR:=zaM of_ hv1 (by omega) q;obtain ⟨va,vd,rfl,_⟩:=hv.form;have X:=jh3 ar1 af s1;have HZ:=jh3 zH hZ hqc;clear ar or_ sr af of_ sf ar1 s1 hv1 hv hok hqc zH hZ hc1;go_enter func104,ntmps104;go_wp2_with (refine zaa rfl (some 2) rfl 53 rfl HZ.out.1 ?_)
 (try simp only [World.size_alloc])
 (try rw [hrb])
 (try rw [hW1])
 refine NR.mono ?_;rintro e w2 ⟨p,rfl,c2,i2,s2,o2,_⟩;have TX:=TextX_any o2 i2 hq0 32;have X2:=jh3 (X.out.1.kn s2) (X.out.2.1.kn s2) (X.out.2.2.trans s2);clear NR X i2 s2 o2;go_wp2_with fail;refine TX.mono ?_;rintro e w3 ⟨_,rfl,c3,a3,⟨f30,f31⟩,i3,s3,o3,nm,hnm,rfl⟩;have N1:=NumX_any o3 i3 hq0;have X3:=jh3 (X2.out.1.keep s3 (show ¬q+1=q by omega)) (X2.out.2.1.keep s3 (show ¬q+2=q by omega)) (X2.out.2.2.ofNo.trans s3);clear TX X2 i3 s3 o3;go_wp2_with fail;refine N1.mono ?_;rintro e w4 ⟨n1,rfl,hn1,c4,a4,⟨f40,f41⟩,i4,s4,o4,-⟩;have N2:=NumX_any o4 i4 hq0;have X4:=jh3 (X3.out.1.keep s4 (show ¬q+1=q by omega)) (X3.out.2.1.keep s4 (show ¬q+2=q by omega)) (X3.out.2.2.trans s4);clear N1 X3 i4 s4 o4;go_wp2_with fail;refine N2.mono ?_;rintro e w5 ⟨n2,rfl,hn2,c5,a5,⟨f50,f51⟩,i5,s5,o5,-⟩;have hw0:(⟨nm,n1,n2,zap,zap,zap,zap⟩:Hdr).Wf:=⟨by show nm.length≤_;omega,has_nat hn1,has_nat hn2,rfl,rfl,rfl,rfl⟩;obtain ⟨W6,c6,hW6,a6,o6,s6,t1,t2,t3,t4⟩:=stnew o5 HZ.out.2.1 (zaj hw0) (zaR _) zat (q:=q+3) (jz _);obtain ⟨xb,hxb⟩:=jE w5.heap.size;rw [hxb] at hW6 a6 t1;have hbu:=header_built3 nm n1 n2;have HS:=hashes_any o6 xb;have i6:=i5.kn s6;have X5:=jh7 ((X4.out.1.keep s5 (show ¬q+1=q by omega)).kn s6) ((X4.out.2.1.keep s5 (show ¬q+2=q by omega)).kn s6) ((((X4.out.2.2.trans s5).trans s6.ofNo)).mono (K':=fun j=>q≤j) fun j (e:j=q)=>by omega) a6 i6 o6 hw0;obtain ⟨H0,hH0⟩:=jE (zaz ⟨nm,n1,n2,zap,zap,zap,zap⟩);rw [hH0] at hW6 t1 t2 t3 t4 hbu;have T5:=jh4 t1 t2 t3 hW6;clear N2 X4 i5 s5 o5 hw0 a6 o6 s6 i6 t1 t2 t3 t4 hW6 hH0;go_wp2_with (first | (refine zaa rfl (some 5) rfl 53 rfl HZ.out.1 ?_;rw [hxb]) | (refine zaA rfl (some 17) rfl 53 #[(0,.tmp 12),(1,.tmp 14),(2,.tmp 16)] rfl H0 (ps:=[(0,.string ⟨nm.toArray⟩),(1,.int .i64 n1),(2,.int .i64 n2)]) (by first | rfl | (simp [Act.eval];done)) hbu ?_) | (refine wpList_store_mid rfl 53 _ _ rfl xb 0 H0.toArray rfl rfl T5.out.1 T5.out.2.1 T5.out.2.2.1 ?_;rw [T5.out.2.2.2]));refine HS.mono ?_;rintro e w7 ⟨rfl,c7,s7,o7⟩
 have hix:∀(j:Nat),j<4→∀W,(Instr.index 213 (.agg #[.pointer (some ⟨xb,3,none⟩),.pointer (some ⟨xb,35,none⟩),.pointer (some ⟨xb,67,none⟩),.pointer (some ⟨xb,99,none⟩)]) (.int .i64 (j:Int))).run prog W=.ok (.pointer (some ⟨xb,3+32*j,none⟩)) W:=by
  intro j hj W;have hh:=index4 ⟨xb,3,none⟩ ⟨xb,35,none⟩ ⟨xb,67,none⟩ ⟨xb,99,none⟩ W;have:j=0∨j=1∨j=2∨j=3:=by omega
  rcases this with rfl | rfl | rfl | rfl
  ·exact hh.1
  ·exact hh.2.1
  ·exact hh.2.2.1
  ·exact hh.2.2.2
 have hq3:q+3≠0:=jz _;have HIX:=jh1 hix;have X7:=jh7 (X5.out.1.kn s7) (X5.out.2.1.kn s7) (X5.out.2.2.1.trans s7.ofNo) (X5.out.2.2.2.1.kn s7) (X5.out.2.2.2.2.1.kn s7) o7 X5.out.2.2.2.2.2.2;clear HS X5 s7 o7 hix T5;go_wp2;go_loopw [19] (fun i wr=>∃(j:Nat) (cr:Col) (h:Hdr) (a:Nat) (f:Int×Int),j≤4∧i=.int .i64 j∧h.Wf∧At cr wr xb (q+3) (zaz h)∧At cr wr rb (q+1) Z∧At cr wr (rb+1) (q+2) [.int .i64 0,.int .i64 0]∧IsRd cr q wr p bs a f∧Step (fun j=>q≤j) c w cr wr∧Ok cr wr) (fun i _=>4-(intOf i).toNat)
 case atStart=>
  obtain ⟨x1,x2,x3,x4,x5,x6,x7⟩:=X7.out;exact ⟨0,c7,_,_,_,Nat.zero_le _,rfl,x7,x4,x1,x2,x5,x3,x6⟩
 case round=>
  obtain ⟨j,cr,h,a,⟨f0,f1⟩,hj,rfl,hw,ax,ar,af,ir,sr,okr⟩:=hrel;by_cases hj4:j<4
  ·have RH:=HashX_any okr ir hq0
   have hj4i:(j:Int)<4:=by omega
   have hi:=HIX.out j hj4;have Y:=jh5 hw ax ar af sr;clear hw ax ar af ir sr okr;go_wp2_with fail;refine RH.mono ?_;rintro e wN ⟨_,rfl,cN,aN,fN,iN,sN,oN,x,hx,rfl⟩;obtain ⟨hw,ax,ar,af,sr⟩:=Y.out;obtain ⟨tw,h',hw',aw⟩:=hdr_wj hw oN hq3 (ax.keep sN (show ¬q+3=q by omega)) hx j hj4;have sw:Step (One (q+3)) cN wN cN (wN.setCells xb (3+32*j) (bC x)):=Step.setCells (K:=One (q+3)) (.inr aw.col) _ _ _ Step.refl;have ow:=Ok.setCells (b:=xb) (bC x) (3+32*j) _ oN;have T7:=jh3 (show wN.there xb (3+32*j) (bC x).toArray.size by simpa using tw) (show (prog.info? 51).map (·.size)=some (bC x).toArray.size by rw [zai];simp [zaf,hx]) (all_oneCell_toArray (zaD x));have R7:=jh7 hw' aw ((ar.keep sN (show ¬q+1=q by omega)).keep sw (show ¬q+1=q+3 by omega)) ((af.keep sN (show ¬q+2=q by omega)).keep sw (show ¬q+2=q+3 by omega)) (iN.keep sw (show ¬q=q+3 by omega) (show ¬0=q+3 by omega)) ((sr.trans (sN.mono fun j (e:j=q)=>by omega)).trans (sw.mono fun j (e:j=q+3)=>by omega)) ow;obtain ⟨Y2,hY⟩:=jE (bC x);rw [hY] at T7 R7 ⊢;have hwj:IntKind.i64.wrap ((j:Int)+1)=((j+1:Nat):Int):=by rw [IntWalk.i64_in _ (by omega)];rfl
   clear RH iN sN oN hw ax ar af sr aw tw sw ow hw' hY hx Y;go_wp2_with (refine wpList_store_mid rfl 51 _ _ rfl xb (3+32*j) Y2.toArray rfl rfl T7.out.1 T7.out.2.1 T7.out.2.2 ?_);go_roundw
   case rel=>
    obtain ⟨x1,x2,x3,x4,x5,x6,x7⟩:=R7.out;exact ⟨j+1,cN,h',_,_,by omega,by first | rfl | go_num,x1,x2,x3,x4,x5,x6,x7⟩
   case measure=>simp [intOf];omega
  ·have hj4i:¬(j:Int)<4:=by omega
   have EN:=zaY okr ir;have Y:=jh5 hw ax ar af sr;clear hw ax ar af ir sr okr X7 HIX;go_wp2_with fail;refine EN.mono ?_;rintro e wE ⟨rfl,cE,sE,oE⟩;obtain ⟨g0,hg0⟩:=jE ((endF bs a (f0,f1)).1);obtain ⟨g1,hg1⟩:=jE ((endF bs a (f0,f1)).2);rw [hg0,hg1];obtain ⟨ag,og,sg⟩:=zan oE [.int .i64 g0,.int .i64 g1] 74 (q+4);obtain ⟨fb,hfb⟩:=jE wE.heap.size;rw [hfb] at ag og sg;obtain ⟨W8,hW8⟩:=jE (wE.alloc (.cells #[.int .i64 g0,.int .i64 g1] 74));have hW8':wE.alloc (.cells ([Value.int .i64 g0,.int .i64 g1]:List Value).toArray 74)=W8:=hW8;obtain ⟨c8,hc8⟩:=jE (cE.put fb (q+4));rw [hW8',hc8] at ag og sg;have sEg:=sE.trans sg;obtain ⟨hw,ax,ar,af,sr⟩:=Y.out;have yg0:=ag.get (i:=0) rfl;have yg1:=ag.get (i:=1) rfl;have X8:=jh7 hw (ax.kn sEg) (ar.kn sEg) (af.kn sEg) (sr.trans sEg.ofNo) ag og;have HW8:=jh1 hW8;clear EN Y sE oE ag og sg sEg hw ax ar af sr hW8' hc8 hg0 hg1 yg0 yg1 hW8;obtain ⟨gz,hgz⟩:=jE ((g0==0&&g1==0));have hE:=fun W=>eqF g0 g1 W;rw [hgz] at hE;go_upto_if 31 with (fail);rw [HW8.out];clear hE;go_cut [] from 29 to 34 (fun wr=>∃cr g0 g1,At cr wr fb (q+4) [.int .i64 g0,.int .i64 g1]∧Step (One (q+4)) c8 W8 cr wr∧Ok cr wr)
   case first=>
    rcases gz with _ | _
    ·go_wp2
     go_meet
     case rel=>exact ⟨c8,g0,g1,X8.out.2.2.2.2.2.1,Step.refl,X8.out.2.2.2.2.2.2⟩
    ·have CK:=check_any X8.out.2.2.2.2.2.2 h X8.out.1
     have LD:=jh2 X8.out.2.1.cells (show (prog.info? 53).map (·.size)=some (zaz h).length by rw [zat,zaj X8.out.1]);obtain ⟨H,hH⟩:=jE (zaz h);rw [hH] at LD CK;obtain ⟨ck,hck⟩:=jE (zaL h);rw [hck] at CK;clear hgz;go_wp2_with (refine wpList_load_mid rfl 53 _ rfl xb 0 rfl H _ LD.out.1 underlying53 rfl LD.out.2 ?_);refine CK.mono ?_;rintro e w9 ⟨rfl,c9,s9,o9⟩;have ag9:=X8.out.2.2.2.2.2.1.kn s9;have yg:=ag9.get (i:=0) rfl;have yf:=ag9.fz o9 (jz _) 0;have sA:Step (One (q+4)) c9 w9 c9 (w9.setCell ⟨fb,0,none⟩ (.int .i64 ck)):=(Step.refl (K:=One (q+4))).setCell (a:=⟨fb,0,none⟩) (.inr ag9.col) _;have R9:=jh3 (ag9.setN (i:=0) (by simp) (.int .i64 ck)) (s9.ofNo.trans sA) (o9.setCell ⟨fb,0,none⟩ (.int .i64 ck));clear CK s9 o9 ag9 sA;go_wp2;go_meet
     case rel=>exact ⟨c9,ck,g1,R9.out⟩
   case rest=>
    clear hgz HW8;obtain ⟨c9,g0,g1,ag9,s9,o9⟩:=hcut;obtain ⟨gz,hgz⟩:=jE ((g0==0&&g1==0));have hE:=fun W=>neF g0 g1 W;rw [hgz] at hE;have yg0:=ag9.get (i:=0) rfl;have yg1:=ag9.get (i:=1) rfl;obtain ⟨hw,ax,ar,af,sr,_,_⟩:=X8.out;have ax9:=ax.keep s9 (show ¬q+3=q+4 by omega);have ar9:=ar.keep s9 (show ¬q+1=q+4 by omega);have af9:=af.keep s9 (show ¬q+2=q+4 by omega);have sr9:=sr.trans (s9.mono fun j (e:j=q+4)=>by omega);clear X8 ax ar af sr s9
    rcases gz with _ | _
    ·clear hgz
     have hH0:(⟨[],0,0,zap,zap,zap,zap⟩:Hdr).Wf:=⟨by simp,⟨by decide,by decide⟩,⟨by decide,by decide⟩,rfl,rfl,rfl,rfl⟩;have hbz:=header_zero;obtain ⟨H,hH⟩:=jE (zaz ⟨[],0,0,zap,zap,zap,zap⟩);rw [hH] at hbz;have sd:Step No c9 wc c9 wc.drew:=Step.rf.drewN 1;have od:Ok c9 wc.drew:=o9.drewN 1;have hHlen:H.length=131:=by rw [←hH,zaj hH0]
     have hH1:∀u∈H,u.oneCell'=true:=by rw [←hH];exact zaR _
     have hHi:(prog.info? 53).map (·.size)=some H.length:=by rw [zat,hHlen]
     have KN:∀{K:Nat→Prop} {c2:Col} {w2:World},¬K (q+3)→¬K (q+4)→Step K c9 wc c2 w2→(fun W:World=>W.cell? ⟨fb,0,none⟩=some (.int .i64 g0)∧W.cell? ⟨fb,1,none⟩=some (.int .i64 g1)) w2:=
      fun _ n4 h2=>⟨(ag9.keep h2 n4).get (i:=0) rfl,(ag9.keep h2 n4).get (i:=1) rfl⟩
     have KK:=KN jI jI sd;have arD:=ar9.kn sd;have ht0:=arD.there (o:=0) (n:=H.toArray.size) od (jz q) (by simp [hHlen,HZ.out.2.1]);obtain ⟨_,aR⟩:=arD.st od (jz q) (ty:=53) (us:=H) (by rw [hHlen,HZ.out.2.1]) hHi hH1;have sR:Step (One (q+1)) c9 wc.drew c9 (wc.drew.setCells rb 0 H):=Step.setCells (K:=One (q+1)) (.inr arD.col) _ _ _ Step.refl;have oR:=Ok.setCells (b:=rb) H 0 _ od;have KR:=KN (show ¬(One (q+1)) (q+3) from fun (h:q+3=q+1)=>by omega) (show ¬(One (q+1)) (q+4) from fun (h:q+4=q+1)=>by omega) (sd.ofNo.trans sR);have xfR:=(af9.kn sd).keep sR (show ¬q+2=q+1 by omega);have z0:=xfR.get (i:=0) rfl;have z1:=xfR.get (i:=1) rfl;have zf0:=xfR.fz oR (jz _) 0;have zf1:=xfR.fz oR (jz _) 1;have aF:At c9 (((wc.drew.setCells rb 0 H).setCell ⟨rb+1,0,none⟩ (.int .i64 g0)).setCell ⟨rb+1,1,none⟩ (.int .i64 g1)) (rb+1) (q+2) [.int .i64 g0,.int .i64 g1]:=(xfR.setN (i:=0) (by simp) (.int .i64 g0)).setN (i:=1) (by simp) (.int .i64 g1);have sF:Step (One (q+2)) c9 (wc.drew.setCells rb 0 H) c9 (((wc.drew.setCells rb 0 H).setCell ⟨rb+1,0,none⟩ (.int .i64 g0)).setCell ⟨rb+1,1,none⟩ (.int .i64 g1)):=((Step.refl (K:=One (q+2))).setCell (a:=⟨rb+1,0,none⟩) (.inr xfR.col) _).setCell (a:=⟨rb+1,1,none⟩) (.inr xfR.col) _;have oF:=(oR.setCell ⟨rb+1,0,none⟩ (.int .i64 g0)).setCell ⟨rb+1,1,none⟩ (.int .i64 g1);have aRF:=aR.keep sF (show ¬q+1=q+2 by omega);have sAll:Step No c w c9 (((wc.drew.setCells rb 0 H).setCell ⟨rb+1,0,none⟩ (.int .i64 g0)).setCell ⟨rb+1,1,none⟩ (.int .i64 g1)):=(((sr9.trans sd.ofNo).trans (sR.mono fun j (e:j=q+1)=>by omega)).trans (sF.mono fun j (e:j=q+2)=>by omega)).drop fun b _ e=>by have:=HZ.out.2.2 b;omega
     have FL:=jh8 ht0 (show (prog.info? 53).map (·.size)=some H.toArray.size by rw [zat];simp [hHlen]) (all_oneCell_toArray hH1) aRF.cells aF.cells sAll oF hHi;clear o9 sr9 ax9 ar9 af9 ag9 sd od hHlen hH1 hHi KN arD ht0 aR sR oR xfR aF sF oF aRF sAll;go_wp2_with fail;refine zac (fun W=>W.cell? ⟨fb,0,none⟩=some (.int .i64 g0)∧W.cell? ⟨fb,1,none⟩=some (.int .i64 g1)) (fun i=>!([3]:List Nat).contains i) (by kernel_rfl) ?_;refine tk 0 _ 38 rfl rfl (Or.inl ⟨by rfl,fun W hW=>by obtain ⟨q0,q1⟩:=hW;exact zbq 53 hbz #[] rfl rfl⟩) KK ?_;refine tk2 1 _ 39 rfl rfl KK ?_;refine zab.one (i:=2) (by kernel_rfl) rfl (fun KQ hK=>?_);refine zar rfl 53 _ _ rfl rb 0 H.toArray rfl rfl FL.out.1 FL.out.2.1 FL.out.2.2.1 ?_;simp only [List.toList_toArray];refine hK.out _ _ (fun _=>KR) ?_;clear hK KQ
     (try simp only [jS])
     refine zab.one (i:=3) (by kernel_rfl) rfl (fun KQ hK=>?_);go_simp;refine hK.out _ _ (fun h=>absurd h (by decide)) ?_;clear hK KQ
     (try simp only [jS])
     refine zab.done (by kernel_rfl) ?_ _;go_wp2_with fail;obtain ⟨_,_,_,f4,f5,f6,f7,f8⟩:=FL.out;exact bodyPost_ret (zak rfl _ _ rb (rb+1) H _ _ _ rfl rfl f4 underlying53 rfl f8 f5 underlying74 rfl zao) rfl ⟨_,g0,g1,rfl,c9,⟨_,hH0,by rw [hH]⟩,f6,f7⟩
    ·clear hgz
     obtain ⟨H,hH⟩:=jE (zaz h);rw [hH] at ax9;have sd:Step No c9 wc c9 wc.drew:=Step.rf.drewN 1;have od:Ok c9 wc.drew:=o9.drewN 1;have hHlen:H.length=131:=by rw [←hH,zaj hw]
     have hH1:∀u∈H,u.oneCell'=true:=by rw [←hH];exact zaR _
     have hHi:(prog.info? 53).map (·.size)=some H.length:=by rw [zat,hHlen]
     have KN:∀{K:Nat→Prop} {c2:Col} {w2:World},¬K (q+3)→¬K (q+4)→Step K c9 wc c2 w2→(fun W:World=>(Instr.loadAt 53 (.pointer (some ⟨xb,0,none⟩))).run prog W=.ok (.agg H.toArray) W∧W.cell? ⟨fb,0,none⟩=some (.int .i64 g0)∧W.cell? ⟨fb,1,none⟩=some (.int .i64 g1)) w2:=
      fun n3 n4 h2=>⟨(ax9.keep h2 n3).ld (ty:=53) underlying53 rfl hHi,(ag9.keep h2 n4).get (i:=0) rfl,(ag9.keep h2 n4).get (i:=1) rfl⟩
     have KK:=KN jI jI sd;have arD:=ar9.kn sd;have ht0:=arD.there (o:=0) (n:=H.toArray.size) od (jz q) (by simp [hHlen,HZ.out.2.1]);obtain ⟨_,aR⟩:=arD.st od (jz q) (ty:=53) (us:=H) (by rw [hHlen,HZ.out.2.1]) hHi hH1;have sR:Step (One (q+1)) c9 wc.drew c9 (wc.drew.setCells rb 0 H):=Step.setCells (K:=One (q+1)) (.inr arD.col) _ _ _ Step.refl;have oR:=Ok.setCells (b:=rb) H 0 _ od;have KR:=KN (show ¬(One (q+1)) (q+3) from fun (h:q+3=q+1)=>by omega) (show ¬(One (q+1)) (q+4) from fun (h:q+4=q+1)=>by omega) (sd.ofNo.trans sR);have xfR:=(af9.kn sd).keep sR (show ¬q+2=q+1 by omega);have z0:=xfR.get (i:=0) rfl;have z1:=xfR.get (i:=1) rfl;have zf0:=xfR.fz oR (jz _) 0;have zf1:=xfR.fz oR (jz _) 1;have aF:At c9 (((wc.drew.setCells rb 0 H).setCell ⟨rb+1,0,none⟩ (.int .i64 g0)).setCell ⟨rb+1,1,none⟩ (.int .i64 g1)) (rb+1) (q+2) [.int .i64 g0,.int .i64 g1]:=(xfR.setN (i:=0) (by simp) (.int .i64 g0)).setN (i:=1) (by simp) (.int .i64 g1);have sF:Step (One (q+2)) c9 (wc.drew.setCells rb 0 H) c9 (((wc.drew.setCells rb 0 H).setCell ⟨rb+1,0,none⟩ (.int .i64 g0)).setCell ⟨rb+1,1,none⟩ (.int .i64 g1)):=((Step.refl (K:=One (q+2))).setCell (a:=⟨rb+1,0,none⟩) (.inr xfR.col) _).setCell (a:=⟨rb+1,1,none⟩) (.inr xfR.col) _;have oF:=(oR.setCell ⟨rb+1,0,none⟩ (.int .i64 g0)).setCell ⟨rb+1,1,none⟩ (.int .i64 g1);have aRF:=aR.keep sF (show ¬q+1=q+2 by omega);have sAll:Step No c w c9 (((wc.drew.setCells rb 0 H).setCell ⟨rb+1,0,none⟩ (.int .i64 g0)).setCell ⟨rb+1,1,none⟩ (.int .i64 g1)):=(((sr9.trans sd.ofNo).trans (sR.mono fun j (e:j=q+1)=>by omega)).trans (sF.mono fun j (e:j=q+2)=>by omega)).drop fun b _ e=>by have:=HZ.out.2.2 b;omega
     have FL:=jh8 ht0 (show (prog.info? 53).map (·.size)=some H.toArray.size by rw [zat];simp [hHlen]) (all_oneCell_toArray hH1) aRF.cells aF.cells sAll oF hHi;clear o9 sr9 ax9 ar9 af9 ag9 sd od hHlen hH1 hHi KN arD ht0 aR sR oR xfR aF sF oF aRF sAll;go_wp2_with fail;refine zac (fun W=>(Instr.loadAt 53 (.pointer (some ⟨xb,0,none⟩))).run prog W=.ok (.agg H.toArray) W∧W.cell? ⟨fb,0,none⟩=some (.int .i64 g0)∧W.cell? ⟨fb,1,none⟩=some (.int .i64 g1)) (fun i=>!([3]:List Nat).contains i) (by kernel_rfl) ?_;refine tk 0 _ 40 rfl rfl (Or.inl ⟨by rfl,fun W hW=>by obtain ⟨q0,q1,q2⟩:=hW;exact zaT 53 q0 (.tmp 5) rfl rfl⟩) KK ?_;refine tk3 1 _ 41 rfl rfl KK ?_;refine zab.one (i:=2) (by kernel_rfl) rfl (fun KQ hK=>?_);refine zar rfl 53 _ _ rfl rb 0 H.toArray rfl rfl FL.out.1 FL.out.2.1 FL.out.2.2.1 ?_;simp only [List.toList_toArray];refine hK.out _ _ (fun _=>KR) ?_;clear hK KQ
     (try simp only [jS])
     refine zab.one (i:=3) (by kernel_rfl) rfl (fun KQ hK=>?_);go_simp;refine hK.out _ _ (fun h=>absurd h (by decide)) ?_;clear hK KQ
     (try simp only [jS])
     refine zab.done (by kernel_rfl) ?_ _;go_wp2_with fail;obtain ⟨_,_,_,f4,f5,f6,f7,f8⟩:=FL.out;exact bodyPost_ret (zak rfl _ _ rb (rb+1) H _ _ _ rfl rfl f4 underlying53 rfl f8 f5 underlying74 rfl zao) rfl ⟨_,g0,g1,rfl,c9,⟨_,hw,by rw [hH]⟩,f6,f7⟩
end
structure VOk (l:List Vld):Prop where
 check:zaJ l=0
 odd:(encV l).length % 64≠0
 short:(encV l).length≤900000
 len:l.length≤1000000000
def hdr1 (h:Int) (prev z:List UInt8):Hdr:=⟨[97],h,10+(h-1)*10,prev,zap,z,zap⟩
def hdr2 (h:Int) (prev z x:List UInt8):Hdr:=⟨[97],h,10+(h-1)*10,prev,x,z,zap⟩
def blo2 (h:Int) (prev z x y:List UInt8) (l:List Vld):Blo:=⟨hdr2 h prev z x,⟨h,y,[]⟩,l⟩
theorem zbe {h:Int}(hh:1≤h∧h≤3) {prev z:List UInt8}(hp:prev.length=32) (hz:z.length=32):(hdr1 h prev z).Wf:=by
 obtain ⟨h1,h2⟩:=hh;have g:∀n:Int,0≤n→n≤100→IntKind.i64.has n:=fun n h1 h2=>⟨Int.le_trans (by decide) h1,Int.le_trans h2 (by decide)⟩;exact ⟨by simp [hdr1],g h (by omega) (by omega),g (10+(h-1)*10) (by omega) (by omega),hp,by simp [hdr1,zap],hz,by simp [hdr1,zap]⟩
theorem hdr1_check {h:Int}(hh:1≤h∧h≤3) (prev z:List UInt8):zaL (hdr1 h prev z)=0:=by
 obtain ⟨h1,h2⟩:=hh
 rcases (by omega:h=1∨h=2∨h=3) with rfl | rfl | rfl <;> rfl
theorem hdr2_len {h:Int}(hh:1≤h∧h≤3) {prev z x:List UInt8}(hp:prev.length=32) (hz:z.length=32) (hx:x.length=32):(zbB (hdr2 h prev z x)).length=135:=by
 obtain ⟨h1,h2⟩:=hh;have e1:(zay 1).length=2:=by decide
 have e2:(zay 2).length=2:=by decide
 have e3:(zay 3).length=2:=by decide
 have e10:(zay 10).length=2:=by decide
 have e20:(zay 20).length=2:=by decide
 have e30:(zay 30).length=2:=by decide
 rcases (by omega:h=1∨h=2∨h=3) with rfl | rfl | rfl
 ·simp [zbB,hdr2,hp,hz,hx,zap,e1,e10]
 ·simp [zbB,hdr2,hp,hz,hx,zap,e1,e2,e20]
 ·simp [zbB,hdr2,hp,hz,hx,zap,e1,e3,e30]
section
variable {c:Col}{w:World}
theorem of_built (hok:Ok c w) {bb kb:Nat}(hkb:kb≠0) {vv mp sv:Value}{B:List Value}(hB:B.length=166) {h:Int}(hh:1≤h∧h≤3) {prev:List UInt8}(hp:prev.length=32) (hd:At c w bb kb (bdC vv mp (zaz (hdr0 h prev)) B sv))
  {l:List Vld} (hl:VOk l) {vs vn:Value} (h1:Sl TVal c 0 0 w vs l) (h2:Sl TVal c 0 0 w vn l) :
  Calls prog 88 #[.pointer (some ⟨bb,0,none⟩),vs,vn] w fun r w'=>r=.returned (.pointer (some ⟨bb,0,none⟩)) ∧
   ∃(z x y:List UInt8) (bv:Value) (c':Col),z.length=32∧x.length=32∧y.length=32∧At c' w' bb kb (bdC vv mp (zaz (hdr1 h prev z)) (zau (blo2 h prev z x y l) (.slice none 0 0) bv) sv) ∧
    (blo2 h prev z x y l).At c' 0 w' (.slice none 0 0) bv∧Step (One kb) c w c' w'∧Ok c' w':=by
 have HV:=hashV_ok hok h2 hl.check hl.odd hl.short;obtain ⟨na,nn,rfl,_⟩:=h2.form;obtain ⟨sa,sn,rfl,_⟩:=h1.form;have X:=jh4 hok hd hl h1;obtain ⟨n,hn⟩:=jE l.length;rw [hn] at HV X ⊢;have Y:=jh4 hn hh hp hB;clear hok hd hl h1 h2 hn hh hp hB;go_enter func88,ntmps88;go_wp2_with fail;refine HV.mono ?_;rintro e w1 ⟨z,hz,rfl,c1,s1,o1⟩;have hzl:(bC z).length=32:=by rw [zaf,hz]
 obtain ⟨_,hd,hl,h1⟩:=X.out;obtain ⟨hn,hh,hp,hB⟩:=Y.out;have d1:=hd.kn s1;have e0:bdC vv mp (zaz (hdr0 h prev)) B sv=(recC vv++(mp::.string ⟨#[97]⟩::.int .i64 h::.int .i64 (10+(h-1)*10)::(bC prev++bC zap)))++(bC zap++(bC zap++(B++[sv]))):=by simp [bdC,zaz,hdr0]
 have e1:(recC vv++(mp::.string ⟨#[97]⟩::.int .i64 h::.int .i64 (10+(h-1)*10)::(bC prev++bC zap))).length=77:=by simp [recC,zaf,hp,zap]
 rw [e0] at d1;obtain ⟨d2,t0⟩:=d1.seg o1 hkb (us:=bC z) (by rw [hzl,zaf];rfl);rw [e1] at d2 t0;have e2:(recC vv++(mp::.string ⟨#[97]⟩::.int .i64 h::.int .i64 (10+(h-1)*10)::(bC prev++bC zap)))++(bC z++(bC zap++(B++[sv])))=bdC vv mp (zaz (hdr1 h prev z)) B sv:=by simp [bdC,zaz,hdr1]
 rw [e2] at d2;have s2:Step (One kb) c1 w1 c1 (w1.setCells bb 77 (bC z)):=Step.setCells (K:=One kb) (.inr d1.col) _ _ _ Step.refl;have o2:=Ok.setCells (b:=bb) (bC z) 77 _ o1;have h12:=(h1.kn s1).keep s2 (show ¬0=kb by omega) (show ¬0=kb by omega);have hwf:=zbe hh hp hz;rw [←hn] at h12
 have MK:=make_any o2 (hdr1 h prev z) hwf (hdr1_check hh prev z) h12 hl.check hl.odd hl.short hl.len (fun x hx=>by
  have:=hdr2_len hh hp hz hx;have e:({ hdr1 h prev z with vals:=x }:Hdr)=hdr2 h prev z x:=rfl
  rw [e,this];exact ⟨by decide,by decide⟩)
 have hHl:=zaj hwf;rw [hn] at MK;obtain ⟨Z,hZ⟩:=jE (bC z);obtain ⟨W2,hW2⟩:=jE (w1.setCells bb 77 (bC z));rw [hW2] at d2 s2 o2 MK;have e3:bdC vv mp (zaz (hdr1 h prev z)) B sv=(recC vv++[mp])++(zaz (hdr1 h prev z)++(B++[sv])):=by simp [bdC]
 have hr:zas W2 bb 10 (zaz (hdr1 h prev z)):=by
  have:=d2.cells;rw [e3] at this;have h2:=(zam this).2;rw [Nat.zero_add] at h2;exact (zam h2).1
 obtain ⟨H1,hH1⟩:=jE (zaz (hdr1 h prev z));rw [hH1] at d2 MK hr hHl;rw [hZ] at hW2 t0 hzl ⊢;have hz1:Z.toArray.all (·.oneCell')=true:=by rw [←hZ];exact all_oneCell_toArray (zaD z)
 have T:=jh6 (show w1.there bb 77 Z.toArray.size by simpa using t0) (show (prog.info? 51).map (·.size)=some Z.toArray.size by rw [zai];simp [hzl]) hz1 hW2 hr (show (prog.info? 53).map (·.size)=some H1.length by rw [zat,hHl]);have X2:=jh6 d2 ((s1.ofNo (K:=One kb)).trans s2) o2 hz hH1 hHl;clear HV X s1 o1 d1 d2 t0 e0 e1 e2 e3 s2 o2 h12 hwf hHl hr hzl hz1 hW2 hH1 hZ hl h1 hd hn hh hp hB hz;go_wp2_with (first | (refine wpList_store_mid rfl 51 _ _ rfl bb 77 Z.toArray rfl rfl T.out.1 T.out.2.1 T.out.2.2.1 ?_;rw [T.out.2.2.2.1]) | (refine wpList_load_mid rfl 53 _ rfl bb 10 rfl H1 _ T.out.2.2.2.2.1 underlying53 rfl T.out.2.2.2.2.2 ?_));refine MK.mono ?_;rintro e w3 ⟨x,y,bv,hx,hy,rfl,c3,b3,s3,o3⟩;obtain ⟨d2,s2,o2,hz,hH1,hHl⟩:=X2.out;obtain ⟨hn,hh,hp,hB⟩:=Y.out;have b3':(blo2 h prev z x y l).At c3 0 w3 (.slice none 0 0) bv:=b3;have hbl:=zal b3'.h b3'.hash (.slice none 0 0) bv;have hb1:=zaF b3';have d3:=d2.kn s3;have e0:bdC vv mp H1 B sv=(recC vv++(mp::H1))++(B++[sv]):=by simp [bdC]
 have e1:(recC vv++(mp::H1)).length=141:=by simp [recC,hHl]
 rw [e0] at d3;obtain ⟨U,hU⟩:=jE (zau (blo2 h prev z x y l) (.slice none 0 0) bv);rw [show zau ⟨{ hdr1 h prev z with vals:=x },⟨(hdr1 h prev z).height,y,[]⟩,l⟩ (.slice none 0 0) bv=U from hU];rw [hU] at hbl hb1;obtain ⟨d4,t4⟩:=d3.seg o3 hkb (us:=U) (by rw [hbl,hB]);rw [e1] at d4 t4;have e2:(recC vv++(mp::H1))++(U++[sv])=bdC vv mp H1 U sv:=by simp [bdC]
 rw [e2] at d4;have s4:Step (One kb) c3 w3 c3 (w3.setCells bb 141 U):=Step.setCells (K:=One kb) (.inr d3.col) _ _ _ Step.refl;have o4:=Ok.setCells (b:=bb) U 141 _ o3;have b4:=b3'.keep s4 (show ¬0=kb by omega);have F:=jh9 d4 b4 ((s2.trans s3.ofNo).trans s4) o4 hz hx hy hH1 hU;have T4:=jh3 (show w3.there bb 141 U.toArray.size by simpa using t4) (show (prog.info? 59).map (·.size)=some U.toArray.size by rw [zah];simp [hbl]) (all_oneCell_toArray hb1);clear MK X2 b3 b3' hbl hb1 d3 d4 t4 e0 e1 e2 s3 o3 s4 o4 b4 d2 s2 o2 hz hx hy hH1 hHl hn hh hp hB hU;go_wp2_with (refine wpList_store_mid rfl 59 _ _ rfl bb 141 U.toArray rfl rfl T4.out.1 T4.out.2.1 T4.out.2.2 ?_);go_ret;obtain ⟨f1,f2,f3,f4,f5,f6,f7,f8,f9⟩:=F.out;refine ⟨rfl,z,x,y,bv,c3,f5,f6,f7,?_,f2,f3,f4⟩;rw [f8,f9];exact f1
end
end Go.Proofs.YtgcobbapaaihiaaGreat
namespace Go.Proofs.YtgcobbapaaihiaaGreat
open Go.RowKit Go.WideMaps
structure IsMap {κ ν:Type} (P:Program) (kt:TypeId) (kv:κ→Value) (vv:ν→Value) (c:Col) (k:Nat) (w:World) (b:Nat) (m:κ→Option ν) (n:Nat):Prop where
 col:c b=k
 obj:∃es clock,w.heap[b]? = some (.map es clock)∧es.size≤n∧(es.toList.map (·.key)).Nodup∧(∀x∈es.toList,∃l,keyOf P kt x.key=some l) ∧
  (∀x∈es.toList,∃y z,x.key=kv y∧x.val=vv z∧m y=some z)∧(∀y z,m y=some z→∃x∈es.toList,x.key=kv y∧x.val=vv z)
def getV {ν:Type}(vv:ν→Value) (zv:Value):Option ν→Value
 | some z=>vv z
 | none=>zv
section
variable {κ ν:Type}{P:Program}{t kt e:TypeId}{kv:κ→Value}{vv:ν→Value}{c:Col}{k:Nat}{w:World}{b n:Nat}{m:κ→Option ν}
theorem IsMap.keep {K:Nat→Prop}{c':Col}{w':World}(h:IsMap P kt kv vv c k w b m n) (hs:Step K c w c' w') (hk:¬K k):IsMap P kt kv vv c' k w' b m n:=by
 obtain ⟨es,clock,h1,h2⟩:=h.obj;have hb:b<w.heap.size:=(Array.getElem?_eq_some_iff.1 h1).1;have hkb:¬K (c b):=by rw [h.col];exact hk
 exact ⟨(hs.col b hb hkb).trans h.col,es,clock,(hs.block b hb hkb).trans h1,h2⟩
theorem IsMap.kn {c':Col}{w':World}(h:IsMap P kt kv vv c k w b m n) (hs:Step No c w c' w'):IsMap P kt kv vv c' k w' b m n:=h.keep hs jI
theorem IsMap.lookup (h:IsMap P kt kv vv c k w b m n) (L:KeyLaw P kt) (inj:∀y y',kv y=kv y'→y=y') (ht:P.underlying t=some (.map kt e)) {zv:Value}(hz:(zeroValue e).run P w=.ok zv w) (y:κ) (hy:∃l,keyOf P kt (kv y)=some l) :
  (Instr.lookup t (.map (some b)) (kv y) true).run P w=.ok (.tuple #[getV vv zv (m y),.bool (m y).isSome]) w:=by
 obtain ⟨es,clock,h1,h2,hd,h3,h4,h5⟩:=h.obj;obtain ⟨l,hl⟩:=hy
 rcases L.find w hl es.toList h3 with ⟨f1,f2⟩ | ⟨j,x,f1,f2,f3⟩
 ·have hm:m y=none:=by
   cases hm:m y with
   | none=>rfl
   | some z=>obtain ⟨x,hx,hk,_⟩:=h5 y z hm;exact absurd hk (f2 x hx)
  simp [Instr.lookup,run_underlying ht,MapKept.run_getObj_map h1,L.check w _ hl,f1,hz,Result.andThen,hm,getV]
 ·obtain ⟨y',z,g1,g2,g3⟩:=h4 x (List.mem_of_getElem? f2)
  have hyy:y'=y:=inj _ _ (g1.symm.trans f3);subst hyy;simp [Instr.lookup,run_underlying ht,MapKept.run_getObj_map h1,L.check w _ hl,f1,Result.andThen,g3,g2,getV]
theorem IsMap.new (hok:Ok c w) (k:Nat):IsMap P kt kv vv (c.put w.heap.size k) k (w.alloc (.map #[] 0)) w.heap.size (fun _=>none) 0∧Ok (c.put w.heap.size k) (w.alloc (.map #[] 0))∧Step No c w (c.put w.heap.size k) (w.alloc (.map #[] 0)):=by
 have hnew:(w.alloc (.map #[] 0)).heap[w.heap.size]? = some (.map #[] 0):=World.alloc_heap_new w _;exact ⟨⟨by simp,#[],0,hnew,Nat.le_refl _,by simp,by simp,by simp,by simp⟩,(hok.alloc _).put (by simp) (fun o=>by unfold World.frozen?;rw [hnew]),(Step.refl.alloc _).put (.inl (Nat.le_refl _))⟩
end
def seatV (p:Int×Int):Value:=.agg #[.int .i64 p.1,.int .i64 p.2]
def nixV (_:Unit):Value:=.agg #[]
theorem seatV_inj:∀p q:Int×Int,seatV p=seatV q→p=q:=by
 rintro ⟨a,b⟩ ⟨c,d⟩ h;simp [seatV] at h;exact Prod.ext h.1 h.2
theorem seatLaw:KeyLaw prog 148:=deep_law_gate (by kernel_rfl) (of_decide_eq_true (by kernel_rfl)) (of_decide_eq_true (by kernel_rfl)) (by kernel_rfl) (by kernel_rfl)
theorem seat_key {p:Int×Int}(h1:IntKind.i64.has p.1) (h2:IntKind.i64.has p.2):∃l,keyOf prog 148 (seatV p)=some l:=by
 have w1:(Lit.int .i64 p.1).wf=true:=by simpa [Lit.wf,IntKind.has] using h1
 have w2:(Lit.int .i64 p.2).wf=true:=by simpa [Lit.wf,IntKind.has] using h2
 have c1:prog.cellsOf 3=1:=by kernel_rfl
 have c2:prog.cellsOf 148=2:=by kernel_rfl
 obtain ⟨m,hm⟩:∃m,prog.types.size=m+1:=⟨prog.types.size-1,by have:1≤prog.types.size:=of_decide_eq_true (by kernel_rfl);omega⟩;unfold keyOf;rw [underlying148]
 have f1:(prog.keyType 148&&(seatV p).formed prog 148)=true:=by
  rw [Bool.and_eq_true];exact ⟨by kernel_rfl,by simp [Value.formed,seatV,underlying148,c2]⟩
 simp only [f1,if_true,hm];refine ⟨.string (keyBytes [.int .i64 p.1,.int .i64 p.2]),?_⟩
 have e:prog.keyLits (m+1+1) 148 (seatV p).cells.toList=some [.int .i64 p.1,.int .i64 p.2]:=by
  simp [Program.keyLits,underlying148,underlying3,seatV,Value.cells,c1,c2,List.range_succ,w1,w2]
 rw [e];rfl
abbrev Away (c:Col) (k:Nat) (w:World) (b:Nat):Prop:=IsMap prog 148 seatV nixV c k w b (fun _=>none) 0
theorem Away.look {c:Col}{k:Nat}{w:World}{b:Nat}(h:Away c k w b) {x y:Int}(hx:IntKind.i64.has x) (hy:IntKind.i64.has y) :
  (Instr.lookup 144 (.map (some b)) (.agg #[.int .i64 x,.int .i64 y]) true).run prog w=.ok (.tuple #[.agg #[],.bool false]) w:=by
 have hz:(zeroValue 150).run prog w=.ok (.agg #[]) w:=by simp [go_sem]
 exact IsMap.lookup h (t:=144) seatLaw seatV_inj underlying144 hz (x,y) (seat_key hx hy)
theorem Away.new {c:Col}{w:World}(hok:Ok c w):Away c 0 (w.alloc (.map #[] 0)) w.heap.size:=
 ⟨hok.fresh _ (Nat.le_refl _),#[],0,heap_alloc_new w _,by simp,by simp,by simp,by simp,by simp⟩
def TSig:Ty (List Value) where
 n:=37
 rd:=fun _ _ _ vs x=>vs=x∧x.length=37∧∀u∈x,u.oneCell'=true
 len:=by rintro _ _ _ _ _ ⟨rfl,h,_⟩;exact h
 one:=by rintro _ _ _ _ _ ⟨rfl,_,h⟩ u hu;exact h u hu
 keep:=by rintro _ _ _ _ _ _ _ _ _ _ h;exact h
 turn:=by rintro _ _ _ _ _ _ h;exact h
