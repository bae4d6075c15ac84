/- ServerReplies, part 19: lemmas, each with its own conditions. -/
import Derived.Test.YtgcobbapaaihiaaGreatSz18
set_option linter.all false
set_option maxHeartbeats 12800000
set_option maxRecDepth 100000
open Go.Proofs.Tryz
namespace Go.Proofs.YtgcobbapaaihiaaGreat
open Go.RowKit
def idM (m id:Int):Int:=if m=9 then id+1 else id
def blkS (s:Srv) (m h:Int):Blo:=
 if m=8∧(zbG s.other h).isSome=true then zba s.other h else if m=5 then (if (zbG s.chain (h+1)).isSome=true then zba s.chain (h+1) else zba s.chain (h-1))
 else if m=6 then (zbf 0 (zba s.chain h)).2 else if m=7 then (gPoor 0 (zba s.chain h)).2 else zba s.chain h
def isS (s:Srv) (m h:Int):Bool:=
 if m=8∧(zbG s.other h).isSome=true then true else if m=5 then (if (zbG s.chain (h+1)).isSome=true then true else (zbG s.chain (h-1)).isSome) else (zbG s.chain h).isSome
def cutM (m:Int) (l:List UInt8):List UInt8:=if m=4 then l.take (l.length-1) else l
theorem encN_two (id:Int) (b:Blo):2≤(encN id b).length:=by
 have h2:(zay 2).length=2:=by decide
 simp [encN,h2]
theorem cutM_ne {m id:Int}{b:Blo}:cutM m (encN id b)≠[]:=by
 have:=encN_two id b;unfold cutM
 split
 ·intro e
  have:=congrArg List.length e;simp at this;omega
 ·intro e
  rw [e] at this;simp at this
theorem outS_eq {s:Srv}{m h id:Int}(h0:0<m) (h9:m<10) (h2:m≠2) :
  outS m s h id=if isS s m h=true∧ansE (idM m id) (blkS s m h)=0 then cutM m (encN (idM m id) (blkS s m h)) else []:=by
 have P:∀(t:Bool) (i:Int) (b:Blo),ansT t (i,b)=if t=true∧ansE i b=0 then encN i b else []:=by
  intro t i b
  cases t <;> simp [ansT,ansB]
 rcases mood_cases h0 h9 with rfl | rfl | rfl | rfl | rfl | rfl | rfl | rfl | rfl
 ·simp [outS,isS,blkS,idM,cutM,wayT,gStay,P]
 ·exact absurd rfl h2
 ·simp [outS,isS,blkS,idM,cutM,wayT,gStay,P]
 ·simp only [outS,isS,blkS,idM,cutM,wayT,gStay,P]
  simp only [show ¬(4:Int)=1 by decide,show ¬(4:Int)=3 by decide,show ¬(4:Int)=8 by decide,show ¬(4:Int)=5 by decide,show ¬(4:Int)=6 by decide,show ¬(4:Int)=7 by decide,show ¬(4:Int)=9 by decide,if_false,if_true,false_and]
  split <;> simp
 ·simp only [outS,isS,blkS,idM,cutM,offT,ansB]
  simp only [show ¬(5:Int)=1 by decide,show ¬(5:Int)=3 by decide,show ¬(5:Int)=8 by decide,show ¬(5:Int)=4 by decide,show ¬(5:Int)=9 by decide,if_false,if_true,false_and];by_cases h1:(zbG s.chain (h+1)).isSome=true
  ·simp only [h1,if_true,true_and]
  ·simp only [h1,if_false,Bool.false_eq_true]
   by_cases h2:(zbG s.chain (h-1)).isSome=true
   ·simp only [h2,if_true,true_and]
   ·simp only [h2,if_false,Bool.false_eq_true,false_and]
 ·simp [outS,isS,blkS,idM,cutM,wayT,zbf,P]
 ·simp [outS,isS,blkS,idM,cutM,wayT,gPoor,P]
 ·simp only [outS,isS,blkS,idM,cutM,otherT,wayT,gStay,ansB,P]
  simp only [show ¬(8:Int)=1 by decide,show ¬(8:Int)=3 by decide,show ¬(8:Int)=5 by decide,show ¬(8:Int)=4 by decide,show ¬(8:Int)=6 by decide,show ¬(8:Int)=7 by decide,show ¬(8:Int)=9 by decide,if_false,if_true,true_and];by_cases h1:(zbG s.other h).isSome=true
  ·simp only [h1,if_true,true_and]
  ·simp only [h1,if_false,Bool.false_eq_true]
 ·simp [outS,isS,blkS,idM,cutM,wayT,gOdd,P]
theorem bloC_poor {b:Blo}{c:Col}{k:Nat}{w:World}{vc vv:Value}(hb:b.At c k w vc vv):(zau b vc vv).set 164 (.slice none 0 0)=zau (gPoor 0 b).2 (.slice none 0 0) vv:=by
 have e1:(zaz b.h).length=131:=zaj hb.h;have e3:(cmC b.cm vc).length=34:=zaS hb.hash vc;unfold zau;rw [List.set_append_right _ _ (by omega),e1,List.set_append_left _ _ (by omega),show (164-131:Nat)=33 from rfl,cmC_votes hb.hash]
 rfl
theorem bloC_broken {b:Blo}{c:Col}{k:Nat}{w:World}{vc vv:Value}(hb:b.At c k w vc vv) {a:UInt8}{r:List UInt8}(ha:b.h.app=a::r):(zau b vc vv).set 99 (.int .u8 (a ^^^ 255).toNat)=zau (zbf 0 b).2 vc vv:=by
 have e1:(zaz b.h).length=131:=zaj hb.h;unfold zau;rw [List.set_append_left _ _ (by omega),hdrC_app hb.h ha];simp only [zbf,ha,xorA]
theorem bloC_app {b:Blo}{c:Col}{k:Nat}{w:World}{vc vv:Value}(hb:b.At c k w vc vv) {a:UInt8}{r:List UInt8}(har:b.h.app=a::r):(zau b vc vv)[99]? = some (.int .u8 a.toNat):=by
 have e1:(zaz b.h).length=131:=zaj hb.h;have e11:(bC b.h.prev).length=32:=by rw [zaf,hb.h.prev]
 have e12:(bC b.h.vals).length=32:=by rw [zaf,hb.h.vals]
 have e13:(bC b.h.next).length=32:=by rw [zaf,hb.h.next]
 unfold zau;rw [List.getElem?_append_left (by omega)];unfold zaz;rw [show (99:Nat)=96+1+1+1 from rfl,List.getElem?_cons_succ,List.getElem?_cons_succ,List.getElem?_cons_succ,List.getElem?_append_right (by omega),e11,List.getElem?_append_right (by omega),e12,List.getElem?_append_right (by omega),e13,har]
 rfl
theorem poor_at {b:Blo}{c:Col}{k:Nat}{w:World}{vc vv:Value}(hb:b.At c k w vc vv):(gPoor 0 b).2.At c k w (.slice none 0 0) vv:=⟨hb.h,hb.hash,hb.height,Sl.nil _ _ _ _ _,hb.vals,by simp [gPoor],hb.nvals⟩
theorem broken_at {b:Blo}{c:Col}{k:Nat}{w:World}{vc vv:Value}(hb:b.At c k w vc vv):(zbf 0 b).2.At c k w vc vv:=by
 obtain ⟨a,r,har⟩:∃a r,b.h.app=a::r:=by
  cases h:b.h.app with
  | nil=>have:=hb.h.app;rw [h] at this;cases this
  | cons a r=>exact ⟨a,r,rfl⟩
 exact ⟨⟨hb.h.name,hb.h.height,hb.h.time,hb.h.prev,hb.h.vals,hb.h.next,by have:=hb.h.app;rw [har] at this;simp only [zbf,har,xorA];simpa using this⟩,hb.hash,hb.height,hb.votes,hb.vals,hb.nvotes,hb.nvals⟩
section
variable {c:Col}{w:World}
theorem block29_any (hok:Ok c w) {s:Srv}{k:Nat}{vc vo vm:Value}(hs:s.At c k w vc vo vm) (m:Int) {h:Int}(hh:0≤h∧h≤4611686018427387904) :
  Calls prog 36 #[.agg #[vc,vo,vm,.int .i64 s.delay,.int .i64 s.slow],.int .i64 m,.int .i64 h] w fun r w'=>∃bc bv,r=.returned (.tuple #[.agg (zau (blkS s m h) bc bv).toArray,.bool (isS s m h)])∧∃c',(blkS s m h).At c' 0 w' bc bv∧Step No c w c' w'∧Ok c' w':=by
 obtain ⟨q,hq,hqc⟩:=hok.top k;have hq0:q≠0:=by omega
 obtain ⟨vca,vcc,rfl,_⟩:=hs.chain.form;obtain ⟨voa,voc,rfl,_⟩:=hs.other.form;obtain ⟨vma,vmc,rfl,_⟩:=hs.moods.form;have a0:=At.new0 hok [.slice vca s.chain.length vcc,.slice voa s.other.length voc,.slice vma s.moods.length vmc,.int .i64 s.delay,.int .i64 s.slow] 25;have s0:Step No c w c (w.alloc (.cells #[.slice vca s.chain.length vcc,.slice voa s.other.length voc,.slice vma s.moods.length vmc,.int .i64 s.delay,.int .i64 s.slow] 25)):=Step.refl.alloc _;have o0:=hok.alloc (.cells #[.slice vca s.chain.length vcc,.slice voa s.other.length voc,.slice vma s.moods.length vmc,.int .i64 s.delay,.int .i64 s.slow] 25);obtain ⟨ar,or_,sr⟩:=zan o0 zby 59 q;rw [World.size_alloc] at ar or_ sr;have a1:=a0.keep sr jI;have s1:=s0.trans sr;have hs1:=(hs.kn s0).kn sr;obtain ⟨bx,hbx⟩:=jE w.heap.size;rw [hbx] at a1 ar or_ s1 hs1;obtain ⟨c1,hc1⟩:=jE (c.put (bx+1) q);rw [hc1] at a1 ar or_ s1 hs1;have hqc1:∀b,c b<q:=fun b=>hqc b;have HQ:=jh1 hqc1;obtain ⟨cl,hcl⟩:=jE s.chain.length;obtain ⟨ol,hol⟩:=jE s.other.length;obtain ⟨ml,hml⟩:=jE s.moods.length;obtain ⟨DE,hDE⟩:=jE s.delay;obtain ⟨SL,hSL⟩:=jE s.slow;have HN:=jh2 hcl hol;have hzl:zby.length=166:=by decide
 have HZ:=jh2 zeroB_zero hzl;obtain ⟨ZB,hZB⟩:=jE zby;have hzc:=zeroB_cells;rw [hZB] at hzc HZ ar or_ s1 hs1 a1;rw [hcl,hol,hml,hDE,hSL] at a1 ar or_ s1 hs1 ⊢;obtain ⟨W1,hW1⟩:=jE ((w.alloc (.cells #[.slice vca cl vcc,.slice voa ol voc,.slice vma ml vmc,.int .i64 DE,.int .i64 SL] 25)).alloc (.cells ZB.toArray 59));rw [hW1] at a1 ar or_ s1 hs1;have X1:=jh5 a1 ar hs1 s1 or_;have hwa:IntKind.i64.wrap (h+1)=h+1:=IntWalk.i64_in _ (by omega);have hws:IntKind.i64.wrap (h-1)=h-1:=IntWalk.i64_in _ (by omega);obtain ⟨R,hR⟩:=jE (blkS s m h);obtain ⟨I,hI⟩:=jE (isS s m h);have HRI:=jh2 hR hI;rw [hR,hI];clear a0 s0 o0 ar or_ sr a1 s1 hs1 hs hok hqc hqc1 hc1 hcl hol hml hDE hSL hzl hZB hR hI;go_enter func36,ntmps36;go_upto_if 15 with (refine zaa rfl (some 6) rfl 59 rfl HZ.out.1 ?_)
 (try simp only [World.size_alloc])
 (try rw [hbx])
 (try rw [hW1])
 clear hW1 hbx;go_cut [] from 14 to 24 (fun wr=>∃cr,(m=8→(zbG s.other h).isSome=false)∧At cr wr bx 0 [.slice vca cl vcc,.slice voa ol voc,.slice vma ml vmc,.int .i64 DE,.int .i64 SL]∧At cr wr (bx+1) q ZB∧s.At cr k wr (.slice vca cl vcc) (.slice voa ol voc) (.slice vma ml vmc)∧Step No c w cr wr∧Ok cr wr)
 case first=>
  by_cases h8:m=8
  ·subst h8
   have y1:=X1.out.1.get (i:=1) rfl;have GT:=get28_any X1.out.2.2.2.2 X1.out.2.2.1.other X1.out.2.2.1.nother h;obtain ⟨io,hio⟩:=jE ((zbG s.other h).isSome);rw [hio] at GT;have HIO:=jh1 hio;clear hio;go_wp2_with fail;refine GT.mono ?_;rintro e w2 ⟨bc,bv,rfl,c2,b2,s2,o2⟩;obtain ⟨W3,c3,hW3,a3,o3,s3,t1,t2,t3,t4⟩:=stnew o2 (ty:=59) HZ.out.2 (zal b2.h b2.hash bc bv) (zaF b2) zah (q:=q+1) (jz q);have b3:=b2.kn s3;obtain ⟨tb,htb⟩:=jE w2.heap.size;rw [htb] at hW3 a3 t1;obtain ⟨RB,hRB⟩:=jE (zba s.other h);rw [hRB] at b2 hW3 a3 t1 t2 t3 t4 b3 ⊢;have X3:=jh8 (X1.out.1.kn (s2.trans s3)) (X1.out.2.1.keep (s2.trans s3) jI) (X1.out.2.2.1.kn (s2.trans s3)) (X1.out.2.2.2.1.trans (s2.trans s3)) o3 a3 b3 hRB;obtain ⟨B,hB⟩:=jE (zau RB bc bv);have HB:=jh1 hB;rw [hB] at hW3 t1 t2 t3 t4 ⊢;have TT:=jh5 t1 t2 t3 hW3 t4;clear GT b2 s2 o2 hW3 a3 o3 s3 t1 t2 t3 t4 b3 hRB hB
   cases io with
   | true=>
    have SB:=stB X3.out.2.1 HZ.out.2 X3.out.2.2.2.2.1 hq0 X3.out.2.2.2.2.2.2.1 (show ¬0=q by omega);have st:Step No c w c3 _:=((X3.out.2.2.2.1.ofNo (K:=One q)).trans SB.2.2.2.2.2.1).drop fun b _ (e:c b=q)=>by have:=HQ.out b;omega
    have a3:=X3.out.2.2.2.2.2.1.cells;rw [HB.out] at SB st a3;have FL:=jh3 SB st a3;have HE:RowKit.Hid (R=RB∧I=true):=jh1 ⟨by rw [←HRI.out.1,←X3.out.2.2.2.2.2.2.2];unfold blkS;rw [if_pos ⟨rfl,HIO.out⟩],by rw [←HRI.out.2];unfold isS;rw [if_pos ⟨rfl,HIO.out⟩]⟩;clear SB st a3;go_wp2_with (first | (refine zaa rfl (some 8) rfl 59 rfl HZ.out.1 ?_;rw [htb]) | (refine wpList_store_mid rfl 59 _ _ rfl tb 0 B.toArray rfl rfl TT.out.1 TT.out.2.1 TT.out.2.2.1 ?_;rw [TT.out.2.2.2.1]) | (refine wpList_load_mid rfl 59 _ rfl tb 0 rfl B _ FL.out.2.2 underlying59 rfl TT.out.2.2.2.2 ?_) | (refine wpList_store_mid rfl 59 _ _ rfl (bx+1) 0 B.toArray rfl rfl FL.out.1.1 FL.out.1.2.1 FL.out.1.2.2.1 ?_));obtain ⟨⟨_,_,_,f4,f5,f6,f7,f8⟩,f9,_⟩:=FL.out;rw [HE.out.1,HE.out.2];refine bodyPost_ret (zax rfl _ _ (bx+1) 0 B _ rfl f4.cells underlying59 rfl f8) rfl ⟨_,_,by rw [HB.out];rfl,c3,f5,f9,f7⟩
   | false=>
    go_wp2_with (first | (refine zaa rfl (some 8) rfl 59 rfl HZ.out.1 ?_;rw [htb]) | (refine wpList_store_mid rfl 59 _ _ rfl tb 0 B.toArray rfl rfl TT.out.1 TT.out.2.1 TT.out.2.2.1 ?_;rw [TT.out.2.2.2.1]));go_meet
    case rel=>exact ⟨c3,fun _=>HIO.out,X3.out.1,X3.out.2.1,X3.out.2.2.1,X3.out.2.2.2.1,X3.out.2.2.2.2.1⟩
  ·have h8b:(m==8)=false:=by simpa using h8
   have HM:=jh1 h8;clear h8;go_wp2;go_meet
   case rel=>exact ⟨c1,fun e=>absurd e HM.out,X1.out⟩
 case rest=>
  obtain ⟨cr,hm8,a1,ar,hs1,s1,o1⟩:=hcut;have HM8:=jh1 hm8;have y0:=a1.get (i:=0) rfl;have hnb:s.chain.length≤1000000000:=hs1.nchain;by_cases h5:m=5
  ·subst h5
   have GT:=get28_any o1 hs1.chain hnb (h+1);have GT2:=fun (c':Col) (w':World) (st:Step No cr wc c' w') (o':Ok c' w')=>get28_any o' (hs1.kn st).chain hnb (h-1);have X2:=jh6 a1 ar hs1 s1 o1 GT2;obtain ⟨io,hio⟩:=jE ((zbG s.chain (h+1)).isSome);rw [hio] at GT;have HIO:=jh1 hio;clear hio hm8 a1 ar hs1 s1 o1 hnb GT2;go_wp2_with fail;refine GT.mono ?_;rintro e w2 ⟨bc,bv,rfl,c2,b2,s2,o2⟩;obtain ⟨W3,c3,hW3,a3,o3,s3,t1,t2,t3,t4⟩:=stnew o2 (ty:=59) HZ.out.2 (zal b2.h b2.hash bc bv) (zaF b2) zah (q:=q+1) (jz q);have b3:=b2.kn s3;obtain ⟨tb,htb⟩:=jE w2.heap.size;rw [htb] at hW3 a3 t1;obtain ⟨RB,hRB⟩:=jE (zba s.chain (h+1));rw [hRB] at b2 hW3 a3 t1 t2 t3 t4 b3 ⊢;have X3:=jh8 (X2.out.1.kn (s2.trans s3)) (X2.out.2.1.keep (s2.trans s3) jI) (X2.out.2.2.1.kn (s2.trans s3)) (X2.out.2.2.2.1.trans (s2.trans s3)) o3 a3 b3 hRB;obtain ⟨B,hB⟩:=jE (zau RB bc bv);have HB:=jh1 hB;rw [hB] at hW3 t1 t2 t3 t4 ⊢;have TT:=jh5 t1 t2 t3 hW3 t4;clear GT b2 s2 o2 hW3 a3 o3 s3 t1 t2 t3 t4 b3 hRB hB
   cases io with
   | true=>
    have SB:=stB X3.out.2.1 HZ.out.2 X3.out.2.2.2.2.1 hq0 X3.out.2.2.2.2.2.2.1 (show ¬0=q by omega);have st:Step No c w c3 _:=((X3.out.2.2.2.1.ofNo (K:=One q)).trans SB.2.2.2.2.2.1).drop fun b _ (e:c b=q)=>by have:=HQ.out b;omega
    have a3:=X3.out.2.2.2.2.2.1.cells;rw [HB.out] at SB st a3;have FL:=jh3 SB st a3
    have HE:RowKit.Hid (R=RB∧I=true):=jh1 (by
     have e1:(zbG s.chain (h+1)).isSome=true:=HIO.out
     exact ⟨by rw [←HRI.out.1,←X3.out.2.2.2.2.2.2.2];unfold blkS;rw [if_neg (fun e=>absurd e.1 (by decide)),if_pos rfl,if_pos e1],by rw [←HRI.out.2];unfold isS;rw [if_neg (fun e=>absurd e.1 (by decide)),if_pos rfl,if_pos e1]⟩)
    clear SB st a3;go_wp2_with (first | (refine zaa rfl (some 10) rfl 59 rfl HZ.out.1 ?_;rw [htb]) | (refine wpList_store_mid rfl 59 _ _ rfl tb 0 B.toArray rfl rfl TT.out.1 TT.out.2.1 TT.out.2.2.1 ?_;rw [TT.out.2.2.2.1]) | (refine wpList_load_mid rfl 59 _ rfl tb 0 rfl B _ FL.out.2.2 underlying59 rfl TT.out.2.2.2.2 ?_) | (refine wpList_store_mid rfl 59 _ _ rfl (bx+1) 0 B.toArray rfl rfl FL.out.1.1 FL.out.1.2.1 FL.out.1.2.2.1 ?_));obtain ⟨⟨_,_,_,f4,f5,f6,f7,f8⟩,f9,_⟩:=FL.out;rw [HE.out.1,HE.out.2];refine bodyPost_ret (zax rfl _ _ (bx+1) 0 B _ rfl f4.cells underlying59 rfl f8) rfl ⟨_,_,by rw [HB.out];rfl,c3,f5,f9,f7⟩
   | false=>
    have y0:=X3.out.1.get (i:=0) rfl;have GT:=get28_any X3.out.2.2.2.2.1 X3.out.2.2.1.chain X3.out.2.2.1.nchain (h-1);go_wp2_with (first | (refine zaa rfl (some 10) rfl 59 rfl HZ.out.1 ?_;rw [htb]) | (refine wpList_store_mid rfl 59 _ _ rfl tb 0 B.toArray rfl rfl TT.out.1 TT.out.2.1 TT.out.2.2.1 ?_;rw [TT.out.2.2.2.1]));refine GT.mono ?_;rintro e w4 ⟨bc4,bv4,rfl,c4,b4,s4,o4⟩;have SB:=stB (X3.out.2.1.keep s4 jI) HZ.out.2 o4 hq0 b4 (show ¬0=q by omega);have st:Step No c w c4 _:=(((X3.out.2.2.2.1.trans s4).ofNo (K:=One q)).trans SB.2.2.2.2.2.1).drop fun b _ (e:c b=q)=>by have:=HQ.out b;omega
    obtain ⟨RB4,hRB4⟩:=jE (zba s.chain (h-1))
    have HE:RowKit.Hid (R=RB4∧I=(zbG s.chain (h-1)).isSome):=jh1 (by
     have e1:¬(zbG s.chain (h+1)).isSome=true:=by rw [HIO.out];decide
     exact ⟨by rw [←HRI.out.1,←hRB4];unfold blkS;rw [if_neg (fun e=>absurd e.1 (by decide)),if_pos rfl,if_neg e1],by rw [←HRI.out.2];unfold isS;rw [if_neg (fun e=>absurd e.1 (by decide)),if_pos rfl,if_neg e1]⟩)
    rw [hRB4] at SB st ⊢;obtain ⟨B4,hB4⟩:=jE (zau RB4 bc4 bv4);have HB4:=jh1 hB4;rw [hB4] at SB st ⊢;have FL:=jh2 SB st;clear GT SB st s4 o4 b4 hRB4 hB4 y0;go_wp2_with (refine wpList_store_mid rfl 59 _ _ rfl (bx+1) 0 B4.toArray rfl rfl FL.out.1.1 FL.out.1.2.1 FL.out.1.2.2.1 ?_);obtain ⟨⟨_,_,_,f4,f5,f6,f7,f8⟩,f9⟩:=FL.out;rw [HE.out.1,HE.out.2];refine bodyPost_ret (zax rfl _ _ (bx+1) 0 B4 _ rfl f4.cells underlying59 rfl f8) rfl ⟨_,_,by rw [HB4.out];rfl,c4,f5,f9,f7⟩
  ·have h5b:(m==5)=false:=by simpa using h5
   have GT:=get28_any o1 hs1.chain hnb h;have X2:=jh5 a1 ar hs1 s1 o1;obtain ⟨io,hio⟩:=jE ((zbG s.chain h).isSome);rw [hio] at GT
   have HE5:=jh1 (show R=(if m=6 then (zbf 0 (zba s.chain h)).2 else if m=7 then (gPoor 0 (zba s.chain h)).2 else zba s.chain h)∧I=io by
    have e8:¬(m=8∧(zbG s.other h).isSome=true):=fun e=>by have:=HM8.out e.1;rw [e.2] at this;cases this
    rw [←HRI.out.1,←HRI.out.2,←hio];unfold blkS isS;rw [if_neg e8,if_neg h5,if_neg e8,if_neg h5]
    exact ⟨rfl,rfl⟩)
   clear hio hm8 a1 ar hs1 s1 o1 hnb h5;go_wp2_with fail;refine GT.mono ?_;rintro e w2 ⟨bc,bv,rfl,c2,b2,s2,o2⟩;obtain ⟨W3,c3,hW3,a3,o3,s3,t1,t2,t3,t4⟩:=stnew o2 (ty:=59) HZ.out.2 (zal b2.h b2.hash bc bv) (zaF b2) zah (q:=q+1) (jz q);have b3:=b2.kn s3;obtain ⟨tb,htb⟩:=jE w2.heap.size;rw [htb] at hW3 a3 t1;obtain ⟨RB,hRB⟩:=jE (zba s.chain h);rw [hRB] at b2 hW3 a3 t1 t2 t3 t4 b3 ⊢;have X3:=jh8 (X2.out.1.kn (s2.trans s3)) (X2.out.2.1.keep (s2.trans s3) jI) (X2.out.2.2.1.kn (s2.trans s3)) (X2.out.2.2.2.1.trans (s2.trans s3)) o3 a3 b3 hRB;obtain ⟨B,hB⟩:=jE (zau RB bc bv);have HB:=jh1 hB;rw [hB] at hW3 t1 t2 t3 t4 ⊢;have TT:=jh5 t1 t2 t3 hW3 t4;clear GT b2 s2 o2 hW3 a3 o3 s3 t1 t2 t3 t4 b3 hRB hB;have CB:=cpblo_any X3.out.2.2.2.2.1 X3.out.2.2.2.2.2.2.1;have a3:=X3.out.2.2.2.2.2.1.cells;rw [HB.out] at CB a3;have A3:=jh1 a3;clear a3;go_wp2_with (first | (refine zaa rfl (some 12) rfl 59 rfl HZ.out.1 ?_;rw [htb]) | (refine wpList_store_mid rfl 59 _ _ rfl tb 0 B.toArray rfl rfl TT.out.1 TT.out.2.1 TT.out.2.2.1 ?_;rw [TT.out.2.2.2.1]) | (refine wpList_load_mid rfl 59 _ rfl tb 0 rfl B _ A3.out underlying59 rfl TT.out.2.2.2.2 ?_));refine CB.mono ?_;rintro e w4 ⟨bc4,bv4,c4,rfl,b4,s4,o4⟩;have hBl:B.length=166:=by rw [←HB.out];exact zal X3.out.2.2.2.2.2.2.1.h X3.out.2.2.2.2.2.2.1.hash _ _
   have hq1:q+1≠0:=jz q;have SB:=stB (X3.out.2.2.2.2.2.1.keep s4 jI) (by rw [HB.out];exact hBl) o4 hq1 b4 (show ¬0=q+1 by omega);obtain ⟨B4,hB4⟩:=jE (zau RB bc4 bv4);obtain ⟨W5,hW5⟩:=jE (w4.setCells tb 0 B4);rw [hB4,hW5] at SB;obtain ⟨u1,u2,u3,a5,b5,s5,o5,u8⟩:=SB;have r5:=(X3.out.2.1.keep s4 jI).keep s5 (show ¬q=q+1 by omega);have st5:Step (fun j=>q≤j) c w c4 W5:=((X3.out.2.2.2.1.trans s4).ofNo (K:=fun j=>q≤j)).trans (s5.mono (K':=fun j=>q≤j) fun j (e:j=q+1)=>by omega);have U:=jh4 u1 u2 u3 hW5;have HB4:=jh1 hB4;have HRB:=jh1 (show R=(if m=6 then (zbf 0 RB).2 else if m=7 then (gPoor 0 RB).2 else RB) by rw [HE5.out.1,X3.out.2.2.2.2.2.2.2]);obtain rfl:I=io:=HE5.out.2;have X5:=jh5 r5 st5 b5 o5 u8;rw [hB4];rw [←hB4] at a5;clear CB s4 o4 b4 hBl u1 u2 u3 u8 b5 s5 o5 r5 st5 hW5 X3 HE5 TT A3;by_cases h6:m=6
   ·subst h6
    obtain ⟨a,r,har⟩:∃a r,RB.h.app=a::r:=by
     cases h:RB.h.app with
     | nil=>have:=X5.out.2.2.1.h.app;rw [h] at this;cases this
     | cons a r=>exact ⟨a,r,rfl⟩
    have y99:W5.cell? ⟨tb,99,none⟩=some (.int .u8 a.toNat):=a5.get (bloC_app X5.out.2.2.1 har);have yf:=a5.fz X5.out.2.2.2.1 hq1 99;have hx:=xor255 a;have a6:=a5.setN (i:=99) (by rw [zal X5.out.2.2.1.h X5.out.2.2.1.hash];decide) (.int .u8 (a ^^^ 255).toNat);rw [bloC_broken X5.out.2.2.1 har] at a6;have s6:Step (One (q+1)) c4 W5 c4 (W5.setCell ⟨tb,99,none⟩ (.int .u8 (a ^^^ 255).toNat)):=(Step.refl (K:=One (q+1))).setCell (a:=⟨tb,99,none⟩) (.inr a5.col) _;have b6:=broken_at (X5.out.2.2.1.keep s6 (show ¬0=q+1 by omega));have SB:=stB (X5.out.1.keep s6 (show ¬q=q+1 by omega)) HZ.out.2 (X5.out.2.2.2.1.setCell ⟨tb,99,none⟩ (.int .u8 (a ^^^ 255).toNat)) hq0 (b6) (show ¬0=q by omega);have st:Step No c w c4 _:=((X5.out.2.1.trans (s6.mono (K':=fun j=>q≤j) fun j (e:j=q+1)=>by omega)).trans (SB.2.2.2.2.2.1.mono (K':=fun j=>q≤j) fun j (e:j=q)=>by omega)).drop fun b _ (e:q≤c b)=>by have:=HQ.out b;omega
    have a6:=(a6).cells;obtain ⟨B6,hB6⟩:=jE (zau (zbf 0 RB).2 bc4 bv4);have HB6:=jh1 hB6;rw [hB6] at SB st a6;have FL:=jh3 SB st a6;have HE:=jh1 (show R=(zbf 0 RB).2 by rw [HRB.out,if_pos rfl]);clear SB st a6 hB6 s6 b6 a5 har;go_wp2_with (first | (refine wpList_store_mid rfl 59 _ _ rfl tb 0 B4.toArray rfl rfl U.out.1 U.out.2.1 U.out.2.2.1 ?_;rw [U.out.2.2.2]) | (refine wpList_load_mid rfl 59 _ rfl tb 0 rfl B6 _ FL.out.2.2 underlying59 rfl FL.out.1.2.2.2.2.2.2.2 ?_) | (refine wpList_store_mid rfl 59 _ _ rfl (bx+1) 0 B6.toArray rfl rfl FL.out.1.1 FL.out.1.2.1 FL.out.1.2.2.1 ?_));obtain ⟨⟨_,_,_,f4,f5,f6,f7,f8⟩,f9,_⟩:=FL.out;rw [HE.out];refine bodyPost_ret (zax rfl _ _ (bx+1) 0 B6 _ rfl f4.cells underlying59 rfl f8) rfl ⟨_,_,by rw [HB6.out];rfl,c4,f5,f9,f7⟩
   ·have h6b:(m==6)=false:=by simpa using h6
    by_cases h7:m=7
    ·subst h7
     have y164:W5.cell? ⟨tb,164,none⟩=some bc4:=by
      have h3:=(zam (zam (xs:=[.int .i64 RB.cm.height]) (zbl X5.out.2.2.1.h X5.out.2.2.1.hash a5.cells).2.1).2).2 0 bc4 rfl;simpa [zaf,X5.out.2.2.1.hash] using h3
     have yf:=a5.fz X5.out.2.2.2.1 hq1 164;have a6:=a5.setN (i:=164) (by rw [zal X5.out.2.2.1.h X5.out.2.2.1.hash];decide) (.slice none 0 0);rw [bloC_poor X5.out.2.2.1] at a6;have s6:Step (One (q+1)) c4 W5 c4 (W5.setCell ⟨tb,164,none⟩ (.slice none 0 0)):=(Step.refl (K:=One (q+1))).setCell (a:=⟨tb,164,none⟩) (.inr a5.col) _;have b6:=poor_at (X5.out.2.2.1.keep s6 (show ¬0=q+1 by omega));have SB:=stB (X5.out.1.keep s6 (show ¬q=q+1 by omega)) HZ.out.2 (X5.out.2.2.2.1.setCell ⟨tb,164,none⟩ (.slice none 0 0)) hq0 (b6) (show ¬0=q by omega);have st:Step No c w c4 _:=((X5.out.2.1.trans (s6.mono (K':=fun j=>q≤j) fun j (e:j=q+1)=>by omega)).trans (SB.2.2.2.2.2.1.mono (K':=fun j=>q≤j) fun j (e:j=q)=>by omega)).drop fun b _ (e:q≤c b)=>by have:=HQ.out b;omega
     have a6:=(a6).cells;obtain ⟨B6,hB6⟩:=jE (zau (gPoor 0 RB).2 (.slice none 0 0) bv4);have HB6:=jh1 hB6;rw [hB6] at SB st a6;have FL:=jh3 SB st a6;have HE:=jh1 (show R=(gPoor 0 RB).2 by rw [HRB.out,if_neg (by decide),if_pos rfl]);clear SB st a6 hB6 s6 b6 a5;go_wp2_with (first | (refine wpList_store_mid rfl 59 _ _ rfl tb 0 B4.toArray rfl rfl U.out.1 U.out.2.1 U.out.2.2.1 ?_;rw [U.out.2.2.2]) | (refine wpList_load_mid rfl 59 _ rfl tb 0 rfl B6 _ FL.out.2.2 underlying59 rfl FL.out.1.2.2.2.2.2.2.2 ?_) | (refine wpList_store_mid rfl 59 _ _ rfl (bx+1) 0 B6.toArray rfl rfl FL.out.1.1 FL.out.1.2.1 FL.out.1.2.2.1 ?_));obtain ⟨⟨_,_,_,f4,f5,f6,f7,f8⟩,f9,_⟩:=FL.out;rw [HE.out];refine bodyPost_ret (zax rfl _ _ (bx+1) 0 B6 _ rfl f4.cells underlying59 rfl f8) rfl ⟨_,_,by rw [HB6.out];rfl,c4,f5,f9,f7⟩
    ·have h7b:(m==7)=false:=by simpa using h7
     have SB:=stB (X5.out.1) HZ.out.2 (X5.out.2.2.2.1) hq0 (X5.out.2.2.1) (show ¬0=q by omega);have st:Step No c w c4 _:=((X5.out.2.1).trans (SB.2.2.2.2.2.1.mono (K':=fun j=>q≤j) fun j (e:j=q)=>by omega)).drop fun b _ (e:q≤c b)=>by have:=HQ.out b;omega
     have a6:=(a5).cells;obtain ⟨B6,hB6⟩:=jE (zau RB bc4 bv4);have HB6:=jh1 hB6;rw [hB6] at SB st a6;have FL:=jh3 SB st a6;have HE:=jh1 (show R=RB by rw [HRB.out,if_neg h6,if_neg h7]);clear SB st a6 hB6 a5;go_wp2_with (first | (refine wpList_store_mid rfl 59 _ _ rfl tb 0 B4.toArray rfl rfl U.out.1 U.out.2.1 U.out.2.2.1 ?_;rw [U.out.2.2.2]) | (refine wpList_load_mid rfl 59 _ rfl tb 0 rfl B6 _ FL.out.2.2 underlying59 rfl FL.out.1.2.2.2.2.2.2.2 ?_) | (refine wpList_store_mid rfl 59 _ _ rfl (bx+1) 0 B6.toArray rfl rfl FL.out.1.1 FL.out.1.2.1 FL.out.1.2.2.1 ?_));obtain ⟨⟨_,_,_,f4,f5,f6,f7,f8⟩,f9,_⟩:=FL.out;rw [HE.out];refine bodyPost_ret (zax rfl _ _ (bx+1) 0 B6 _ rfl f4.cells underlying59 rfl f8) rfl ⟨_,_,by rw [HB6.out];rfl,c4,f5,f9,f7⟩
end
def wrongP (e at_:Int):Ending:=.panicked [{ v:=.iface 210 (.agg #[.int .i64 e,.int .i64 at_]),recovered:=false }]
section
variable {c:Col}{w:World}
theorem takeN_no (hok:Ok c w) {k p:Nat}{bs:List UInt8}{a:Nat}{f:Int×Int}(h:IsRd c k w p bs a f) (n:Int) (hn:(bs.length:Int)-a<n) (at0:Int) (fv:Value) :
  Calls prog 135 #[.pointer (some ⟨p,0,none⟩),.int .i64 n,.int .i64 at0,fv] w fun r w'=>r=wrongP 6 at0∧IsRd c k w' p bs a f∧Step No c w c w'∧Ok c w':=by
 have HD:=jh3 (h.kn (Step.rf.drewN 1)) ((Step.rf (c:=c) (w:=w)).drewN 1) (hok.drewN 1);obtain ⟨bv,x,ow⟩:=h.row;have hle:=h.le;have hfew:=h.few;obtain ⟨va,vc,hbv,_⟩:=ow.sl.form;subst hbv;have y0:=x.get (i:=0) rfl;have y1:=x.get (i:=1) rfl;have hd:decide (n≤(bs.length:Int)-(a:Int))=false:=by simp;omega
 have hw:IntKind.i64.wrap ((bs.length:Int)-(a:Int))=(bs.length:Int)-(a:Int):=IntWalk.i64_in _ (by omega);have M:=fun W=>must_no W 6 at0;have K1:(fun W=>W.cell? ⟨p,0,none⟩=some (.slice va bs.length vc)∧W.cell? ⟨p,1,none⟩=some (.int .i64 a)) w.drew:=⟨y0,y1⟩;clear x ow hok h hle hfew;go_enter func135,ntmps135;go_wp2_with fail;refine zac (fun W=>W.cell? ⟨p,0,none⟩=some (.slice va bs.length vc)∧W.cell? ⟨p,1,none⟩=some (.int .i64 a)) (fun _=>true) (by kernel_rfl) ?_;refine tk2 0 _ 9 rfl rfl K1 ?_;refine tk2 1 _ 10 rfl rfl K1 ?_;refine tk2 2 _ 11 rfl rfl K1 ?_;refine tk2 3 _ 12 rfl rfl K1 ?_;refine tk2 4 _ 13 rfl rfl K1 ?_;refine tk2 5 _ 14 rfl rfl K1 ?_;refine tk2 6 _ 15 rfl rfl K1 ?_;refine tk2 7 _ 16 rfl rfl K1 ?_;refine tk2 8 _ 17 rfl rfl K1 ?_;refine tk2 9 _ 18 rfl rfl K1 ?_;refine tk2 10 _ 19 rfl rfl K1 ?_;refine tk2 11 (.bool false) 20 rfl rfl K1 ?_;refine tk2 12 _ 21 rfl rfl K1 ?_;refine zab.one (i:=13) (by kernel_rfl) rfl (fun KQ hK=>?_);go_simp;refine (M _).mono ?_;rintro e w1 ⟨rfl,rfl⟩;exact ⟨rfl,rfl,HD.out⟩
theorem takeB_no (hok:Ok c w) {k p:Nat}{bs:List UInt8}{a:Nat}{f:Int×Int}(h:IsRd c k w p bs a f) (n:Int) (hn:(bs.length:Int)-a<n) (at0:Int) (fv:Value) :
  Calls prog 102 #[.pointer (some ⟨p,0,none⟩),.int .i64 n,.int .i64 at0,fv] w fun r w'=>r=wrongP 6 at0∧IsRd c k w' p bs a f∧Step No c w c w'∧Ok c w':=by
 have HD:=jh3 (h.kn (Step.rf.drewN 1)) ((Step.rf (c:=c) (w:=w)).drewN 1) (hok.drewN 1);obtain ⟨bv,x,ow⟩:=h.row;have hle:=h.le;have hfew:=h.few;obtain ⟨va,vc,hbv,_⟩:=ow.sl.form;subst hbv;have y0:=x.get (i:=0) rfl;have y1:=x.get (i:=1) rfl;have hd:decide (n≤(bs.length:Int)-(a:Int))=false:=by simp;omega
 have hw:IntKind.i64.wrap ((bs.length:Int)-(a:Int))=(bs.length:Int)-(a:Int):=IntWalk.i64_in _ (by omega);have M:=fun W=>must_no W 6 at0;have K1:(fun W=>W.cell? ⟨p,0,none⟩=some (.slice va bs.length vc)∧W.cell? ⟨p,1,none⟩=some (.int .i64 a)) w.drew:=⟨y0,y1⟩;clear x ow hok h hle hfew;go_enter func102,ntmps102;go_wp2_with fail;refine zac (fun W=>W.cell? ⟨p,0,none⟩=some (.slice va bs.length vc)∧W.cell? ⟨p,1,none⟩=some (.int .i64 a)) (fun _=>true) (by kernel_rfl) ?_;refine tk2 0 _ 9 rfl rfl K1 ?_;refine tk2 1 _ 10 rfl rfl K1 ?_;refine tk2 2 _ 11 rfl rfl K1 ?_;refine tk2 3 _ 12 rfl rfl K1 ?_;refine tk2 4 _ 13 rfl rfl K1 ?_;refine tk2 5 _ 14 rfl rfl K1 ?_;refine tk2 6 _ 15 rfl rfl K1 ?_;refine tk2 7 _ 16 rfl rfl K1 ?_;refine tk2 8 _ 17 rfl rfl K1 ?_;refine tk2 9 _ 18 rfl rfl K1 ?_;refine tk2 10 _ 19 rfl rfl K1 ?_;refine tk2 11 (.bool false) 20 rfl rfl K1 ?_;refine tk2 12 _ 21 rfl rfl K1 ?_;refine zab.one (i:=13) (by kernel_rfl) rfl (fun KQ hK=>?_);go_simp;refine (M _).mono ?_;rintro e w1 ⟨rfl,rfl⟩;exact ⟨rfl,rfl,HD.out⟩
theorem takeH_no (hok:Ok c w) {k p:Nat}{bs:List UInt8}{a:Nat}{f:Int×Int}(h:IsRd c k w p bs a f) (n:Int) (hn:(bs.length:Int)-a<n) (at0:Int) (fv:Value) :
  Calls prog 168 #[.pointer (some ⟨p,0,none⟩),.int .i64 n,.int .i64 at0,fv] w fun r w'=>r=wrongP 6 at0∧IsRd c k w' p bs a f∧Step No c w c w'∧Ok c w':=by
 have HD:=jh1 (fun o:Obj=>jn3 ((h.kn (Step.al o)).kn (Step.rf.drewN 1)) ((Step.al (c:=c) (w:=w) o).drewN 1) ((hok.alloc o).drewN 1));obtain ⟨bv,x,ow⟩:=h.row;have hle:=h.le;have hfew:=h.few;obtain ⟨va,vc,hbv,_⟩:=ow.sl.form;subst hbv;have y0:=fun o:Obj=>(x.keep (Step.al o) jI).get (i:=0) rfl;have y1:=fun o:Obj=>(x.keep (Step.al o) jI).get (i:=1) rfl;have hd:decide (n≤(bs.length:Int)-(a:Int))=false:=by simp;omega
 have hw:IntKind.i64.wrap ((bs.length:Int)-(a:Int))=(bs.length:Int)-(a:Int):=IntWalk.i64_in _ (by omega);have M:=fun W=>must_no W 6 at0;have K1:∀o:Obj,(fun W:World=>W.cell? ⟨p,0,none⟩=some (.slice va bs.length vc)∧W.cell? ⟨p,1,none⟩=some (.int .i64 a)) (w.alloc o).drew:=fun o=>⟨y0 o,y1 o⟩;clear x ow hok h hle hfew y0 y1;go_enter func168,ntmps168;go_wp2_with fail;refine zac (fun W=>W.cell? ⟨p,0,none⟩=some (.slice va bs.length vc)∧W.cell? ⟨p,1,none⟩=some (.int .i64 a)) (fun _=>true) (by kernel_rfl) ?_;refine tk2 0 _ 9 rfl rfl (K1 _) ?_;refine tk2 1 _ 10 rfl rfl (K1 _) ?_;refine tk2 2 _ 11 rfl rfl (K1 _) ?_;refine tk2 3 _ 12 rfl rfl (K1 _) ?_;refine tk2 4 _ 13 rfl rfl (K1 _) ?_;refine tk2 5 _ 14 rfl rfl (K1 _) ?_;refine tk2 6 _ 15 rfl rfl (K1 _) ?_;refine tk2 7 _ 16 rfl rfl (K1 _) ?_;refine tk2 8 _ 17 rfl rfl (K1 _) ?_;refine tk2 9 _ 18 rfl rfl (K1 _) ?_;refine tk2 10 _ 19 rfl rfl (K1 _) ?_;refine tk2 11 (.bool false) 20 rfl rfl (K1 _) ?_;refine tk2 12 _ 21 rfl rfl (K1 _) ?_;refine zab.one (i:=13) (by kernel_rfl) rfl (fun KQ hK=>?_);go_simp;refine (M _).mono ?_;rintro e w1 ⟨rfl,rfl⟩;exact ⟨rfl,rfl,HD.out _⟩
theorem takeK_no (hok:Ok c w) {k p:Nat}{bs:List UInt8}{a:Nat}{f:Int×Int}(h:IsRd c k w p bs a f) (n:Int) (hn:(bs.length:Int)-a<n) (at0:Int) (fv:Value) :
  Calls prog 176 #[.pointer (some ⟨p,0,none⟩),.int .i64 n,.int .i64 at0,fv] w fun r w'=>r=wrongP 6 at0∧IsRd c k w' p bs a f∧Step No c w c w'∧Ok c w':=by
 have HD:=jh1 (fun o:Obj=>jn3 ((h.kn (Step.al o)).kn (Step.rf.drewN 1)) ((Step.al (c:=c) (w:=w) o).drewN 1) ((hok.alloc o).drewN 1));obtain ⟨bv,x,ow⟩:=h.row;have hle:=h.le;have hfew:=h.few;obtain ⟨va,vc,hbv,_⟩:=ow.sl.form;subst hbv;have y0:=fun o:Obj=>(x.keep (Step.al o) jI).get (i:=0) rfl;have y1:=fun o:Obj=>(x.keep (Step.al o) jI).get (i:=1) rfl;have hd:decide (n≤(bs.length:Int)-(a:Int))=false:=by simp;omega
 have hw:IntKind.i64.wrap ((bs.length:Int)-(a:Int))=(bs.length:Int)-(a:Int):=IntWalk.i64_in _ (by omega);have M:=fun W=>must_no W 6 at0;have K1:∀o:Obj,(fun W:World=>W.cell? ⟨p,0,none⟩=some (.slice va bs.length vc)∧W.cell? ⟨p,1,none⟩=some (.int .i64 a)) (w.alloc o).drew:=fun o=>⟨y0 o,y1 o⟩;clear x ow hok h hle hfew y0 y1;go_enter func176,ntmps176;go_wp2_with fail;refine zac (fun W=>W.cell? ⟨p,0,none⟩=some (.slice va bs.length vc)∧W.cell? ⟨p,1,none⟩=some (.int .i64 a)) (fun _=>true) (by kernel_rfl) ?_;refine tk2 0 _ 9 rfl rfl (K1 _) ?_;refine tk2 1 _ 10 rfl rfl (K1 _) ?_;refine tk2 2 _ 11 rfl rfl (K1 _) ?_;refine tk2 3 _ 12 rfl rfl (K1 _) ?_;refine tk2 4 _ 13 rfl rfl (K1 _) ?_;refine tk2 5 _ 14 rfl rfl (K1 _) ?_;refine tk2 6 _ 15 rfl rfl (K1 _) ?_;refine tk2 7 _ 16 rfl rfl (K1 _) ?_;refine tk2 8 _ 17 rfl rfl (K1 _) ?_;refine tk2 9 _ 18 rfl rfl (K1 _) ?_;refine tk2 10 _ 19 rfl rfl (K1 _) ?_;refine tk2 11 (.bool false) 20 rfl rfl (K1 _) ?_;refine tk2 12 _ 21 rfl rfl (K1 _) ?_;refine zab.one (i:=13) (by kernel_rfl) rfl (fun KQ hK=>?_);go_simp;refine (M _).mono ?_;rintro e w1 ⟨rfl,rfl⟩;exact ⟨rfl,rfl,HD.out _⟩
end
section
variable {c:Col}{w:World}
theorem IsRd.fault {k p:Nat}{bs:List UInt8}{a:Nat}{f:Int×Int}(h:IsRd c k w p bs a f) (hk:k≠0) (e x:Int):IsRd c k ((w.setCell ⟨p,2,none⟩ (.int .i64 e)).setCell ⟨p,3,none⟩ (.int .i64 x)) p bs a (e,x):=by
 obtain ⟨bv,y,o⟩:=h.row;have hc:c p=k:=y.col;exact ⟨⟨bv,(y.setN (i:=2) (by simp) (.int .i64 e)).setN (i:=3) (by simp) (.int .i64 x),(o.set (a:=⟨p,2,none⟩) (by show c p≠0;omega) (by show c p≠0;omega) _).set (a:=⟨p,3,none⟩) (by show c p≠0;omega) (by show c p≠0;omega) _⟩,h.le,h.few⟩
theorem caught_wrong (hok:Ok c w) {k p:Nat}{bs:List UInt8}{a:Nat}{f:Int×Int}(h:IsRd c k w p bs a f) (hk0:k≠0) (e x:Int) (older:List PanicEntry) :
  CallsD prog 134 #[.pointer (some ⟨p,0,none⟩)] (.panicking ({ v:=.iface 210 (.agg #[.int .i64 e,.int .i64 x]),recovered:=false }::older)) w fun r u' w'=>
   r=.returned (.tuple #[])∧u'=.panicking ({ v:=.iface 210 (.agg #[.int .i64 e,.int .i64 x]),recovered:=true }::older)∧IsRd c k w' p bs a (e,x)∧Step (One k) c w c w'∧Ok c w':=by
 have s0:Step No c w c (w.alloc (.cells #[.int .i64 e,.int .i64 x] 210)):=Step.refl.alloc _;have h0:=h.kn s0;have o0:=hok.alloc (.cells #[.int .i64 e,.int .i64 x] 210);obtain ⟨bv,y,ow⟩:=h0.row;have hcp:c p=k:=y.col;have y2:=y.get (i:=2) rfl;have y3:=y.get (i:=3) rfl;have f2:=o0.soft p 2 (by rw [hcp];exact hk0);have f3:=o0.soft p 3 (by rw [hcp];exact hk0);have s1:Step (One k) c w c (((w.alloc (.cells #[.int .i64 e,.int .i64 x] 210)).setCell ⟨p,2,none⟩ (.int .i64 e)).setCell ⟨p,3,none⟩ (.int .i64 x)):=(s0.ofNo.setCell (a:=⟨p,2,none⟩) (.inr hcp) _).setCell (a:=⟨p,3,none⟩) (.inr hcp) _;have F:=jh3 (h0.fault hk0 e x) s1 ((o0.setCell ⟨p,2,none⟩ (.int .i64 e)).setCell ⟨p,3,none⟩ (.int .i64 x));clear hok h s0 h0 o0 y ow s1;have hta:=fun W=>zbm (P:=prog) (xT:=20) underlying210 (.agg #[.int .i64 e,.int .i64 x]) W;refine callsD_of_wpS func134 rfl fun c₀ cs hu=>?_;apply wpS_seq;apply wpS_region;simp [wpOpsS,go_sem,recoverD,hu,ntmps134,Exit.thenS];apply wpS_seq;apply wpS_region;simp [wpOpsS,go_sem,Exit.thenS];refine wpS_cond (t:=true) (by simp [Act.eval,Array.replicate]) ?_;simp only [if_true];refine wpS_of_wp ?_;simp [List.replicate,←List.toArray_replicate];go_wp2_with fail;simp [bodyPostS,results,Tryz.results134];exact F.out
end
