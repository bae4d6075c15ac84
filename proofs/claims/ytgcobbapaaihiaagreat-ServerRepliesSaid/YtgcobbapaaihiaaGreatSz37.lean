/- ServerReplies, part 37: lemmas, each with its own conditions. -/
import Derived.Test.YtgcobbapaaihiaaGreatSz36
set_option linter.all false
set_option maxHeartbeats 12800000
set_option maxRecDepth 100000
open Go.Proofs.Tryz
namespace Go.Proofs.YtgcobbapaaihiaaGreat
open Go.RowKit
section
variable {c:Col}{w:World}
theorem name06 (l:List UInt8) (hl:l.length≤1000000000) (w:World) :
  Calls prog 179 #[.string ⟨l.toArray⟩] w fun e w'=>e=.returned (.bool (nameB l))∧w'=w:=by
 obtain ⟨s,hs⟩:∃s:ByteArray,⟨l.toArray⟩=s:=⟨_,rfl⟩;have hsz:s.size=l.length:=by rw [←hs];simp [ByteArray.size]
 have hget:∀(i:Nat) (h:i<s.size),(s[i]'h)=l[i]'(by omega):=fun i h=>by subst hs;rfl
 have hix:∀(j:Nat) (x:UInt8),l[j]? = some x→∀W,(Instr.index 9 (.string s) (.int .i64 (j:Int))).run prog W=.ok (.int .u8 x.toNat) W:=by
  intro j x hx W;have hx2:=List.getElem?_eq_some_iff.1 hx;have hj:=hx2.1
  have e:(s[(j:Int).toNat]'(by rw [Int.toNat_natCast,hsz];exact hj))=x:=by
   simp only [Int.toNat_natCast];rw [hget];exact hx2.2
  rw [run_index_string _ _ _ _ _ underlying9,dif_pos ⟨by omega,by omega⟩,e]
 rw [hs];have HI:=jh1 hix;clear hs hget hix;go_enter func179,ntmps179;go_wp2;go_loopw [3] (fun vi wr=>∃j:Nat,j≤l.length∧vi=.int .i64 j∧(l.take j).all (fun b=>plainI b.toNat)=true∧w=wr) (fun vi _=>l.length-(intOf vi).toNat)
 case atStart=>exact ⟨0,Nat.zero_le _,rfl,rfl,rfl⟩
 case round=>
  obtain ⟨j,hj,rfl,hall,rfl⟩:=hrel;by_cases hlt:j<l.length
  ·obtain ⟨x,hx⟩:∃x,l[j]? = some x:=⟨l[j],by simp [hlt]⟩
   have hix:=HI.out j x hx;have hj1:(j:Int)<(s.size:Int):=by omega
   have hx256:=x.toNat_lt;have HX:=jh1 hx;have YES:Hid (plainI x.toNat=true→(l.take (j+1)).all (fun b=>plainI b.toNat)=true):=jh1 fun h=>by rw [List.take_add_one,hx];simp only [Option.toList_some,List.all_append,hall,List.all_cons,List.all_nil,h];rfl
   have NO:Hid (plainI x.toNat=false→nameB l=false):=jh1 fun h=>by
    have h2:=List.getElem?_eq_some_iff.1 hx;unfold nameB;rw [plain_no (i:=j) h2.1 (by rw [h2.2];exact h),Bool.and_false]
   have HP:=jh1 (show plainI x.toNat=((decide ((97:Int)≤(x.toNat:Int))&&decide ((x.toNat:Int)≤122))||(decide ((48:Int)≤(x.toNat:Int))&&decide ((x.toNat:Int)≤57))||((x.toNat:Int)==45)) from rfl);have HA:=jh1 hall;obtain ⟨r,hr⟩:∃r:Nat,x.toNat=r:=⟨_,rfl⟩;rw [hr] at hix hx256 YES NO HP;clear hx hall hr HI;by_cases h1:(r:Int)<97
   ·by_cases h3:(r:Int)<48
    ·by_cases h5:(r:Int)=45
     ·have h6:((r:Int) != 45)=false:=by simpa using h5
      have Y:=jh1 (YES.out (by rw [HP.out];simp;omega));clear YES NO HP;go_wp2;go_roundw
      case rel=>exact ⟨j+1,by omega,by go_num,Y.out,trivial⟩
      case measure=>simp [intOf];omega
     ·have h6:((r:Int) != 45)=true:=by simpa using h5
      have Y:=jh1 (NO.out (by rw [HP.out];simp;omega));clear YES NO HP;go_wp2;go_ret;exact ⟨by rw [Y.out];rfl,rfl⟩
    ·by_cases h4:57<(r:Int)
     ·have h6:((r:Int) != 45)=true:=by simp;omega
      have Y:=jh1 (NO.out (by rw [HP.out];simp;omega));clear YES NO HP;go_wp2;go_ret;exact ⟨by rw [Y.out];rfl,rfl⟩
     ·skip
      have Y:=jh1 (YES.out (by rw [HP.out];simp;omega));clear YES NO HP;go_wp2;go_roundw
      case rel=>exact ⟨j+1,by omega,by go_num,Y.out,trivial⟩
      case measure=>simp [intOf];omega
   ·by_cases h2:122<(r:Int)
    ·have h3:¬(r:Int)<48:=by omega
     have h4:57<(r:Int):=by omega
     have h6:((r:Int) != 45)=true:=by simp;omega
     have Y:=jh1 (NO.out (by rw [HP.out];simp;omega));clear YES NO HP;go_wp2;go_ret;exact ⟨by rw [Y.out];rfl,rfl⟩
    ·skip
     have Y:=jh1 (YES.out (by rw [HP.out];simp;omega));clear YES NO HP;go_wp2;go_roundw
     case rel=>exact ⟨j+1,by omega,by go_num,Y.out,trivial⟩
     case measure=>simp [intOf];omega
  ·have hjl:j=l.length:=by omega
   subst hjl;rw [List.take_length] at hall;have HN:=jh1 (show nameB l=(decide (1≤l.length)&&decide (l.length≤32)) by unfold nameB;rw [show plainAll l=true from hall,Bool.and_true]);have hlt2:¬(l.length:Int)<(s.size:Int):=by omega
   clear HI hall;by_cases h1:1≤l.length
   ·have g1:(1:Int)≤(s.size:Int):=by omega
    by_cases h2:l.length≤32
    ·have g2:(s.size:Int)≤32:=by omega
     go_wp2;go_ret;exact ⟨by (rw [HN.out];simp [h1,h2];try omega),rfl⟩
    ·have g2:¬(s.size:Int)≤32:=by omega
     go_wp2;go_ret;exact ⟨by (rw [HN.out];simp [h1,h2];try omega),rfl⟩
   ·have g1:¬(1:Int)≤(s.size:Int):=by omega
    go_wp2;go_ret;exact ⟨by (rw [HN.out];simp [h1];try omega),rfl⟩
theorem check06 (hok:Ok c w) (h:Hdr) (hw:h.Wf) :
  Calls prog 146 #[.agg (zaz h).toArray] w fun r w'=>r=.returned (.int .i64 (zaL h))∧∃c',Step No c w c' w'∧Ok c' w':=by
 have hn:=hw.name;have hlen:=zaj hw;obtain ⟨a1,o1,s1⟩:=zan hok (zaz h) 53 1;obtain ⟨b,hb⟩:=jE w.heap.size;obtain ⟨W1,hW1⟩:=jE (w.alloc (.cells (zaz h).toArray 53));rw [hb] at a1 o1 s1;rw [hW1] at a1 o1 s1;have y0:W1.cell? ⟨b,0,none⟩=some (.string ⟨h.name.toArray⟩):=a1.get (i:=0) rfl;have y1:W1.cell? ⟨b,1,none⟩=some (.int .i64 h.height):=a1.get (i:=1) rfl;have y2:W1.cell? ⟨b,2,none⟩=some (.int .i64 h.time):=a1.get (i:=2) rfl;have N:=name06 h.name (by omega) W1;have HC:=jh1 (show zaL h=if nameB h.name=false then 5 else if zav h.height=false then 3 else if timeB h.time=false then 3 else 0 from rfl);have H:=jh2 s1 o1;obtain ⟨nm,hnm⟩:=jE (nameB h.name);obtain ⟨ht,hht⟩:=jE h.height;obtain ⟨tm,htm⟩:=jE h.time;rw [hnm,hht,htm] at HC;rw [hnm] at N;rw [hht] at y1;rw [htm] at y2;obtain ⟨C,hC⟩:=jE ((zaz h));obtain ⟨K,hK⟩:=jE (zaL h);rw [hK] at HC ⊢;rw [hC] at hlen hW1 ⊢;have hC1:∀v∈C,v.oneCell'=true:=by rw [←hC];exact zaR h
 clear hok a1 s1 o1 hnm hht htm hC hK hw hn;go_enter func146,ntmps146;go_wp2_with fail
 (try rw [hb])
 (try rw [hW1])
 refine N.mono ?_;rintro e w2 ⟨rfl,rfl⟩;clear N
 rcases nm with _ | _
 ·have E:=jh1 (show K=5 from HC.out)
  clear HC;go_wp2;go_ret;exact ⟨by rw [E.out];rfl,_,H.out⟩
 have HC:=jh1 (show K=if zav ht=false then 3 else if timeB tm=false then 3 else 0 from HC.out);by_cases h1:ht<1
 ·have E:=jh1 (show K=3 by rw [HC.out,if_pos (by simp [zav];omega)])
  clear HC;go_wp2;go_ret;exact ⟨by rw [E.out];rfl,_,H.out⟩
 by_cases h2:1073741824<ht
 ·have E:=jh1 (show K=3 by rw [HC.out,if_pos (by simp [zav];omega)])
  clear HC;go_wp2;go_ret;exact ⟨by rw [E.out];rfl,_,H.out⟩
 have HC:=jh1 (show K=if timeB tm=false then 3 else 0 by rw [HC.out,if_neg (by simp [zav];omega)]);by_cases h3:tm<0
 ·have E:=jh1 (show K=3 by rw [HC.out,if_pos (by simp [timeB];omega)])
  clear HC;go_wp2;go_ret;exact ⟨by rw [E.out];rfl,_,H.out⟩
 by_cases h4:1099511627776<tm
 ·have E:=jh1 (show K=3 by rw [HC.out,if_pos (by simp [timeB];omega)])
  clear HC;go_wp2;go_ret;exact ⟨by rw [E.out];rfl,_,H.out⟩
 have E:=jh1 (show K=0 by rw [HC.out,if_neg (by simp [timeB];omega)]);clear HC;go_wp2;go_ret;exact ⟨by rw [E.out];rfl,_,H.out⟩
end
theorem zero_hdrQ:zaE prog 53 (zaz ⟨[],0,0,zap,zap,zap,zap⟩):=by unfold zaE;kernel_rfl
theorem wf0Q:(⟨[],0,0,zap,zap,zap,zap⟩:Hdr).Wf:=⟨by simp,has_nat (n:=0) (by omega),has_nat (n:=0) (by omega),rfl,rfl,rfl,rfl⟩
section
variable {c:Col}{w:World}
theorem get06 (hok:Ok c w) {k p:Nat}{bs:List UInt8}{a:Nat}{f:Int×Int}(h:IsR4 c k w p bs a f) (hk0:k≠0) :
  Calls prog 145 #[.pointer (some ⟨p,0,none⟩)] w (ReadQ (fun v=>∃h:Hdr,h.Wf∧v=.agg (zaz h).toArray) c w k p bs):=by
 obtain ⟨q,hq,hqc⟩:=hok.top k;have hq0:q≠0:=by omega
 have hbs:=h.few;have zH:=zero_hdrQ;have hZl:=zaj wf0Q;obtain ⟨Z,hZ⟩:=jE (zaz ⟨[],0,0,zap,zap,zap,zap⟩);rw [hZ] at zH hZl;obtain ⟨a2,o2,s2⟩:=zan hok Z 53 q;obtain ⟨a3,o3,s3⟩:=zan o2 Z 53 (q+1);rw [World.size_alloc] at a3 o3 s3;obtain ⟨tb,htb⟩:=jE w.heap.size;have htw:w.heap.size≤tb:=by omega
 rw [htb] at a2 o2 s2 a3 o3 s3;obtain ⟨W3,hW3⟩:=jE ((w.alloc (.cells Z.toArray 53)).alloc (.cells Z.toArray 53));rw [hW3] at a3 o3 s3;have i3:=h.kn (s2.trans s3);have TX:=text4 o3 i3 hk0 32 (by omega);have HZ:=jh4 zH hqc hZl htw;have HB:=jh1 (a2.kn s3);have a3h:∃h:Hdr,h.Wf∧At (((c.put tb q)).put (tb+1) (q+1)) W3 (tb+1) (q+1) (zaz h):=⟨_,wf0Q,by rw [hZ];exact a3⟩;have X0:=jh3 a3h (a2.keep s3 jI) (s2.trans s3);clear h hok a2 o2 s2 a3 o3 s3 i3 a3h zH hZ hqc hZl HB;go_enter func145,ntmps145;go_wp2_with (first | (refine zaa rfl (some 2) rfl 53 rfl HZ.out.1 ?_) | (refine zaa rfl (some 3) rfl 53 rfl HZ.out.1 ?_))
 (try simp only [World.size_alloc])
 (try rw [htb])
 (try rw [hW3])
 refine TX.mono ?_;rintro e w1 ⟨l,a1,f1,rfl,c1,hl,i1,s1,o1⟩;obtain ⟨⟨h1,hw1,ah1⟩,ab1,st1⟩:=X0.out;have ah2:=ah1.keep s1 (show ¬q+1=k by omega);have y0:=ah2.get (i:=0) (u:=.string ⟨h1.name.toArray⟩) rfl;have yf:=ah2.fz o1 (jz _) 0;have ah3:At c1 (w1.setCell ⟨tb+1,0,none⟩ (.string ⟨l.toArray⟩)) (tb+1) (q+1) (zaz { h1 with name:=l }):=ah2.setN (i:=0) (by rw [zaj hw1];omega) _;have sx:Step (One (q+1)) c1 w1 c1 (w1.setCell ⟨tb+1,0,none⟩ (.string ⟨l.toArray⟩)):=(Step.refl (K:=One (q+1))).setCell (a:=⟨tb+1,0,none⟩) (.inr ah2.col) _;have hw3:({ h1 with name:=l }:Hdr).Wf:=⟨by dsimp only;omega,hw1.height,hw1.time,hw1.prev,hw1.vals,hw1.next,hw1.app⟩;have stA:Step (fun j=>j=k∨q≤j) c w c1 (w1.setCell ⟨tb+1,0,none⟩ (.string ⟨l.toArray⟩)):=(st1.ofNo.trans (s1.mono fun j (e:j=k)=>.inl e)).trans (sx.mono fun j (e:j=q+1)=>by omega);have iA:=i1.keep sx (show ¬k=q+1 by omega) (show ¬0=q+1 by omega);have oA:=o1.setCell ⟨tb+1,0,none⟩ (.string ⟨l.toArray⟩);have abA:=(ab1.keep s1 (show ¬q=k by omega)).keep sx (show ¬q=q+1 by omega);obtain ⟨WA,hWA⟩:=jE (w1.setCell ⟨tb+1,0,none⟩ (.string ⟨l.toArray⟩));rw [hWA] at ah3 stA iA oA abA;have N1:=num4 oA iA hk0;unfold NumQ at N1;obtain ⟨hA,hHA⟩:∃x:Hdr,{ h1 with name:=l }=x:=⟨_,rfl⟩;rw [hHA] at ah3 hw3;have XA:=jh4 hw3 ah3 abA stA;clear TX X0 i1 s1 o1 hl hw1 ah1 ab1 st1 ah2 ah3 sx hw3 stA iA oA abA hHA;go_wp2_with fail
 (try rw [hWA])
 refine N1.mono ?_;rintro e w2 ⟨n2,a2,f2,rfl,c2,i2,s2,o2,hn2,-⟩;clear N1 y0 yf;have H:=XA.out.1;have z1:=XA.out.2.1.keep s2 (show ¬q+1=k by omega);have y0:=z1.get (i:=1) (u:=.int .i64 hA.height) rfl;have yf:=z1.fz o2 (jz _) 1;have z2:At c2 (w2.setCell ⟨tb+1,1,none⟩ (.int .i64 n2)) (tb+1) (q+1) (zaz { hA with height:=(n2:Int) }):=z1.setN (i:=1) (by rw [zaj H];omega) _;have sx:Step (One (q+1)) c2 w2 c2 (w2.setCell ⟨tb+1,1,none⟩ (.int .i64 n2)):=(Step.refl (K:=One (q+1))).setCell (a:=⟨tb+1,1,none⟩) (.inr z1.col) _;have hw3:({ hA with height:=(n2:Int) }:Hdr).Wf:=⟨H.name,has_nat hn2,H.time,H.prev,H.vals,H.next,H.app⟩;have stB:=(XA.out.2.2.2.trans (s2.mono fun j (e:j=k)=>.inl e)).trans (sx.mono fun j (e:j=q+1)=>by omega);have iB:=i2.keep sx (show ¬k=q+1 by omega) (show ¬0=q+1 by omega);have oB:=o2.setCell ⟨tb+1,1,none⟩ (.int .i64 n2);have abB:=(XA.out.2.2.1.keep s2 (show ¬q=k by omega)).keep sx (show ¬q=q+1 by omega);obtain ⟨WB,hWB⟩:=jE (w2.setCell ⟨tb+1,1,none⟩ (.int .i64 n2));rw [hWB] at z2 stB iB oB abB;obtain ⟨hB,hHB⟩:∃x:Hdr,{ hA with height:=(n2:Int) }=x:=⟨_,rfl⟩;rw [hHB] at z2 hw3;have XB:=jh4 hw3 z2 abB stB;have N2:=num4 oB iB hk0;unfold NumQ at N2;clear XA i2 s2 o2 hn2 H z1 z2 sx hw3 stB iB oB abB hHB;go_wp2_with fail
 (try rw [hWB])
 refine N2.mono ?_;rintro e w3 ⟨n3,a3,f3,rfl,c3,i3,s3,o3,hn3,-⟩;clear N2 y0 yf;have H:=XB.out.1;have z1:=XB.out.2.1.keep s3 (show ¬q+1=k by omega);have y0:=z1.get (i:=2) (u:=.int .i64 hB.time) rfl;have yf:=z1.fz o3 (jz _) 2;have z2:At c3 (w3.setCell ⟨tb+1,2,none⟩ (.int .i64 n3)) (tb+1) (q+1) (zaz { hB with time:=(n3:Int) }):=z1.setN (i:=2) (by rw [zaj H];omega) _;have sx:Step (One (q+1)) c3 w3 c3 (w3.setCell ⟨tb+1,2,none⟩ (.int .i64 n3)):=(Step.refl (K:=One (q+1))).setCell (a:=⟨tb+1,2,none⟩) (.inr z1.col) _;have hw3:({ hB with time:=(n3:Int) }:Hdr).Wf:=⟨H.name,H.height,has_nat hn3,H.prev,H.vals,H.next,H.app⟩;have stC:=(XB.out.2.2.2.trans (s3.mono fun j (e:j=k)=>.inl e)).trans (sx.mono fun j (e:j=q+1)=>by omega);have iC:=i3.keep sx (show ¬k=q+1 by omega) (show ¬0=q+1 by omega);have oC:=o3.setCell ⟨tb+1,2,none⟩ (.int .i64 n3);have abC:=(XB.out.2.2.1.keep s3 (show ¬q=k by omega)).keep sx (show ¬q=q+1 by omega);obtain ⟨WC,hWC⟩:=jE (w3.setCell ⟨tb+1,2,none⟩ (.int .i64 n3));rw [hWC] at z2 stC iC oC abC;obtain ⟨hC,hHC⟩:∃x:Hdr,{ hB with time:=(n3:Int) }=x:=⟨_,rfl⟩;rw [hHC] at z2 hw3;have XC:=jh4 hw3 z2 abC stC;have R0:=hash4 oC iC hk0;clear XB i3 s3 o3 hn3 H z1 z2 sx hw3 stC iC oC abC hHC;go_wp2_with fail
 (try rw [hWC])
 clear y0 yf;unfold ReadQ at R0;refine R0.mono ?_;rintro e w4 ⟨_,rfl,c4,a4,f4,i4,s4,o4,y,hy,rfl⟩;obtain ⟨tw,hD,hwD,z2⟩:=hdr_wj XC.out.1 o4 (jz q) (XC.out.2.1.keep s4 (show ¬q+1=k by omega)) hy 0 (by omega);have z1c:=(XC.out.2.1.keep s4 (show ¬q+1=k by omega)).col;have sx:Step (One (q+1)) c4 w4 c4 (w4.setCells (tb+1) (3+32*0) (bC y)):=Step.setCells (K:=One (q+1)) (.inr z1c) _ _ _ Step.refl;have oD:=Ok.setCells (b:=tb+1) (bC y) (3+32*0) _ o4;have stD:=(XC.out.2.2.2.trans (s4.mono fun j (e:j=k)=>.inl e)).trans (sx.mono fun j (e:j=q+1)=>by omega);have iD:=i4.keep sx (show ¬k=q+1 by omega) (show ¬0=q+1 by omega);have abD:=(XC.out.2.2.1.keep s4 (show ¬q=k by omega)).keep sx (show ¬q=q+1 by omega);obtain ⟨Y,hY⟩:=jE (bC y);obtain ⟨WD,hWD⟩:=jE (w4.setCells (tb+1) (3+32*0) (bC y));rw [hWD] at z2 stD iD oD abD;rw [hY] at hWD tw ⊢;have hYl:Y.length=32:=by rw [←hY,zaf,hy]
 have TD:=jh4 (show w4.there (tb+1) 3 Y.toArray.size by simpa using tw) (show (prog.info? 51).map (·.size)=some Y.toArray.size by rw [zai];simp [hYl]) (show Y.toArray.all (·.oneCell')=true by rw [←hY];exact all_oneCell_toArray (zaD y)) (show w4.setCells (tb+1) 3 Y=WD from hWD);have XD:=jh4 hwD z2 abD stD;have R1:=hash4 oD iD hk0;clear R0 XC i4 s4 o4 tw hwD z2 z1c sx oD stD iD abD hY hy hYl hWD;go_wp2_with (refine wpList_store_mid rfl 51 _ _ rfl (tb+1) 3 Y.toArray rfl rfl TD.out.1 TD.out.2.1 TD.out.2.2.1 ?_;rw [TD.out.2.2.2]);unfold ReadQ at R1;refine R1.mono ?_;rintro e w5 ⟨_,rfl,c5,a5,f5,i5,s5,o5,y,hy,rfl⟩;obtain ⟨tw,hE,hwE,z2⟩:=hdr_wj XD.out.1 o5 (jz q) (XD.out.2.1.keep s5 (show ¬q+1=k by omega)) hy 1 (by omega);have z1c:=(XD.out.2.1.keep s5 (show ¬q+1=k by omega)).col;have sx:Step (One (q+1)) c5 w5 c5 (w5.setCells (tb+1) (3+32*1) (bC y)):=Step.setCells (K:=One (q+1)) (.inr z1c) _ _ _ Step.refl;have oE:=Ok.setCells (b:=tb+1) (bC y) (3+32*1) _ o5;have stE:=(XD.out.2.2.2.trans (s5.mono fun j (e:j=k)=>.inl e)).trans (sx.mono fun j (e:j=q+1)=>by omega);have iE:=i5.keep sx (show ¬k=q+1 by omega) (show ¬0=q+1 by omega);have abE:=(XD.out.2.2.1.keep s5 (show ¬q=k by omega)).keep sx (show ¬q=q+1 by omega);obtain ⟨Y,hY⟩:=jE (bC y);obtain ⟨WE,hWE⟩:=jE (w5.setCells (tb+1) (3+32*1) (bC y));rw [hWE] at z2 stE iE oE abE;rw [hY] at hWE tw ⊢;have hYl:Y.length=32:=by rw [←hY,zaf,hy]
 have TE:=jh4 (show w5.there (tb+1) 35 Y.toArray.size by simpa using tw) (show (prog.info? 51).map (·.size)=some Y.toArray.size by rw [zai];simp [hYl]) (show Y.toArray.all (·.oneCell')=true by rw [←hY];exact all_oneCell_toArray (zaD y)) (show w5.setCells (tb+1) 35 Y=WE from hWE);have XE:=jh4 hwE z2 abE stE;have R2:=hash4 oE iE hk0;clear R1 XD i5 s5 o5 tw hwE z2 z1c sx oE stE iE abE hY hy hYl hWE;go_wp2_with (refine wpList_store_mid rfl 51 _ _ rfl (tb+1) 35 Y.toArray rfl rfl TE.out.1 TE.out.2.1 TE.out.2.2.1 ?_;rw [TE.out.2.2.2]);unfold ReadQ at R2;refine R2.mono ?_;rintro e w6 ⟨_,rfl,c6,a6,f6,i6,s6,o6,y,hy,rfl⟩;obtain ⟨tw,hF,hwF,z2⟩:=hdr_wj XE.out.1 o6 (jz q) (XE.out.2.1.keep s6 (show ¬q+1=k by omega)) hy 2 (by omega);have z1c:=(XE.out.2.1.keep s6 (show ¬q+1=k by omega)).col;have sx:Step (One (q+1)) c6 w6 c6 (w6.setCells (tb+1) (3+32*2) (bC y)):=Step.setCells (K:=One (q+1)) (.inr z1c) _ _ _ Step.refl;have oF:=Ok.setCells (b:=tb+1) (bC y) (3+32*2) _ o6;have stF:=(XE.out.2.2.2.trans (s6.mono fun j (e:j=k)=>.inl e)).trans (sx.mono fun j (e:j=q+1)=>by omega);have iF:=i6.keep sx (show ¬k=q+1 by omega) (show ¬0=q+1 by omega);have abF:=(XE.out.2.2.1.keep s6 (show ¬q=k by omega)).keep sx (show ¬q=q+1 by omega);obtain ⟨Y,hY⟩:=jE (bC y);obtain ⟨WF,hWF⟩:=jE (w6.setCells (tb+1) (3+32*2) (bC y));rw [hWF] at z2 stF iF oF abF;rw [hY] at hWF tw ⊢;have hYl:Y.length=32:=by rw [←hY,zaf,hy]
 have TF:=jh4 (show w6.there (tb+1) 67 Y.toArray.size by simpa using tw) (show (prog.info? 51).map (·.size)=some Y.toArray.size by rw [zai];simp [hYl]) (show Y.toArray.all (·.oneCell')=true by rw [←hY];exact all_oneCell_toArray (zaD y)) (show w6.setCells (tb+1) 67 Y=WF from hWF);have XF:=jh4 hwF z2 abF stF;have R3:=hash4 oF iF hk0;clear R2 XE i6 s6 o6 tw hwF z2 z1c sx oF stF iF abF hY hy hYl hWF;go_wp2_with (refine wpList_store_mid rfl 51 _ _ rfl (tb+1) 67 Y.toArray rfl rfl TF.out.1 TF.out.2.1 TF.out.2.2.1 ?_;rw [TF.out.2.2.2]);unfold ReadQ at R3;refine R3.mono ?_;rintro e w7 ⟨_,rfl,c7,a7,f7,i7,s7,o7,y,hy,rfl⟩;obtain ⟨tw,hG,hwG,z2⟩:=hdr_wj XF.out.1 o7 (jz q) (XF.out.2.1.keep s7 (show ¬q+1=k by omega)) hy 3 (by omega);have z1c:=(XF.out.2.1.keep s7 (show ¬q+1=k by omega)).col;have sx:Step (One (q+1)) c7 w7 c7 (w7.setCells (tb+1) (3+32*3) (bC y)):=Step.setCells (K:=One (q+1)) (.inr z1c) _ _ _ Step.refl;have oG:=Ok.setCells (b:=tb+1) (bC y) (3+32*3) _ o7;have stG:=(XF.out.2.2.2.trans (s7.mono fun j (e:j=k)=>.inl e)).trans (sx.mono fun j (e:j=q+1)=>by omega);have iG:=i7.keep sx (show ¬k=q+1 by omega) (show ¬0=q+1 by omega);have abG:=(XF.out.2.2.1.keep s7 (show ¬q=k by omega)).keep sx (show ¬q=q+1 by omega);obtain ⟨Y,hY⟩:=jE (bC y);obtain ⟨WG,hWG⟩:=jE (w7.setCells (tb+1) (3+32*3) (bC y));rw [hWG] at z2 stG iG oG abG;rw [hY] at hWG tw ⊢;have hYl:Y.length=32:=by rw [←hY,zaf,hy]
 have TG:=jh4 (show w7.there (tb+1) 99 Y.toArray.size by simpa using tw) (show (prog.info? 51).map (·.size)=some Y.toArray.size by rw [zai];simp [hYl]) (show Y.toArray.all (·.oneCell')=true by rw [←hY];exact all_oneCell_toArray (zaD y)) (show w7.setCells (tb+1) 99 Y=WG from hWG);have XG:=jh4 hwG z2 abG stG;have oG':=oG;have hcG:=zaj hwG;have hG1:=zaR hG;obtain ⟨BG,hBG⟩:=jE (zaz hG);have zc:=z2.cells;have hiG:(prog.info? 53).map (·.size)=some BG.length:=by rw [zat,←hBG,hcG]
 rw [hBG] at zc hcG hG1;have tz:=abG.there (o:=0) (n:=BG.toArray.size) oG hq0 (by simp;rw [HZ.out.2.2.1,hcG];omega);obtain ⟨_,aZ⟩:=abG.st oG hq0 (ty:=53) (us:=BG) (by rw [HZ.out.2.2.1,hcG]) hiG hG1;have sz:Step (One q) c7 WG c7 (WG.setCells tb 0 BG):=Step.setCells (K:=One q) (.inr abG.col) _ _ _ Step.refl;have FF:=jh11 zc hiG tz (show (prog.info? 53).map (·.size)=some BG.toArray.size by rw [zat];simp [hcG]) (all_oneCell_toArray hG1) aZ.cells (iG.keep sz (show ¬k=q by omega) (show ¬0=q by omega)) ((stG.trans (sz.mono fun j (e:j=q)=>by omega)).drop (K':=One k) fun b _ e=>by have:=HZ.out.2.1 b;rcases e with e | e;exact e;omega) (Ok.setCells (b:=tb) BG 0 _ oG) hwG hBG;clear R3 XF i7 s7 o7 tw hwG z2 z1c sx oG stG iG abG hY hy hYl hWG oG' hcG hG1 zc hiG tz aZ sz hBG XG;go_wp2_with (first | (refine wpList_store_mid rfl 51 _ _ rfl (tb+1) 99 Y.toArray rfl rfl TG.out.1 TG.out.2.1 TG.out.2.2.1 ?_;rw [TG.out.2.2.2]) | (refine wpList_load_mid rfl 53 _ rfl (tb+1) 0 rfl BG _ FF.out.1 underlying53 rfl FF.out.2.1 ?_) | (refine wpList_store_mid rfl 53 _ _ rfl tb 0 BG.toArray rfl rfl FF.out.2.2.1 FF.out.2.2.2.1 FF.out.2.2.2.2.1 ?_));obtain ⟨_,f2,_,_,_,f6,f7,f8,f9,f10,f11⟩:=FF.out;refine bodyPost_ret (zad rfl _ _ tb 0 BG _ rfl f6 underlying53 rfl f2) rfl ⟨_,rfl,c7,_,_,f7,f8,f9,hG,f10,by rw [f11]⟩
end
section
variable {c:Col}{w:World}
theorem endQ {ty:TypeId}{n:Nat}(hi:(prog.info? ty).map (·.size)=some n) {W:World}(ok:Ok c W) {rb qr qf:Nat}{Z H:List Value}{e0 e1:Int}(aZ:At c W rb qr Z) (hZ:Z.length=n) (af:At c W (rb+1) qf [.int .i64 e0,.int .i64 e1]) (hqr:qr≠0) (hqf:qf≠0) (hqq:¬qf=qr) (hH:H.length=n) (h1:∀u∈H,u.oneCell'=true) (g0 g1:Int) :
  W.there rb 0 H.toArray.size∧(prog.info? ty).map (·.size)=some H.toArray.size∧H.toArray.all (·.oneCell')=true ∧
   (W.setCells rb 0 H).cell? ⟨rb+1,0,none⟩=some (.int .i64 e0)∧(W.setCells rb 0 H).cell? ⟨rb+1,1,none⟩=some (.int .i64 e1)∧(W.setCells rb 0 H).frozen? ⟨rb+1,0,none⟩=false∧(W.setCells rb 0 H).frozen? ⟨rb+1,1,none⟩=false ∧
   zas (((W.setCells rb 0 H).setCell ⟨rb+1,0,none⟩ (.int .i64 g0)).setCell ⟨rb+1,1,none⟩ (.int .i64 g1)) rb 0 H∧zas (((W.setCells rb 0 H).setCell ⟨rb+1,0,none⟩ (.int .i64 g0)).setCell ⟨rb+1,1,none⟩ (.int .i64 g1)) (rb+1) 0 [.int .i64 g0,.int .i64 g1] ∧
   Step (fun j=>j=qr∨j=qf) c W c (((W.setCells rb 0 H).setCell ⟨rb+1,0,none⟩ (.int .i64 g0)).setCell ⟨rb+1,1,none⟩ (.int .i64 g1))∧Ok c (((W.setCells rb 0 H).setCell ⟨rb+1,0,none⟩ (.int .i64 g0)).setCell ⟨rb+1,1,none⟩ (.int .i64 g1))∧Step (One qr) c W c (W.setCells rb 0 H):=by
 have hi0:(prog.info? ty).map (·.size)=some H.length:=by rw [hi,hH]
 obtain ⟨_,aR⟩:=aZ.st ok hqr (ty:=ty) (us:=H) (by rw [hH,hZ]) hi0 h1;have sR:Step (One qr) c W c (W.setCells rb 0 H):=Step.setCells (K:=One qr) (.inr aZ.col) _ _ _ Step.refl;have oR:=Ok.setCells (b:=rb) H 0 _ ok;have xf:=af.keep sR hqq;obtain ⟨a1,a2,a3,a4,a5,a6,a7⟩:=xf.faultG oR hqf g0 g1;exact ⟨aZ.there ok hqr (by simp [hH,hZ]),by rw [hi];simp [hH],all_oneCell_toArray h1,a4,a5,a6,a7,(aR.keep a3 (fun e=>hqq e.symm)).cells,a1.cells,(sR.mono fun j e=>.inl e).trans (a3.mono fun j e=>.inr e),a2,sR⟩
theorem decode06 (hok:Ok c w) {bs:List UInt8}(hbl:bs.length≤1000000) {kx:Nat}{v:Value}(hv:Sl zag c kx 0 w v bs) :
  Calls prog 116 #[v] w (DecOut IsHdr c w):=by
 obtain ⟨q,hq,hqc⟩:=hok.top kx;have hq0:q≠0:=by omega
 have zH:=zero_hdrQ;have hbz:=header_zero;have hZl:=zaj wf0Q;have hZ1:=zaR ⟨[],0,0,zap,zap,zap,zap⟩;obtain ⟨Z,hZ⟩:=jE (zaz ⟨[],0,0,zap,zap,zap,zap⟩);rw [hZ] at zH hbz hZl hZ1;obtain ⟨qr,hqr1⟩:=jE (q+1);obtain ⟨qf,hqf1⟩:=jE (q+2);have hqr:qr≠0:=by omega
 have hqf:qf≠0:=by omega
 have hqq:¬qf=qr:=by omega
 have hqle:∀j,j=qr∨j=qf→q≤j:=fun j e=>by rcases e with e | e <;> omega
 have nxr:¬One qr (q+3):=fun (e:q+3=qr)=>by omega
 have ngr:¬One qr (q+4):=fun (e:q+4=qr)=>by omega
 obtain ⟨a2,o2,s2⟩:=zan hok Z 53 qr;obtain ⟨a3,o3,s3⟩:=zan o2 [.int .i64 0,.int .i64 0] 74 qf;rw [World.size_alloc] at a3 o3 s3;obtain ⟨rb,hrb⟩:=jE w.heap.size;rw [hrb] at a2 o2 s2 a3 o3 s3;obtain ⟨W1,hW1⟩:=jE ((w.alloc (.cells Z.toArray 53)).alloc (.cells #[.int .i64 0,.int .i64 0] 74));have hW1':(w.alloc (.cells Z.toArray 53)).alloc (.cells ([Value.int .i64 0,.int .i64 0]:List Value).toArray 74)=W1:=hW1;rw [hW1'] at a3 o3 s3;have NR:=newReader4 o3 (hv.kn (s2.trans s3)) (by omega) q;obtain ⟨va,vd,rfl,_⟩:=hv.form;have HZ:=jh5 zH hbz hZl hZ1 hZ;have hqc:=jh1 hqc;have X:=jh3 (a2.keep s3 jI) a3 (s2.trans s3);clear hok hv a2 o2 s2 a3 o3 s3 zH hbz hZl hZ1 hZ;go_enter func116,ntmps116;go_wp2_with (first | (refine zaa rfl (some 2) rfl 53 rfl HZ.out.1 ?_))
 (try simp only [World.size_alloc])
 (try rw [hrb])
 (try rw [hW1])
 refine NR.mono ?_;rintro e w2 ⟨p,rfl,c2,i2,s2,o2,_⟩;have G:=get06 o2 i2 hq0;unfold ReadQ at G;have X2:=jh3 (X.out.1.keep s2 jI) (X.out.2.1.keep s2 jI) (X.out.2.2.trans s2);clear NR X i2 s2 o2 hW1';go_wp2_with fail;refine G.mono ?_;rintro e w3 ⟨_,rfl,c3,a3,f3,i3,s3,o3,h,hw,rfl⟩;have hHl:=zaj hw;have hH1:=zaR h;obtain ⟨H,hH⟩:=jE (zaz h);rw [hH] at hHl hH1 ⊢;obtain ⟨W4,c4,hW4,a4,o4,s4,t1,t2,t3,t4⟩:=stnew o3 HZ.out.2.2.1 hHl hH1 zat (q:=q+3) (by omega);obtain ⟨xb,hxb⟩:=jE w3.heap.size;rw [hxb] at hW4 a4 t1;have E:=end4 o4 (i3.kn s4);obtain ⟨g0,hg0⟩:=jE ((endF bs a3 f3).1);obtain ⟨g1,hg1⟩:=jE ((endF bs a3 f3).2);rw [hg0,hg1] at E;have HH:=jh4 hw hHl hH1 hH;have TT:=jh5 t1 t2 t3 t4 hW4;have X3:=jh4 ((X2.out.1.keep s3 (show ¬qr=q by omega)).keep s4 jI) ((X2.out.2.1.keep s3 (show ¬qf=q by omega)).keep s4 jI) a4 ((X2.out.2.2.ofNo.trans s3).trans s4.ofNo);clear G X2 i3 s3 o3 hw hHl hH1 hH hW4 a4 o4 s4 t1 t2 t3 t4 hg0 hg1;go_wp2_with (first | (refine zaa rfl (some 5) rfl 53 rfl HZ.out.1 ?_;rw [hxb]) | (refine wpList_store_mid rfl 53 _ _ rfl xb 0 H.toArray rfl rfl TT.out.1 TT.out.2.1 TT.out.2.2.1 ?_;rw [TT.out.2.2.2.2]));refine E.mono ?_;rintro e w5 ⟨rfl,c5,s5,o5⟩;obtain ⟨a6,o6,s6⟩:=zan o5 [.int .i64 g0,.int .i64 g1] 74 (q+4);obtain ⟨fb,hfb⟩:=jE w5.heap.size;rw [hfb] at a6 o6 s6;obtain ⟨W6,hW6⟩:=jE (w5.alloc (.cells #[.int .i64 g0,.int .i64 g1] 74));have hW6':w5.alloc (.cells ([Value.int .i64 g0,.int .i64 g1]:List Value).toArray 74)=W6:=hW6;rw [hW6'] at a6 o6 s6;have s56:=s5.trans s6;have X6:=jh6 (X3.out.1.keep s56 jI) (X3.out.2.1.keep s56 jI) (X3.out.2.2.1.keep s56 jI) a6 ((X3.out.2.2.2.mono fun j (e:j=q)=>show q≤j by omega).trans s56.ofNo) o6;have h0:=a6.get (i:=0) rfl;have h1:=a6.get (i:=1) rfl;have hf0:=a6.fz o6 (show q+4≠0 by omega) 0;clear E X3 s5 o5 a6 o6 s6 s56 hW6';go_upto_if 15 with (fail)
 (try rw [hfb])
 (try rw [hW6])
 go_cut [] from 13 to 18 (fun wr=>∃cr g0 g1,At cr wr fb (q+4) [.int .i64 g0,.int .i64 g1]∧Step (One (q+4)) (c5.put fb (q+4)) W6 cr wr∧Ok cr wr)
 case first=>
  by_cases hg:g0=0
  ·subst hg
   have C:=check06 X6.out.2.2.2.2.2 h HH.out.1;rw [HH.out.2.2.2] at C;obtain ⟨ck,hck⟩:=jE (zaL h);rw [hck] at C;clear hck;have XL:=jh1 X6.out.2.2.1.cells;go_wp2_with (first | (refine wpList_load_mid rfl 53 _ rfl xb 0 rfl H _ XL.out underlying53 rfl TT.out.2.2.2.1 ?_));refine C.mono ?_;rintro e wA ⟨rfl,cA,sA,oA⟩;have agA:=X6.out.2.2.2.1.keep sA jI;have h0:=agA.get (i:=0) rfl;have hf0:=agA.fz oA (show q+4≠0 by omega) 0;have sB:Step (One (q+4)) cA wA cA (wA.setCell ⟨fb,0,none⟩ (.int .i64 ck)):=(Step.refl (K:=One (q+4))).setCell (a:=⟨fb,0,none⟩) (.inr agA.col) _;have R9:=jh3 (agA.setN (i:=0) (by simp) (.int .i64 ck)) (sA.ofNo.trans sB) (oA.setCell ⟨fb,0,none⟩ (.int .i64 ck));clear C sA oA agA sB;go_wp2;go_meet
   case rel=>exact ⟨cA,ck,g1,R9.out⟩
  ·have hgb:(g0==0)=false:=by simpa using hg
   go_wp2;go_meet
   case rel=>exact ⟨_,g0,g1,X6.out.2.2.2.1,Step.refl,X6.out.2.2.2.2.2⟩
 case rest=>
  obtain ⟨c9,g0,g1,ag9,s9,o9⟩:=hcut;have X9:=jh6 (X6.out.1.keep s9 (show ¬qr=q+4 by omega)) (X6.out.2.1.keep s9 (show ¬qf=q+4 by omega)) (X6.out.2.2.1.keep s9 (show ¬q+3=q+4 by omega)) ag9 (X6.out.2.2.2.2.1.trans (s9.mono fun j (e:j=q+4)=>by omega)) o9;have h0:=ag9.get (i:=0) rfl;clear X6 ag9 s9 o9 h1 hf0;by_cases hg:g0=0
  ·subst hg
   have sd:Step No c9 wc c9 wc.drew:=Step.rf.drewN 1;have od:Ok c9 wc.drew:=X9.out.2.2.2.2.2.drewN 1;obtain ⟨t1,t2,t3,z0,z1,zf0,zf1,v1,v2,s2,o2,s1⟩:=endQ zat od (X9.out.1.keep sd jI) HZ.out.2.2.1 (X9.out.2.1.keep sd jI) hqr hqf hqq HH.out.2.1 HH.out.2.2.1 0 g1;have axd:=X9.out.2.2.1.keep sd jI;have agd:=X9.out.2.2.2.1.keep sd jI;have ax1:=axd.keep s1 nxr;have ag1:=agd.keep s1 ngr;have sAll:Step No c w c9 _:=((X9.out.2.2.2.2.1.trans sd.ofNo).trans (s2.mono fun j (e:j=qr∨j=qf)=>hqle j e)).drop (K':=No) fun x _ (e:q≤c x)=>by have:=hqc.out x;omega
   have FL:=jh8 t1 t2 t3 v1 v2 sAll o2 (show (prog.info? 53).map (·.size)=some H.length by rw [zat,HH.out.2.1]);have hiv:(prog.info? 53).map (·.size)=some H.length:=FL.out.2.2.2.2.2.2.2;have KK:(fun W:World=>(Instr.loadAt 53 (.pointer (some ⟨xb,0,none⟩))).run prog W=.ok (.agg H.toArray) W∧W.cell? ⟨fb,0,none⟩=some (.int .i64 0)∧W.cell? ⟨fb,1,none⟩=some (.int .i64 g1)) wc.drew:=⟨axd.ld (ty:=53) underlying53 rfl hiv,agd.get (i:=0) rfl,agd.get (i:=1) rfl⟩;have KR:(fun W:World=>(Instr.loadAt 53 (.pointer (some ⟨xb,0,none⟩))).run prog W=.ok (.agg H.toArray) W∧W.cell? ⟨fb,0,none⟩=some (.int .i64 0)∧W.cell? ⟨fb,1,none⟩=some (.int .i64 g1)) (wc.drew.setCells rb 0 H):=⟨ax1.ld (ty:=53) underlying53 rfl hiv,ag1.get (i:=0) rfl,ag1.get (i:=1) rfl⟩;clear sd od t1 t2 t3 v1 v2 s2 o2 s1 axd agd ax1 ag1 sAll X9 hiv;go_wp2_with fail;refine zac (fun W=>(Instr.loadAt 53 (.pointer (some ⟨xb,0,none⟩))).run prog W=.ok (.agg H.toArray) W∧W.cell? ⟨fb,0,none⟩=some (.int .i64 0)∧W.cell? ⟨fb,1,none⟩=some (.int .i64 g1)) (fun i=>!([3]:List Nat).contains i) (by kernel_rfl) ?_;refine tk 0 _ 24 rfl rfl (Or.inl ⟨by rfl,fun W hW=>by obtain ⟨q0,q1,q2⟩:=hW;exact zaT 53 q0 (.tmp 5) rfl rfl⟩) KK ?_;refine tk3 1 _ 25 rfl rfl KK ?_;refine zab.one (i:=2) (by kernel_rfl) rfl (fun KQ hK=>?_);refine zar rfl 53 _ _ rfl rb 0 H.toArray rfl rfl FL.out.1 FL.out.2.1 FL.out.2.2.1 ?_;simp only [List.toList_toArray];refine hK.out _ _ (fun _=>KR) ?_;clear hK KQ
   (try simp only [jS])
   refine zab.one (i:=3) (by kernel_rfl) rfl (fun KQ hK=>?_);go_simp;refine hK.out _ _ (fun h=>absurd h (by decide)) ?_;clear hK KQ
   (try simp only [jS])
   refine zab.done (by kernel_rfl) ?_ _;go_wp2_with fail;obtain ⟨_,_,_,f4,f5,f6,f7,f8⟩:=FL.out;exact bodyPost_ret (zak rfl _ _ rb (rb+1) H _ _ _ rfl rfl f4 underlying53 rfl f8 f5 underlying74 rfl zao) rfl ⟨_,0,g1,rfl,c9,⟨h,HH.out.1,by rw [HH.out.2.2.2]⟩,f6,f7⟩
  ·have hgn:(g0 != 0)=true:=by simpa using hg
   clear hg;have sd:Step No c9 wc c9 wc.drew:=Step.rf.drewN 1;have od:Ok c9 wc.drew:=X9.out.2.2.2.2.2.drewN 1;obtain ⟨t1,t2,t3,z0,z1,zf0,zf1,v1,v2,s2,o2,s1⟩:=endQ zat od (X9.out.1.keep sd jI) HZ.out.2.2.1 (X9.out.2.1.keep sd jI) hqr hqf hqq HZ.out.2.2.1 HZ.out.2.2.2.1 g0 g1;have axd:=X9.out.2.2.1.keep sd jI;have agd:=X9.out.2.2.2.1.keep sd jI;have ax1:=axd.keep s1 nxr;have ag1:=agd.keep s1 ngr;have sAll:Step No c w c9 _:=((X9.out.2.2.2.2.1.trans sd.ofNo).trans (s2.mono fun j (e:j=qr∨j=qf)=>hqle j e)).drop (K':=No) fun x _ (e:q≤c x)=>by have:=hqc.out x;omega
   have FL:=jh8 t1 t2 t3 v1 v2 sAll o2 (show (prog.info? 53).map (·.size)=some Z.length by rw [zat,HZ.out.2.2.1]);have KK:(fun W:World=>W.cell? ⟨fb,0,none⟩=some (.int .i64 g0)∧W.cell? ⟨fb,1,none⟩=some (.int .i64 g1)) wc.drew:=⟨agd.get (i:=0) rfl,agd.get (i:=1) rfl⟩;have KR:(fun W:World=>W.cell? ⟨fb,0,none⟩=some (.int .i64 g0)∧W.cell? ⟨fb,1,none⟩=some (.int .i64 g1)) (wc.drew.setCells rb 0 Z):=⟨ag1.get (i:=0) rfl,ag1.get (i:=1) rfl⟩;have hbz:=HZ.out.2.1;clear sd od t1 t2 t3 v1 v2 s2 o2 s1 axd agd ax1 ag1 sAll X9;go_wp2_with fail;refine zac (fun W=>W.cell? ⟨fb,0,none⟩=some (.int .i64 g0)∧W.cell? ⟨fb,1,none⟩=some (.int .i64 g1)) (fun i=>!([3]:List Nat).contains i) (by kernel_rfl) ?_;refine tk 0 _ 22 rfl rfl (Or.inl ⟨by rfl,fun W hW=>by obtain ⟨q0,q1⟩:=hW;exact zbq 53 hbz #[] rfl rfl⟩) KK ?_;refine tk2 1 _ 23 rfl rfl KK ?_;refine zab.one (i:=2) (by kernel_rfl) rfl (fun KQ hK=>?_);refine zar rfl 53 _ _ rfl rb 0 Z.toArray rfl rfl FL.out.1 FL.out.2.1 FL.out.2.2.1 ?_;simp only [List.toList_toArray];refine hK.out _ _ (fun _=>KR) ?_;clear hK KQ
   (try simp only [jS])
   refine zab.one (i:=3) (by kernel_rfl) rfl (fun KQ hK=>?_);go_simp;refine hK.out _ _ (fun h=>absurd h (by decide)) ?_;clear hK KQ
   (try simp only [jS])
   refine zab.done (by kernel_rfl) ?_ _;go_wp2_with fail;obtain ⟨_,_,_,f4,f5,f6,f7,f8⟩:=FL.out;exact bodyPost_ret (zak rfl _ _ rb (rb+1) Z _ _ _ rfl rfl f4 underlying53 rfl f8 f5 underlying74 rfl zao) rfl ⟨_,g0,g1,rfl,c9,⟨_,wf0Q,by rw [HZ.out.2.2.2.2]⟩,f6,f7⟩
end
