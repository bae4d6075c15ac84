/- ServerReplies, part 42: lemmas, each with its own conditions. -/
import Derived.Test.YtgcobbapaaihiaaGreatSz41
set_option linter.all false
set_option maxHeartbeats 12800000
set_option maxRecDepth 100000
open Go.Proofs.Tryz
namespace Go.Proofs.YtgcobbapaaihiaaGreat
open Go.RowKit
section
variable {c:Col}{w:World}
theorem encode07 (hok:Ok c w) (x:Cmt) (hh:x.hash.length=32) {vv:Value}{kx kx2:Nat}(hv:Sl TVot c kx kx2 w vv x.votes) (hc:zaI x=0) (ky:Nat) :
  Calls prog 121 #[.agg (cmC x vv).toArray] w fun r w'=>∃v',r=.returned (.tuple #[v',.int .i64 0])∧∃c',Sl zag c' ky 0 w' v' (encC x)∧Step No c w c' w'∧Ok c' w':=by
 obtain ⟨q,hq,hqc⟩:=hok.top (kx+kx2);have hq0:q≠0:=by omega
 have h0q:¬0=q:=by omega
 obtain ⟨hh1,hh2,hlen,hat⟩:=checkC_ok hc;obtain ⟨va,vc,rfl,_⟩:=hv.form;have a0:=At.new0 hok (cmC x (.slice va x.votes.length vc)) 56;have o0:=hok.alloc (.cells (cmC x (.slice va x.votes.length vc)).toArray 56);have s0:Step No c w c (w.alloc (.cells (cmC x (.slice va x.votes.length vc)).toArray 56)):=Step.refl.alloc _;have C:=check07 o0 x hh (hv.kn s0) (by omega);rw [hc] at C;have hsig:=hv.vot;have hl:=zaS hh (.slice va x.votes.length vc);have hE0:=encC0_len hh;obtain ⟨xb,hxb⟩:=jE w.heap.size;rw [hxb] at a0;have Y0:∀c' w',At c' w' xb 0 (cmC x (.slice va x.votes.length vc))→_:=fun c' w' (a:At c' w' xb 0 (cmC x (.slice va x.votes.length vc)))=>cmC_get hh a;obtain ⟨B,hB⟩:=jE (cmC x (.slice va x.votes.length vc));rw [hB] at a0 o0 s0 C hl Y0 ⊢;have hi:Hid ((prog.info? 56).map (·.size)=some B.length):=jh1 (by rw [zaw,hl]);have HL:=jh7 hlen hat hsig hh hh1 hh2 hE0;have HY:=jh1 Y0;have X0:=jh3 (hv.kn s0) a0 s0;have e1:((x.height.toNat:Nat):Int)=x.height:=Int.toNat_of_nonneg (by omega);have HE:=jh1 e1;clear hv hok hc hlen hat hsig a0 o0 s0 hl hE0 Y0 hB hh1 hh2 hh e1;go_enter func121,ntmps121;go_wp2_with (refine wpList_load_mid rfl 56 _ rfl xb 0 rfl B _ X0.out.2.1.cells underlying56 rfl hi.out ?_);refine C.mono ?_;rintro e w1 ⟨rfl,c1,s1,o1⟩;have N:=newWriter04 o1 65536 (by omega) (by omega) q;have X1:=jh3 (X0.out.1.kn s1) (X0.out.2.1.keep s1 jI) (X0.out.2.2.trans s1);clear C s1 o1 X0;go_wp2_with fail;refine N.mono ?_;rintro e w2 ⟨rfl,c2,i2,s2,o2⟩;obtain ⟨p,hp⟩:=jE w1.heap.size;rw [hp] at i2 ⊢;have T:=zbb (wnum04 o2 i2 hq0 (by omega) (by simp) x.height.toNat (by have:=HL.out.2.2.2.2.2.1;omega)) (by have:=zae x.height.toNat;simp;omega);unfold PutF at T;rw [HE.out,List.nil_append] at T;have a2:=X1.out.2.1.keep s2 jI;have z0:=(HY.out _ _ a2).1;have X2:=jh3 (X1.out.1.kn s2) a2 (X1.out.2.2.trans s2);clear N i2 s2 o2 hp X1 a2;go_wp2_with fail;refine T.mono ?_;rintro e w3 ⟨rfl,c3,i3,s3,o3⟩;have a3:=X2.out.2.1.keep s3 h0q;have HH:=zbb (whash04 o3 i3 hq0 (by omega) (by have:=zae x.height.toNat;dsimp only;omega) x.hash HL.out.2.2.2.1) (by have:=zae x.height.toNat;have:=HL.out.2.2.2.1;omega);unfold PutF at HH;have hcH:=(HY.out _ _ a3).2.1;have hHl:(bC x.hash).length=32:=by rw [zaf,HL.out.2.2.2.1]
 have hHi:(prog.info? 51).map (·.size)=some (bC x.hash).length:=by rw [zai,hHl]
 obtain ⟨V,hV⟩:=jE (bC x.hash);rw [hV] at HH hcH hHi;have X3:=jh5 (X2.out.1.keep s3 (show ¬kx=q by omega) (show ¬kx2=q by omega)) a3 (X2.out.2.2.ofNo.trans s3) hcH hHi;clear T i3 s3 o3 X2 a3 z0 hcH hHl hHi hV;go_wp2_with (refine wpList_load_mid rfl 51 _ rfl xb 1 rfl V _ X3.out.2.2.2.1 underlying51 rfl X3.out.2.2.2.2 ?_);refine HH.mono ?_;rintro e w4 ⟨rfl,c4,i4,s4,o4⟩;have a4:=X3.out.2.1.keep s4 h0q;have NV:=zbb (wnum04 o4 i4 hq0 (by omega) (by have:=zae x.height.toNat;have:=HL.out.2.2.2.1;simp only [List.length_append];omega) x.votes.length (by have:=HL.out.1;omega)) (by have:=zae x.height.toNat;have:=zae x.votes.length;have:=HL.out.2.2.2.1;simp only [List.length_append];omega);unfold PutF at NV;have z33:=(HY.out _ _ a4).2.2;have X4:=jh3 (X3.out.1.keep s4 (show ¬kx=q by omega) (show ¬kx2=q by omega)) a4 (X3.out.2.2.1.trans s4);clear HH i4 s4 o4 X3 a4;go_wp2_with fail;refine NV.mono ?_;rintro e w5 ⟨rfl,c5,i5,s5,o5⟩;have X5:=jh5 i5 (X4.out.1.keep s5 (show ¬kx=q by omega) (show ¬kx2=q by omega)) (X4.out.2.2.trans s5) o5 (X4.out.2.1.keep s5 h0q);clear NV i5 s5 o5 X4 z33;obtain ⟨l,hl⟩:=jE x.votes;have HVl:=jh1 hl;go_wp2_with fail;have Y33:RowKit.Hid (∀c' w',At c' w' xb 0 B→w'.cell? ⟨xb,33,none⟩=some (.slice va l.length vc)):=jh1 fun c' w' a=>by rw [←hl];exact (HY.out _ _ a).2.2
 have X6:RowKit.Hid (IsW4 c5 q w5 p 65536 (encC0 x,0)∧Sl TVot c5 kx kx2 w5 (.slice va l.length vc) l∧At c5 w5 xb 0 B∧Step (One q) c w c5 w5∧Ok c5 w5):=jh1 (by
  obtain ⟨i5,l5,s5,o5,a5⟩:=X5.out;rw [hl] at l5;rw [hl] at i5;refine ⟨?_,l5,a5,s5,o5⟩;have:encC0 x=zay x.height.toNat++x.hash++zay l.length:=by rw [←hl];unfold encC0;simp
  rw [this];exact i5)
 have hll:l.length≤64:=by have:=HL.out.1;rw [hl] at this;exact this
 have hvl:∀v∈l,(0≤v.at_∧v.at_<64)∧v.sig<18446744073709551616:=fun v hv=>⟨HL.out.2.1 v (by rw [hl];exact hv),(HL.out.2.2.1 v (by rw [hl];exact hv)).2⟩;have HLL:=jh2 hll hvl;clear hl hll hvl X5 HY;go_loopw [7] (fun vi wr=>∃(i:Nat) (cr:Col),i≤l.length∧vi=.int .i64 i∧IsW4 cr q wr p 65536 (encC0 x++((l.take i).map cB).flatten,0)∧Sl TVot cr kx kx2 wr (.slice va l.length vc) l∧At cr wr xb 0 B∧Step (One q) c w cr wr∧Ok cr wr) (fun vi _=>l.length-(intOf vi).toNat)
 case atStart=>exact ⟨0,_,Nat.zero_le _,rfl,by simpa using X6.out.1,X6.out.2⟩
 case round=>
  clear X6;obtain ⟨i,cr,hi,rfl,iw,sl,ab,st,ok⟩:=hrel;have y33:=Y33.out _ _ ab;by_cases hlt:i<l.length
  ·obtain ⟨u,hu⟩:∃u,l[i]? = some u:=⟨l[i],by simp [hlt]⟩
   obtain ⟨g,off,cap,e,hcap,hcm⟩:=sl.some (by omega);injection e with e1 _ e2;subst e1 e2
   have hxc:∀(c':Col) (w':World),Sl TVot c' kx kx2 w' (.slice (some ⟨g,off,none⟩) l.length vc) l→w'.cell? ⟨g,off+i*2,none⟩=some (.int .i64 u.at_)∧w'.cell? ⟨g,off+i*2+1,none⟩=some (.int .u64 u.sig):=fun c' w' s=>by
    obtain ⟨vs,⟨rfl,_⟩,hcs⟩:=s.at hu;exact ⟨hcs.get 0 rfl,hcs.get 1 rfl⟩
   have y0:=(hxc _ _ sl).1;have hp1:=HLL.out.2 u (List.mem_of_getElem? hu)
   have hlen17:((l.take i).map cB).flatten.length≤1088:=by
    have:=cB_len (l.take i);have h2:(l.take i).length≤64:=by rw [List.length_take];have:=HLL.out.1;omega
    omega
   have hE0:=HL.out.2.2.2.2.2.2;have NM:=zbb (wnum04 ok iw hq0 (by omega) (by simp only [List.length_append];omega) u.at_.toNat (by omega)) (by have:=zae u.at_.toNat;simp only [List.length_append];omega);unfold PutF at NM;rw [Int.toNat_of_nonneg (by omega)] at NM;have HXC:=jh1 hxc;have X2:=jh6 sl st ab hp1 hlen17 hu;have hlt':(i:Int)<(l.length:Int):=by omega
   have hi64:(i:Int)<64:=by have:=HLL.out.1;omega
   clear iw sl st ok hp1 hlen17 hE0 ab hxc;go_wp2_with fail;refine NM.mono ?_;rintro e1 w7 ⟨rfl,c7,i7,s7,o7⟩;have sl7:=X2.out.1.keep s7 (show ¬kx=q by omega) (show ¬kx2=q by omega);have a7:=X2.out.2.2.1.keep s7 h0q;have y7:=(HXC.out _ _ sl7).2;have y33:=Y33.out _ _ a7;have WD:=zbb (wword04 o7 i7 hq0 (by omega) (by have:=HL.out.2.2.2.2.2.2;have:=X2.out.2.2.2.2.1;have:=zae u.at_.toNat;simp only [List.length_append];omega) u.sig X2.out.2.2.2.1.2) (by have:=HL.out.2.2.2.2.2.2;have:=X2.out.2.2.2.2.1;have:=zae u.at_.toNat;simp only [List.length_append,wordB,zbr];omega);unfold PutF at WD;have X7:=jh3 sl7 a7 (X2.out.2.1.trans s7);clear NM i7 s7 o7 a7 sl7;go_wp2_with fail;refine WD.mono ?_;rintro e1 w8 ⟨rfl,c8,i8,s8,o8⟩;have X8:=jh5 i8 (X7.out.1.keep s8 (show ¬kx=q by omega) (show ¬kx2=q by omega)) (X7.out.2.1.keep s8 h0q) (X7.out.2.2.trans s8) o8;clear WD i8 s8 o8 y7;go_wp2;go_roundw
   case rel=>
    refine ⟨i+1,c8,by omega,by go_num,?_,X8.out.2⟩
    have e1:encC0 x++((l.take (i+1)).map cB).flatten=encC0 x++((l.take i).map cB).flatten++zay u.at_.toNat++wordB u.sig:=by
     rw [List.take_add_one,X2.out.2.2.2.2.2];simp [cB]
    rw [e1];exact X8.out.1
   case measure=>simp [intOf];omega
  ·have hil:i=l.length:=by omega
   subst hil;rw [List.take_length] at iw;have hE:encC0 x++(l.map cB).flatten=encC x:=by rw [←encC_eq,HVl.out]
   rw [hE] at iw
   have hle:(encC x).length≤1000000000:=by
    have:=cB_len l;have:=HLL.out.1;have:=HL.out.2.2.2.2.2.2;rw [←hE,List.length_append];omega
   have D:=wdone04 ok iw rfl hle ky;have X3:=jh1 (st.drop (K':=No) fun b _ (e:c b=q)=>by have:=hqc b;omega);clear iw sl st ok ab;go_wp2_with fail;refine D.mono ?_;rintro e1 w8 ⟨v',rfl,c8,p8,s8,o8⟩;have X8:=jh3 p8 (X3.out.trans s8) o8;clear D p8 s8 o8;go_wp2;go_ret2;exact ⟨v',rfl,c8,X8.out⟩
end
section
variable {c:Col}{w:World}
theorem parts09 (hok:Ok c w) {b:Blo}{k:Nat}{vc vv:Value}(hb:b.At c k w vc vv) :
  Calls prog 119 #[.agg (zau b vc vv).toArray] w fun r w'=>r=.returned (.int .i64 (zbg b))∧∃c',Step No c w c' w'∧Ok c' w':=by
 obtain ⟨q,hq,hqc⟩:=hok.top k;obtain ⟨a0,o0,s0⟩:=zan hok (zau b vc vv) 59 q;obtain ⟨bx,hbx⟩:=jE w.heap.size;rw [hbx] at a0 o0 s0;obtain ⟨W0,hW0⟩:=jE (w.alloc (.cells (zau b vc vv).toArray 59));rw [hW0] at a0 o0 s0;have hb0:=hb.kn s0;have C1:=check06 o0 b.h hb.h;have hl:=zaj hb.h;have hlc:=zaS hb.hash vc;have hcs:=zbl hb.h hb.hash a0.cells;have y5:=hcs.2.2;rw [Nat.zero_add] at y5;obtain ⟨BH,hBH⟩:=jE (zaz b.h);obtain ⟨BC,hBC⟩:=jE (cmC b.cm vc);obtain ⟨BB,hBB⟩:=jE (zau b vc vv);rw [hBH] at C1 hl hcs;rw [hBC] at hlc hcs;rw [hBB] at hW0 ⊢;have HB:=jh5 hb0 s0 a0 hBC hBB;have CC:=jh3 hcs.1 (show (prog.info? 53).map (·.size)=some BH.length by rw [zat,hl]) (show (prog.info? 56).map (·.size)=some BC.length by rw [zaw,hlc]);obtain ⟨eH,heH⟩:=jE (zaL b.h);obtain ⟨eV,heV⟩:=jE (zaJ b.vals);obtain ⟨eC,heC⟩:=jE (zaI b.cm);have HE:=jh1 (show zbg b=if eH≠0 then eH else if eV≠0 then eV else if eC≠0 then eC else 0 by rw [←heH,←heV,←heC];rfl);have HV:=jh2 heV heC;rw [heH] at C1;clear hb hok a0 o0 s0 hb0 hl hlc hcs heH heV heC hBH hBC hBB;go_enter func119,ntmps119;go_wp2_with (first | (refine wpList_load_mid rfl 53 _ rfl bx 0 rfl BH _ CC.out.1 underlying53 rfl CC.out.2.1 ?_) | (rw [hbx];rw [hW0]) | (rw [hW0]));refine C1.mono ?_;rintro e w1 ⟨rfl,c1,s1,o1⟩
 have y5:w1.cell? ⟨bx,165,none⟩=some vv:=by
  have:=(zbl HB.out.1.h HB.out.1.hash (by have:=(HB.out.2.2.1.kn s1).cells;exact this)).2.2
  rwa [Nat.zero_add] at this
 have H1:=jh4 (HB.out.1.kn s1) (HB.out.2.1.trans s1) (HB.out.2.2.1.kn s1) o1;clear C1 s1 o1;by_cases h1:eH≠0
 ·have E:=jh1 (show zbg b=eH by rw [HE.out,if_pos h1])
  have h1b:(eH==0)=false:=by simpa using h1
  clear HE;go_wp2;go_ret;exact ⟨by rw [E.out];rfl,c1,H1.out.2.1,H1.out.2.2.2⟩
 obtain rfl:eH=0:=by omega
 have C2:=check05 H1.out.2.2.2 H1.out.1.vals H1.out.1.nvals;rw [HV.out.1] at C2;go_wp2_with fail;refine C2.mono ?_;rintro e w2 ⟨rfl,c2,s2,o2⟩;have H2:=jh4 (H1.out.1.kn s2) (H1.out.2.1.trans s2) (H1.out.2.2.1.kn s2) o2;clear C2 s2 o2 y5;by_cases h2:eV≠0
 ·have E:=jh1 (show zbg b=eV by rw [HE.out,if_neg (by omega),if_pos h2])
  have h2b:(eV==0)=false:=by simpa using h2
  clear HE;go_wp2;go_ret;exact ⟨by rw [E.out];rfl,c2,H2.out.2.1,H2.out.2.2.2⟩
 obtain rfl:eV=0:=by omega
 have C3:=check07 H2.out.2.2.2 b.cm H2.out.1.hash H2.out.1.votes H2.out.1.nvotes;rw [HV.out.2,HB.out.2.2.2.1] at C3
 have c3:=jh1 (show zas w2 bx 131 BC by
  have:=(zbl HB.out.1.h HB.out.1.hash (by have:=H2.out.2.2.1.cells;exact this)).2.1
  rw [Nat.zero_add,HB.out.2.2.2.1] at this;exact this)
 go_wp2_with (first | (refine wpList_load_mid rfl 56 _ rfl bx 131 rfl BC _ c3.out underlying56 rfl CC.out.2.2 ?_));refine C3.mono ?_;rintro e w3 ⟨rfl,c3,s3,o3⟩;have E:=jh1 (show zbg b=eC by rw [HE.out,if_neg (by omega),if_neg (by omega)];by_cases h:eC≠0;rw [if_pos h];rw [if_neg h];omega);have H3:=jh2 (H2.out.2.1.trans s3) o3;clear C3 s3 o3 HE;go_wp2;go_ret;exact ⟨by rw [E.out];rfl,_,H3.out⟩
end
section
variable {c:Col}{w:World}
theorem encode09_bad (hok:Ok c w) {b:Blo}{k:Nat}{vc vv:Value}(hb:b.At c k w vc vv) (hc:zbg b≠0) :
  Calls prog 78 #[.agg (zau b vc vv).toArray] w fun r w'=>r=.returned (.tuple #[.slice none 0 0,.int .i64 (zbg b)])∧∃c',Step No c w c' w'∧Ok c' w':=by
 have a0:=At.new0 hok (zau b vc vv) 59;have o0:=hok.alloc (.cells (zau b vc vv).toArray 59);have s0:Step No c w c (w.alloc (.cells (zau b vc vv).toArray 59)):=Step.refl.alloc _;have PT:=parts09 o0 (hb.kn s0);have hl:=zal hb.h hb.hash vc vv;obtain ⟨e0,he⟩:=jE (zbg b);obtain ⟨xb,hxb⟩:=jE w.heap.size;rw [hxb] at a0;obtain ⟨B,hB⟩:=jE (zau b vc vv);have hi:Hid ((prog.info? 59).map (·.size)=some B.length):=jh1 (by rw [zah,←hB,hl]);rw [he] at hc PT ⊢;rw [hB] at a0 o0 s0 PT ⊢;have hc2:(e0 != 0)=true:=by rw [bne_iff_ne];exact hc
 have X0:=jh2 a0.cells s0;clear a0 o0 s0 hb hok hl hB he;go_enter func78,ntmps78;go_wp2_with (refine wpList_load_mid rfl 59 _ rfl xb 0 rfl B _ X0.out.1 underlying59 rfl hi.out ?_);refine PT.mono ?_;rintro e w1 ⟨rfl,c1,s1,o1⟩;have X1:=jh2 (X0.out.2.trans s1) o1;clear PT s1 o1;go_wp2;go_ret2;exact ⟨rfl,c1,X1.out⟩
theorem encode09 (hok:Ok c w) {b:Blo}{k:Nat}{vc vv:Value}(hb:b.At c k w vc vv) (hc:zbg b=0) (ky:Nat) :
  Calls prog 78 #[.agg (zau b vc vv).toArray] w fun r w'=>∃v',r=.returned (.tuple #[v',.int .i64 0])∧∃c',Sl zag c' ky 0 w' v' (encB b)∧Step No c w c' w'∧Ok c' w':=by
 obtain ⟨q,hq,hqc⟩:=hok.top k;have hq0:q≠0:=by omega
 have h0q:¬0=q:=by omega
 have hlen:=encB_len hb hc;have hparts:=checkB_ok hc;have a0:=At.new0 hok (zau b vc vv) 59;have o0:=hok.alloc (.cells (zau b vc vv).toArray 59);have s0:Step No c w c (w.alloc (.cells (zau b vc vv).toArray 59)):=Step.refl.alloc _;have PT:=parts09 o0 (hb.kn s0);rw [hc] at PT;have hl:=zal hb.h hb.hash vc vv;obtain ⟨xb,hxb⟩:=jE w.heap.size;rw [hxb] at a0;have hhl:=zaj hb.h;have hcl:=zaS hb.hash vc;obtain ⟨hat1,hat2,hat3⟩:=zbl hb.h hb.hash a0.cells;obtain ⟨B,hB⟩:=jE (zau b vc vv);have hi:Hid ((prog.info? 59).map (·.size)=some B.length):=jh1 (by rw [zah,←hB,hl]);rw [hB] at a0 o0 s0 PT hat1 hat2 hat3 ⊢;obtain ⟨W0,hW0⟩:=jE (w.alloc (.cells B.toArray 59));rw [hW0] at a0 o0 s0 PT hat1 hat2 hat3;have X0:=jh3 a0 (hb.kn s0) s0;have hsum:(encB b).length=(lpB (zbB b.h)).length+((lpB (encC b.cm)).length+(lpB (encV b.vals)).length):=by simp only [encB,List.length_append]
 have hlp:∀l,(lpB l).length=(zay l.length).length+l.length:=fun l=>by simp only [lpB,List.length_append]
 have HP:=jh10 hparts hlen hhl hcl hat1 hat2 hat3 hsum hlp hqc;clear a0 o0 s0 hb hok hl hB hc hparts hlen hhl hcl hat1 hat2 hat3 hsum hlp hqc;go_enter func78,ntmps78;go_wp2_with (refine wpList_load_mid rfl 59 _ rfl xb 0 rfl B _ X0.out.1.cells underlying59 rfl hi.out ?_)
 (try rw [hW0])
 refine PT.mono ?_;rintro e w4 ⟨rfl,c4,t4,o4⟩;have EH:=encode06 o4 b.h X0.out.2.1.h HP.out.1.1 0;have hH:zas w4 xb 0 (zaz b.h)∧(prog.info? 53).map (·.size)=some (zaz b.h).length:=⟨HP.out.2.2.2.2.1.kn t4 X0.out.1.lt,by rw [zat,HP.out.2.2.1]⟩;obtain ⟨BH,hBH⟩:=jE (zaz b.h);rw [hBH] at EH hH;have SH:=jh1 hH;have X4:=jh1 t4;clear PT o4 hH hBH t4;go_wp2_with (refine wpList_load_mid rfl 53 _ rfl xb 0 rfl BH _ SH.out.1 underlying53 rfl SH.out.2 ?_);refine EH.mono ?_;rintro e w5 ⟨v5,rfl,c5,p5,s5,o5⟩;obtain ⟨va5,vc5,rfl,_⟩:=p5.form;have t5:=X4.out.trans s5;have EC:=encode07 o5 b.cm X0.out.2.1.hash (X0.out.2.1.votes.kn t5) HP.out.1.2.2 0;have hC:zas w5 xb 131 (cmC b.cm vc)∧(prog.info? 56).map (·.size)=some (cmC b.cm vc).length:=⟨by have:=HP.out.2.2.2.2.2.1.kn t5 X0.out.1.lt;rwa [Nat.zero_add] at this,by rw [zaw,HP.out.2.2.2.1]⟩;obtain ⟨BC,hBC⟩:=jE (cmC b.cm vc);rw [hBC] at EC hC;have SC:=jh1 hC;have X5:=jh2 p5 t5;obtain ⟨lH,hlH⟩:=jE ((zbB b.h).length);have HlH:=jh1 hlH;rw [hlH];clear EH SH X4 p5 s5 o5 hC hBC t5 hlH;go_wp2_with (refine wpList_load_mid rfl 56 _ rfl xb 131 rfl BC _ SC.out.1 underlying56 rfl SC.out.2 ?_);refine EC.mono ?_;rintro e w6 ⟨v6,rfl,c6,p6,s6,o6⟩;obtain ⟨va6,vc6,rfl,_⟩:=p6.form;have t6:=X5.out.2.trans s6;have EV:=encode05 o6 (X0.out.2.1.vals.kn t6) HP.out.1.2.1 0;have y6:w6.cell? ⟨xb,165,none⟩=some vv:=by have:=(t6.cell X0.out.1.lt jI).trans HP.out.2.2.2.2.2.2.1;rwa [Nat.zero_add] at this
 have X6:=jh3 (X5.out.1.kn s6) p6 t6;obtain ⟨lC,hlC⟩:=jE ((encC b.cm).length);have HlC:=jh1 hlC;rw [hlC];clear EC SC X5 p6 s6 o6 t6 hlC;go_wp2_with fail;refine EV.mono ?_;rintro e w7 ⟨v7,rfl,c7,p7,s7,o7⟩;obtain ⟨va7,vc7,rfl,_⟩:=p7.form;have N:=newWriter04 o7 65536 (by omega) (by omega) q;have X7:=jh4 (X6.out.1.kn s7) (X6.out.2.1.kn s7) p7 (X6.out.2.2.trans s7);obtain ⟨lV,hlV⟩:=jE ((encV b.vals).length);have HlV:=jh1 hlV;rw [hlV];clear EV X6 p7 s7 o7 hlV y6;go_wp2_with fail;refine N.mono ?_;rintro e w8 ⟨rfl,c8,i8,s8,o8⟩;obtain ⟨p,hp⟩:=jE w7.heap.size;rw [hp] at i8 ⊢;have b1:=X7.out.1.kn s8;have Q1:=zbb (wbytes04 o8 i8 hq0 (by omega) (by simp) b1 (by have:=HP.out.2.1;have:=HP.out.2.2.2.2.2.2.2.1;have:=HP.out.2.2.2.2.2.2.2.2.1 (zbB b.h);omega)) (by have:=HP.out.2.1;have:=HP.out.2.2.2.2.2.2.2.1;have h:=HP.out.2.2.2.2.2.2.2.2.1 (zbB b.h);unfold lpB at *;simp at *;omega);unfold PutF at Q1;rw [HlH.out] at Q1;have X8:=jh3 (X7.out.2.1.kn s8) (X7.out.2.2.1.kn s8) (X0.out.2.2.trans (X7.out.2.2.2.trans s8));clear N i8 s8 o8 b1 hp X7;go_wp2_with fail;refine Q1.mono ?_;rintro e w9 ⟨rfl,c9,i9,s9,o9⟩;have b2:=X8.out.1.keep s9 h0q h0q;have L1:(([]:List UInt8)++(zay lH++zbB b.h))=lpB (zbB b.h):=by rw [←HlH.out];rfl
 rw [L1] at i9;have Q2:=zbb (wbytes04 o9 i9 hq0 (by omega) (by have:=HP.out.2.1;have:=HP.out.2.2.2.2.2.2.2.1;dsimp only;omega) b2 (by have:=HP.out.2.1;have:=HP.out.2.2.2.2.2.2.2.1;have:=HP.out.2.2.2.2.2.2.2.2.1 (encC b.cm);omega)) (by have:=HP.out.2.1;have:=HP.out.2.2.2.2.2.2.2.1;have h:=HP.out.2.2.2.2.2.2.2.2.1 (encC b.cm);rw [List.length_append];omega);unfold PutF at Q2;rw [HlC.out] at Q2;have X9:=jh2 (X8.out.2.1.keep s9 h0q h0q) (X8.out.2.2.ofNo.trans s9);clear Q1 i9 s9 o9 b2 X8 L1;go_wp2_with fail;refine Q2.mono ?_;rintro e w10 ⟨rfl,c10,i10,s10,o10⟩;have b3:=X9.out.1.keep s10 h0q h0q;have L2:lpB (zbB b.h)++(zay lC++encC b.cm)=lpB (zbB b.h)++lpB (encC b.cm):=by rw [←HlC.out];rfl
 rw [L2] at i10;have Q3:=zbb (wbytes04 o10 i10 hq0 (by omega) (by have:=HP.out.2.1;have:=HP.out.2.2.2.2.2.2.2.1;simp only [List.length_append];omega) b3 (by have:=HP.out.2.1;have:=HP.out.2.2.2.2.2.2.2.1;have:=HP.out.2.2.2.2.2.2.2.2.1 (encV b.vals);omega)) (by have:=HP.out.2.1;have:=HP.out.2.2.2.2.2.2.2.1;have h:=HP.out.2.2.2.2.2.2.2.2.1 (encV b.vals);simp only [List.length_append];omega);unfold PutF at Q3;rw [HlV.out] at Q3;have X10:=jh1 (X9.out.2.trans s10);clear Q2 i10 s10 o10 b3 X9 L2;go_wp2_with fail;refine Q3.mono ?_;rintro e w11 ⟨rfl,c11,i11,s11,o11⟩;have L3:lpB (zbB b.h)++lpB (encC b.cm)++(zay lV++encV b.vals)=encB b:=by rw [←HlV.out];unfold encB;simp only [List.append_assoc];rfl
 rw [L3] at i11;have D:=wdone04 o11 i11 rfl (by have:=HP.out.2.1;dsimp only;omega) ky;have X11:=jh1 ((X10.out.trans s11).drop (K':=No) fun x _ (e:c x=q)=>by have:=HP.out.2.2.2.2.2.2.2.2.2 x;omega);clear Q3 i11 s11 o11 X10 L3;go_wp2_with fail;refine D.mono ?_;rintro e w12 ⟨v,rfl,c12,p12,s12,o12⟩;have X12:=jh3 p12 (X11.out.trans s12) o12;clear D p12 s12 o12;go_wp2;go_ret2;exact ⟨v,rfl,c12,X12.out⟩
end
section
variable {c:Col}{w:World}
theorem number14 (n:Int) (w:World):Calls prog 72 #[.int .i64 n] w fun r w'=>r=.returned (.bool (idB n))∧w'=w:=by
 have hb:=jh1 (show idB n=(decide (1≤n)&&decide (n≤1099511627776)) from rfl);by_cases h1:1≤n
 ·by_cases h2:n≤1099511627776
  ·go_enter func72,ntmps72
   go_wp2;go_ret;exact ⟨by (rw [hb.out];simp [h1,h2]),rfl⟩
  ·go_enter func72,ntmps72
   go_wp2;go_ret;exact ⟨by (rw [hb.out];simp [h1,h2];try omega),rfl⟩
 ·go_enter func72,ntmps72
  go_wp2;go_ret;exact ⟨by (rw [hb.out];simp [h1];try omega),rfl⟩
theorem height14 (n:Int) (w:World):Calls prog 73 #[.int .i64 n] w fun r w'=>r=.returned (.bool (zav n))∧w'=w:=by
 have hb:=jh1 (show zav n=(decide (1≤n)&&decide (n≤1073741824)) from rfl);by_cases h1:1≤n
 ·by_cases h2:n≤1073741824
  ·go_enter func73,ntmps73
   go_wp2;go_ret;exact ⟨by (rw [hb.out];simp [h1,h2]),rfl⟩
  ·go_enter func73,ntmps73
   go_wp2;go_ret;exact ⟨by (rw [hb.out];simp [h1,h2];try omega),rfl⟩
 ·go_enter func73,ntmps73
  go_wp2;go_ret;exact ⟨by (rw [hb.out];simp [h1];try omega),rfl⟩
theorem answer14 (hok:Ok c w) (id:Int) {b:Blo}{k:Nat}{vc vv:Value}(hb:b.At c k w vc vv) (kx:Nat) :
  Calls prog 37 #[.agg (ansC id (zau b vc vv)).toArray] w fun r w'=>
   ∃v,r=.returned (.tuple #[v,.int .i64 (ansE id b)])∧∃c',Sl zag c' kx 0 w' v (if ansE id b=0 then encN id b else [])∧Step No c w c' w'∧Ok c' w':=by
 obtain ⟨q,hq,hqc⟩:=hok.top k;have hq0:q≠0:=by omega
 have h0q:¬0=q:=by omega
 have a0:=At.new0 hok (ansC id (zau b vc vv)) 61;have o0:=hok.alloc (.cells (ansC id (zau b vc vv)).toArray 61);have s0:Step No c w c (w.alloc (.cells (ansC id (zau b vc vv)).toArray 61)):=Step.refl.alloc _;have hl:=zal hb.h hb.hash vc vv;obtain ⟨xb,hxb⟩:=jE w.heap.size;rw [hxb] at a0;have HA:∀c' w',At c' w' xb 0 (ansC id (zau b vc vv))→_:=fun c' w' (a:At c' w' xb 0 (ansC id (zau b vc vv)))=>ans_at a.cells;obtain ⟨A0,hA0⟩:=jE (ansC id (zau b vc vv));rw [hA0] at a0 o0 s0 HA ⊢;obtain ⟨W0,hW0⟩:=jE (w.alloc (.cells A0.toArray 61));rw [hW0] at a0 o0 s0;have y0:=(HA _ _ a0).1;have N:=number14 id W0;have hb0:=hb.kn s0;by_cases hid:idB id=false
 ·have hE:ansE id b=3:=by unfold ansE;rw [if_neg (by simp [hid])]
  have HE:=jh1 hE;have X0:=jh2 s0 o0;rw [hE];rw [hid] at N;clear a0 o0 s0 hb hb0 hok hl hE hid HA hqc hA0;go_enter func37,ntmps37;go_wp2_with fail
  (try rw [hxb])
  (try rw [hW0])
  refine N.mono ?_;rintro e w1 ⟨rfl,rfl⟩;clear N;go_wp2;go_ret2;exact ⟨_,rfl,c,Sl.nil _ _ _ _ _,X0.out⟩
 have hid:idB id=true:=by simpa using hid
 rw [hid] at N;have hE:ansE id b=zbg b:=by unfold ansE;rw [if_pos hid]
 have hidn:1≤id∧id≤1099511627776:=by simpa [idB] using hid
 have hcB:=(HA _ _ a0).2;have hiB:(prog.info? 59).map (·.size)=some (zau b vc vv).length:=by rw [zah,hl]
 by_cases hc:zbg b=0
 ·have EN:=encode09 o0 hb0 hc 0
  have hlen:=encB_len hb hc;obtain ⟨BB,hBB⟩:=jE (zau b vc vv);rw [hBB] at EN hcB hiB;rw [hE,hc,if_pos rfl];have SL:=jh2 hcB hiB;have e1:((id.toNat:Nat):Int)=id:=Int.toNat_of_nonneg (by omega);have X0:=jh7 a0 s0 HA hidn hlen hqc e1;clear a0 o0 s0 hb hb0 hok hl hE hid HA hqc hA0 hcB hiB hBB hc hidn hlen e1;go_enter func37,ntmps37;go_wp2_with fail
  (try rw [hxb])
  (try rw [hW0])
  refine N.mono ?_;rintro e w1 ⟨rfl,rfl⟩;clear N;go_wp2_with (refine wpList_load_mid rfl 59 _ rfl xb 1 rfl BB _ SL.out.1 underlying59 rfl SL.out.2 ?_);refine EN.mono ?_;rintro e w2 ⟨v2,rfl,c2,p2,s2,o2⟩;obtain ⟨va2,vc2,rfl,_⟩:=p2.form;have NW:=newWriter04 o2 65536 (by omega) (by omega) q;obtain ⟨lB,hlB⟩:=jE ((encB b).length);have HlB:=jh1 hlB;rw [hlB];have X2:=jh3 (X0.out.1.keep s2 jI) (X0.out.2.1.trans s2) p2;clear EN p2 s2 o2 hlB y0;go_wp2_with fail;refine NW.mono ?_;rintro e w3 ⟨rfl,c3,i3,s3,o3⟩;obtain ⟨p,hp⟩:=jE w2.heap.size;rw [hp] at i3 ⊢;have Q1:=zbb (wnum04 o3 i3 hq0 (by omega) (by simp) 2 (by omega)) (by have:=zae 2;simp;omega);unfold PutF at Q1;rw [show ((2:Nat):Int)=2 from rfl,List.nil_append] at Q1;have X3:=jh3 (X2.out.1.keep s3 jI) (X2.out.2.1.trans s3) (X2.out.2.2.kn s3);clear NW i3 s3 o3 hp X2;go_wp2_with fail;refine Q1.mono ?_;rintro e w4 ⟨rfl,c4,i4,s4,o4⟩;have a4:=X3.out.1.keep s4 h0q;have y4:=(X0.out.2.2.1 _ _ a4).1;have Q2:=zbb (wnum04 o4 i4 hq0 (by omega) (by have:=zae 2;dsimp only;omega) id.toNat (by have:=X0.out.2.2.2.1;omega)) (by have:=zae 2;have:=zae id.toNat;omega);unfold PutF at Q2;rw [X0.out.2.2.2.2.2.2] at Q2;have X4:=jh3 a4 (X3.out.2.1.ofNo.trans s4) (X3.out.2.2.keep s4 h0q h0q);clear Q1 i4 s4 o4 a4 X3;go_wp2_with fail;refine Q2.mono ?_;rintro e w5 ⟨rfl,c5,i5,s5,o5⟩;have b5:=X4.out.2.2.keep s5 h0q h0q;have Q3:=zbb (wbytes04 o5 i5 hq0 (by omega) (by have:=zae 2;have:=zae id.toNat;simp only [List.length_append];omega) b5 (by have:=X0.out.2.2.2.2.1;omega)) (by have:=zae 2;have:=zae id.toNat;have:=zae (encB b).length;have:=X0.out.2.2.2.2.1;simp only [List.length_append];omega);unfold PutF at Q3;rw [HlB.out] at Q3;have X5:=jh1 (X4.out.2.1.trans s5);clear Q2 i5 s5 o5 b5 X4 y4;go_wp2_with fail;refine Q3.mono ?_;rintro e w6 ⟨rfl,c6,i6,s6,o6⟩;have L3:zay 2++zay id.toNat++(zay lB++encB b)=encN id b:=by rw [←HlB.out];unfold encN;simp only [List.append_assoc];rfl
  rw [L3] at i6
  have hln:(encN id b).length≤3000:=by
   rw [←L3];have:=zae 2;have:=zae id.toNat;have:=zae lB;have h:=X0.out.2.2.2.2.1;have:=HlB.out;simp only [List.length_append];omega
  have D:=wdone04 o6 i6 rfl (by dsimp only;omega) kx;have X6:=jh1 ((X5.out.trans s6).drop (K':=No) fun x _ (e:c x=q)=>by have:=X0.out.2.2.2.2.2.1 x;omega);clear Q3 i6 s6 o6 X5 L3 hln;go_wp2_with fail;refine D.mono ?_;rintro e w7 ⟨v,rfl,c7,p7,s7,o7⟩;have X7:=jh3 p7 (X6.out.trans s7) o7;clear D p7 s7 o7;go_wp2;go_ret2;exact ⟨v,rfl,c7,X7.out⟩
 ·have EN:=encode09_bad o0 hb0 hc
  obtain ⟨BB,hBB⟩:=jE (zau b vc vv);rw [hBB] at EN hcB hiB;rw [hE,if_neg hc];obtain ⟨e0,he0⟩:=jE (zbg b);rw [he0] at EN hc ⊢;have he2:(e0 != 0)=true:=by rw [bne_iff_ne];exact hc
  have SL:=jh2 hcB hiB;have X0:=jh1 s0;clear a0 o0 s0 hb hb0 hok hl hE hid HA hqc hA0 hcB hiB hBB hc hidn he0;go_enter func37,ntmps37;go_wp2_with fail
  (try rw [hxb])
  (try rw [hW0])
  refine N.mono ?_;rintro e w1 ⟨rfl,rfl⟩;clear N;go_wp2_with (refine wpList_load_mid rfl 59 _ rfl xb 1 rfl BB _ SL.out.1 underlying59 rfl SL.out.2 ?_);refine EN.mono ?_;rintro e w2 ⟨rfl,c2,s2,o2⟩;have X2:=jh2 (X0.out.trans s2) o2;clear EN s2 o2;go_wp2;go_ret2;exact ⟨_,rfl,c2,Sl.nil _ _ _ _ _,X2.out⟩
end
