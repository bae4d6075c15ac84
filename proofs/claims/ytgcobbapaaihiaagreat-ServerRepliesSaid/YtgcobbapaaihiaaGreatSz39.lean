/- ServerReplies, part 39: lemmas, each with its own conditions. -/
import Derived.Test.YtgcobbapaaihiaaGreatSz37
set_option linter.all false
set_option maxHeartbeats 12800000
set_option maxRecDepth 100000
open Go.Proofs.Tryz
namespace Go.Proofs.YtgcobbapaaihiaaGreat
open Go.RowKit
def prevC (l:List Vot):Nat→Int
 | 0=>-1
 | i+1=>((l[i]?).map (·.at_)).getD (-1)
section
variable {c:Col}{w:World}
theorem check07 (hok:Ok c w) (x:Cmt) (hh:x.hash.length=32) {vv:Value}{kx k2:Nat}(hv:Sl TVot c kx k2 w vv x.votes) (hn:x.votes.length≤1000000000) :
  Calls prog 150 #[.agg (cmC x vv).toArray] w fun r w'=>r=.returned (.int .i64 (zaI x))∧∃c',Step No c w c' w'∧Ok c' w':=by
 obtain ⟨va,vc,rfl,_⟩:=hv.form;obtain ⟨a0,o0,s0⟩:=zan hok (cmC x (.slice va x.votes.length vc)) 56 1;obtain ⟨y0,_,y33⟩:=cmC_get hh a0;obtain ⟨B,hB⟩:=jE (cmC x (.slice va x.votes.length vc));rw [hB] at a0 o0 s0 y0 y33 ⊢;obtain ⟨xb,hxb⟩:=jE w.heap.size;rw [hxb] at a0 y0 y33 o0 s0;obtain ⟨W0,hW0⟩:=jE (w.alloc (.cells B.toArray 56));rw [hW0] at a0 o0 s0 y0 y33;have hv0:=hv.kn s0;have X:=jh2 s0 o0;clear hv hok;by_cases h1:x.height<1
 ·have hc:zaI x=3:=by unfold zaI;rw [if_pos (.inl h1)]
  rw [hc];clear a0 o0 s0 hc hv0;go_enter func150,ntmps150;go_wp2;go_ret;exact ⟨rfl,_,X.out⟩
 by_cases h2:1073741824<x.height
 ·have hc:zaI x=3:=by unfold zaI;rw [if_pos (.inr h2)]
  rw [hc];clear a0 o0 s0 hc hv0;go_enter func150,ntmps150;go_wp2;go_ret;exact ⟨rfl,_,X.out⟩
 have h12:¬(x.height<1∨1073741824<x.height):=by omega
 by_cases h64:64<x.votes.length
 ·have hc:zaI x=4:=by unfold zaI;rw [if_neg h12,if_pos h64]
  have h64':(64:Int)<(x.votes.length:Int):=by omega
  rw [hc];clear a0 o0 s0 hc hv0;go_enter func150,ntmps150;go_wp2;go_ret;exact ⟨rfl,_,X.out⟩
 have h64':¬(64:Int)<(x.votes.length:Int):=by omega
 have hc:zaI x=goC (-1) x.votes:=by unfold zaI;rw [if_neg h12,if_neg h64]
 rw [hc];obtain ⟨l,hl⟩:=jE x.votes;rw [hl] at y33 hv0 hn h64 h64' ⊢;obtain ⟨ht,hht⟩:=jE x.height;rw [hht] at y0 h1 h2;have HC:=jh3 hv0 o0 s0;clear a0 o0 s0 hc hv0 h12 hl hht hh X;go_enter func150,ntmps150;go_wp2_with fail
 (try rw [hxb])
 (try rw [hW0])
 go_loopw [3] (fun vi wr=>∃i n:Nat,i≤l.length∧vi=.int .i64 i∧goC (-1) l=goC (prevC l i) (l.drop i)∧wr=W0.drewN n) (fun vi _=>l.length-(intOf vi).toNat)
 case atStart=>exact ⟨0,0,Nat.zero_le _,rfl,rfl,rfl⟩
 case round=>
  obtain ⟨i,n,hi,rfl,hgo,rfl⟩:=hrel;have END:Hid (∀n,Step No c w _ (W0.drewN n)∧Ok _ (W0.drewN n)):=jh1 fun n=>⟨HC.out.2.2.drewN n,HC.out.2.1.drewN n⟩;by_cases hlt:i<l.length
  ·obtain ⟨v,hx⟩:∃v,l[i]? = some v:=⟨l[i],by simp [hlt]⟩
   have hdr:l.drop i=v::l.drop (i+1):=by rw [List.drop_eq_getElem_cons hlt];rw [List.getElem?_eq_getElem hlt] at hx;injection hx with hx;rw [hx]
   have hnx:prevC l (i+1)=v.at_:=by show ((l[i]?).map (·.at_)).getD (-1)=_;rw [hx];rfl
   obtain ⟨g,off,cap,hva,hcap,hcm⟩:=HC.out.1.some (by omega);injection hva with hv1 _ hv2;subst hv1 hv2
   have y4:W0.cell? ⟨g,off+i*2,none⟩=some (.int .i64 v.at_):=by
    obtain ⟨vs,⟨rfl,_⟩,hcs⟩:=HC.out.1.at hx;exact hcs.get 0 rfl
   have hlt':(i:Int)<(l.length:Int):=by omega
   obtain ⟨e,he⟩:=jE (atC (prevC l i) v);have HG:=jh1 (show goC (-1) l=if e≠0 then e else goC (prevC l (i+1)) (l.drop (i+1)) by rw [hgo,hdr,goC_cons,he,hnx]);have hA:e=if v.at_<0∨64≤v.at_ then 3 else if v.at_≤prevC l i then 9 else 0:=by rw [←he];rfl
   obtain ⟨a,ha⟩:=jE v.at_;rw [ha] at y4 hA;have HV:=jh1 hcap;clear hdr hnx hgo he ha;by_cases h3:a<0
   ·have E:=jh1 (show e=3 by rw [hA,if_pos (.inl h3)])
    clear hA hx;go_wp2;go_ret;exact ⟨by rw [HG.out,if_pos (by rw [E.out];decide),E.out];rfl,_,END.out n⟩
   by_cases h4:64≤a
   ·have E:=jh1 (show e=3 by rw [hA,if_pos (.inr h4)])
    clear hA hx;go_wp2;go_ret;exact ⟨by rw [HG.out,if_pos (by rw [E.out];decide),E.out];rfl,_,END.out n⟩
   rw [if_neg (by omega)] at hA
   rcases i with _ | m
   ·have E:=jh1 (show e=0 by rw [hA,if_neg (by simp only [prevC];omega)])
    have KK:(fun W:World=>True) (W0.drewN n).drew:=trivial;have y4:W0.cell? ⟨g,off,none⟩=some (.int .i64 a):=by simpa using y4
    clear hA hx;go_wp2_with fail;refine zac (fun W=>True) (fun _=>true) (by kernel_rfl) ?_;refine tk1 0 _ 43 rfl rfl KK ?_;refine tk1 1 _ 44 rfl rfl KK ?_;refine tk1 2 _ 45 rfl rfl KK ?_;refine tku 3 _ 46 rfl rfl KK ?_;refine tku 4 _ 47 rfl rfl KK ?_;refine tku 5 _ 48 rfl rfl KK ?_;refine tku 6 _ 49 rfl rfl KK ?_;refine tku 7 _ 50 rfl rfl KK ?_;refine tku 8 _ 51 rfl rfl KK ?_;refine tku 9 _ 52 rfl rfl KK ?_;refine tku 10 _ 53 rfl rfl KK ?_;refine tku 11 _ 54 rfl rfl KK ?_;refine tku 12 _ 55 rfl rfl KK ?_;refine tku 13 _ 56 rfl rfl KK ?_;refine tku 14 _ 57 rfl rfl KK ?_;refine tku 15 _ 58 rfl rfl KK ?_;refine tku 16 _ 59 rfl rfl KK ?_;refine tk1 17 _ 60 rfl rfl KK ?_;refine zab.one (i:=18) (by kernel_rfl) rfl (fun KQ hK=>?_);go_simp;refine hK.out _ _ (fun _=>KK) ?_;clear hK KQ
    (try simp only [jS])
    refine zab.done (by kernel_rfl) ?_ _;go_wp2;go_roundw
    case rel=>exact ⟨0+1,n+1,by omega,by go_num,by rw [HG.out,if_neg (by rw [E.out];decide)],rfl⟩
    case measure=>(simp [intOf];try omega)
   ·obtain ⟨v0,hx0⟩:∃v,l[m]? = some v:=⟨l[m]'(by omega),List.getElem?_eq_getElem (by omega)⟩
    have hpv:prevC l (m+1)=v0.at_:=by show ((l[m]?).map (·.at_)).getD (-1)=_;rw [hx0];rfl
    have y5:W0.cell? ⟨g,off+m*2,none⟩=some (.int .i64 v0.at_):=by
     obtain ⟨vs,⟨rfl,_⟩,hcs⟩:=HC.out.1.at hx0;exact hcs.get 0 rfl
    rw [hpv] at hA;obtain ⟨a0,ha0⟩:=jE v0.at_;rw [ha0] at y5 hA;have hsub:IntKind.i64.wrap (((m+1:Nat):Int)-1)=(m:Int):=by rw [IntWalk.i64_in _ (by omega)];omega
    obtain ⟨i,him⟩:=jE (m+1);rw [him] at hsub hlt hlt' hi y4 HG ⊢;have hm0:(0:Int)≤(m:Int):=by omega
    have hm1:(m:Int)<(l.length:Int):=by omega
    have hi0:(0:Int)<(i:Int):=by omega
    have hi0n:0<i:=by omega
    have KK:(fun W:World=>W.cell? ⟨xb,33,none⟩=some (.slice (some ⟨g,off,none⟩) l.length vc)∧W.cell? ⟨g,off+i*2,none⟩=some (.int .i64 a)∧W.cell? ⟨g,off+m*2,none⟩=some (.int .i64 a0)) (W0.drewN n).drew:=⟨y33,y4,y5⟩;clear hx hx0 hpv ha0;by_cases h5:a≤a0
    ·have E:=jh1 (show e=9 by rw [hA,if_pos h5])
     clear hA;go_wp2_with fail;refine zac (fun W=>W.cell? ⟨xb,33,none⟩=some (.slice (some ⟨g,off,none⟩) l.length vc)∧W.cell? ⟨g,off+i*2,none⟩=some (.int .i64 a)∧W.cell? ⟨g,off+m*2,none⟩=some (.int .i64 a0)) (fun _=>true) (by kernel_rfl) ?_;refine tk3 0 _ 43 rfl rfl KK ?_;refine tk3 1 (.bool true) 44 rfl rfl KK ?_;refine tk3 2 _ 45 rfl rfl KK ?_;refine tk3 3 _ 46 rfl rfl KK ?_;refine tk3 4 _ 47 rfl rfl KK ?_;refine tk3 5 _ 48 rfl rfl KK ?_;refine tk3 6 _ 49 rfl rfl KK ?_;refine tk3 7 _ 50 rfl rfl KK ?_;refine tk3 8 _ 51 rfl rfl KK ?_;refine tk3 9 _ 52 rfl rfl KK ?_;refine tk3 10 _ 53 rfl rfl KK ?_;refine tk3 11 _ 54 rfl rfl KK ?_;refine tk3 12 _ 55 rfl rfl KK ?_;refine tk3 13 _ 56 rfl rfl KK ?_;refine tk3 14 _ 57 rfl rfl KK ?_;refine tk3 15 _ 58 rfl rfl KK ?_;refine tk3 16 (.bool true) 59 rfl rfl KK ?_;refine tk3 17 _ 60 rfl rfl KK ?_;refine zab.one (i:=18) (by kernel_rfl) rfl (fun KQ hK=>?_);go_simp;refine hK.out _ _ (fun _=>KK) ?_;clear hK KQ
     (try simp only [jS])
     refine zab.done (by kernel_rfl) ?_ _;go_wp2;go_ret;exact ⟨by rw [HG.out,if_pos (by rw [E.out];decide),E.out];rfl,_,END.out _⟩
    ·have E:=jh1 (show e=0 by rw [hA,if_neg h5])
     clear hA;go_wp2_with fail;refine zac (fun W=>W.cell? ⟨xb,33,none⟩=some (.slice (some ⟨g,off,none⟩) l.length vc)∧W.cell? ⟨g,off+i*2,none⟩=some (.int .i64 a)∧W.cell? ⟨g,off+m*2,none⟩=some (.int .i64 a0)) (fun _=>true) (by kernel_rfl) ?_;refine tk3 0 _ 43 rfl rfl KK ?_;refine tk3 1 (.bool true) 44 rfl rfl KK ?_;refine tk3 2 _ 45 rfl rfl KK ?_;refine tk3 3 _ 46 rfl rfl KK ?_;refine tk3 4 _ 47 rfl rfl KK ?_;refine tk3 5 _ 48 rfl rfl KK ?_;refine tk3 6 _ 49 rfl rfl KK ?_;refine tk3 7 _ 50 rfl rfl KK ?_;refine tk3 8 _ 51 rfl rfl KK ?_;refine tk3 9 _ 52 rfl rfl KK ?_;refine tk3 10 _ 53 rfl rfl KK ?_;refine tk3 11 _ 54 rfl rfl KK ?_;refine tk3 12 _ 55 rfl rfl KK ?_;refine tk3 13 _ 56 rfl rfl KK ?_;refine tk3 14 _ 57 rfl rfl KK ?_;refine tk3 15 _ 58 rfl rfl KK ?_;refine tk3 16 (.bool false) 59 rfl rfl KK ?_;refine tk3 17 _ 60 rfl rfl KK ?_;refine zab.one (i:=18) (by kernel_rfl) rfl (fun KQ hK=>?_);go_simp;refine hK.out _ _ (fun _=>KK) ?_;clear hK KQ
     (try simp only [jS])
     refine zab.done (by kernel_rfl) ?_ _;go_wp2;go_roundw
     case rel=>exact ⟨i+1,n+1,by omega,by go_num,by rw [HG.out,if_neg (by rw [E.out];decide)],rfl⟩
     case measure=>(simp [intOf];try omega)
  ·have hil:i=l.length:=by omega
   subst hil;rw [List.drop_length] at hgo;have HG:=jh1 (show goC (-1) l=0 by rw [hgo];rfl);clear hgo;go_wp2;go_ret;exact ⟨by rw [HG.out];rfl,_,END.out n⟩
end
section
variable {c:Col}{w:World}
theorem decode07 (hok:Ok c w) {bs:List UInt8}(hbl:bs.length≤1000000) {kx:Nat}{v:Value}(hv:Sl zag c kx 0 w v bs) :
  Calls prog 117 #[v] w (DecOut IsCmt c w):=by
 obtain ⟨q,hq,hqc⟩:=hok.top kx;have hq0:q≠0:=by omega
 have zC:=zero_commitZ;have hbz:=commit_zero;have hZl:=zaH 0 (y:=zap) rfl (.slice none 0 0);have hZ1:∀u∈zaC 0 zap (.slice none 0 0),u.oneCell'=true:=zbx (x:=⟨0,zap,[]⟩) rfl;obtain ⟨Z,hZ⟩:=jE (zaC 0 zap (.slice none 0 0));rw [hZ] at zC hbz hZl hZ1;obtain ⟨qr,hqr1⟩:=jE (q+1);obtain ⟨qf,hqf1⟩:=jE (q+2);obtain ⟨qx,hqx1⟩:=jE (q+6);have hqr:qr≠0:=by omega
 have hqf:qf≠0:=by omega
 have hqx:qx≠0:=by omega
 have hqq:¬qf=qr:=by omega
 have hqle:∀j,j=qr∨j=qf→q≤j:=fun j e=>by rcases e with e | e <;> omega
 have nxr:¬One qr qx:=fun (e:qx=qr)=>by omega
 have ngr:¬One qr (q+5):=fun (e:q+5=qr)=>by omega
 obtain ⟨a2,o2,s2⟩:=zan hok Z 56 qr;obtain ⟨a3,o3,s3⟩:=zan o2 [.int .i64 0,.int .i64 0] 74 qf;rw [World.size_alloc] at a3 o3 s3;obtain ⟨rb,hrb⟩:=jE w.heap.size;rw [hrb] at a2 o2 s2 a3 o3 s3;obtain ⟨W1,hW1⟩:=jE ((w.alloc (.cells Z.toArray 56)).alloc (.cells #[.int .i64 0,.int .i64 0] 74));have hW1':(w.alloc (.cells Z.toArray 56)).alloc (.cells ([Value.int .i64 0,.int .i64 0]:List Value).toArray 74)=W1:=hW1;rw [hW1'] at a3 o3 s3;have NR:=newReader4 o3 (hv.kn (s2.trans s3)) (by omega) q;obtain ⟨va,vd,rfl,_⟩:=hv.form;have HZ:=jh5 zC hbz hZl hZ1 hZ;have hqc:=jh1 hqc;have X:=jh3 (a2.keep s3 jI) a3 (s2.trans s3);clear hok hv a2 o2 s2 a3 o3 s3 zC hbz hZl hZ1 hZ;go_enter func117,ntmps117;go_wp2_with (first | (refine zaa rfl (some 2) rfl 56 rfl HZ.out.1 ?_))
 (try simp only [World.size_alloc])
 (try rw [hrb])
 (try rw [hW1])
 refine NR.mono ?_;rintro e w2 ⟨p,rfl,c2,i2,s2,o2,_⟩;obtain ⟨ax,ox,sx⟩:=zan o2 Z 56 qx;obtain ⟨xb,hxb⟩:=jE w2.heap.size;rw [hxb] at ax ox sx;obtain ⟨W2,hW2⟩:=jE (w2.alloc (.cells Z.toArray 56));rw [hW2] at ax ox sx;have N1:=num4 ox (i2.kn sx) hq0;unfold NumQ at N1;have s2x:=s2.trans sx;have X2:=jh4 (X.out.1.keep s2x jI) (X.out.2.1.keep s2x jI) ax (X.out.2.2.trans s2x);clear NR X i2 s2 o2 ax ox sx s2x hW1';go_wp2_with (first | (refine zaa rfl (some 5) rfl 56 rfl HZ.out.1 ?_;rw [hxb];rw [hW2]));refine N1.mono ?_;rintro e w3 ⟨ht,a3,⟨f30,f31⟩,rfl,c3,i3,s3,o3,hht,-⟩;obtain ⟨xr,xf,xx,xs⟩:=X2.out;have xx3:=xx.keep s3 (show ¬qx=q by omega);rw [←HZ.out.2.2.2.2] at xx3;have y0:=xx3.get (i:=0) rfl;have yf:=xx3.fz o3 hqx 0;have xx4:At c3 (w3.setCell ⟨xb,0,none⟩ (.int .i64 ht)) xb qx (zaC ht zap (.slice none 0 0)):=xx3.setN (i:=0) (by rw [zaH _ rfl];omega) (.int .i64 ht);have s4:Step (One qx) c3 w3 c3 (w3.setCell ⟨xb,0,none⟩ (.int .i64 ht)):=(Step.refl (K:=One qx)).setCell (a:=⟨xb,0,none⟩) (.inr xx3.col) _;have o4:=o3.setCell ⟨xb,0,none⟩ (.int .i64 ht);have i4:=i3.keep s4 (show ¬q=qx by omega) (show ¬0=qx by omega);have xr4:=(xr.keep s3 (show ¬qr=q by omega)).keep s4 (show ¬qr=qx by omega);have xf4:=(xf.keep s3 (show ¬qf=q by omega)).keep s4 (show ¬qf=qx by omega);have xs4:Step (fun j=>q≤j) c w c3 (w3.setCell ⟨xb,0,none⟩ (.int .i64 ht)):=(xs.ofNo.trans (s3.mono fun j (e:j=q)=>by omega)).trans (s4.mono fun j (e:j=qx)=>by omega);obtain ⟨W4,hW4⟩:=jE (w3.setCell ⟨xb,0,none⟩ (.int .i64 ht));rw [hW4] at xx4 s4 o4 i4 xr4 xf4 xs4;have RH:=hash4 o4 i4 hq0;unfold ReadQ at RH;have X4:=jh4 xr4 xf4 xx4 xs4;have HT:=jh1 hht;clear N1 X2 i3 s3 o3 xr xf xx xs xx3 xx4 s4 o4 i4 xr4 xf4 xs4 hht;go_wp2_with fail
 (try rw [hW4])
 refine RH.mono ?_;rintro e w5 ⟨_,rfl,c5,a5,⟨f50,f51⟩,i5,s5,o5,y,hy,rfl⟩;obtain ⟨xr,xf,xx,xs⟩:=X4.out;have xx5:=xx.keep s5 (show ¬qx=q by omega);obtain ⟨aw,tw⟩:=At.seg (xs:=[.int .i64 ht]) (os:=bC zap) (zs:=[.slice none 0 0]) (us:=bC y) xx5 o5 hqx (by rw [zaf,zaf,hy];rfl);have aw:At c5 (w5.setCells xb 1 (bC y)) xb qx (zaC ht y (.slice none 0 0)):=aw;have tw:w5.there xb 1 (bC y).length:=tw;have s6:Step (One qx) c5 w5 c5 (w5.setCells xb 1 (bC y)):=Step.setCells (K:=One qx) (.inr xx5.col) _ _ _ Step.refl;have o6:=Ok.setCells (b:=xb) (bC y) 1 _ o5;have i6:=i5.keep s6 (show ¬q=qx by omega) (show ¬0=qx by omega);have xr6:=(xr.keep s5 (show ¬qr=q by omega)).keep s6 (show ¬qr=qx by omega);have xf6:=(xf.keep s5 (show ¬qf=q by omega)).keep s6 (show ¬qf=qx by omega);have xs6:=(xs.trans (s5.mono fun j (e:j=q)=>by omega)).trans (s6.mono fun j (e:j=qx)=>by omega);obtain ⟨Y,hY⟩:=jE (bC y);obtain ⟨W6,hW6⟩:=jE (w5.setCells xb 1 (bC y));rw [hW6] at aw s6 o6 i6 xr6 xf6 xs6;rw [hY] at hW6 tw ⊢;have hYl:Y.length=32:=by rw [←hY,zaf,hy]
 have T6:=jh4 (show w5.there xb 1 Y.toArray.size by simpa using tw) (show (prog.info? 51).map (·.size)=some Y.toArray.size by rw [zai];simp [hYl]) (show Y.toArray.all (·.oneCell')=true by rw [←hY];exact all_oneCell_toArray (zaD y)) hW6;have RS:=rest4 o6 i6;have X6:=jh5 aw xr6 xf6 xs6 i6;have HY:=jh1 hy;clear RH X4 i5 s5 o5 xr xf xx xs xx5 aw tw s6 o6 i6 xr6 xf6 xs6 hYl hW6 hY y0 yf hW4 hy;go_wp2_with (refine wpList_store_mid rfl 51 _ _ rfl xb 1 Y.toArray rfl rfl T6.out.1 T6.out.2.1 T6.out.2.2.1 ?_;rw [T6.out.2.2.2]);refine RS.mono ?_;rintro e w7 ⟨rx,rfl,sd,od⟩;obtain ⟨xx,xr,xf,xs,xi⟩:=X6.out;have N2:=num4 od (xi.kn sd) hq0;unfold NumQ at N2;have X7:=jh4 (xx.keep sd jI) (xr.keep sd jI) (xf.keep sd jI) (xs.trans sd.ofNo);clear RS X6 T6 xr xf xs xi xx sd od;go_wp2_with fail;refine N2.mono ?_;rintro e w8 ⟨n,a8,⟨f80,f81⟩,rfl,c8,i8,s8,o8,hn,-⟩;obtain ⟨atv,hatv⟩:=jE (wrap64 ((bs.length:Int)-rx));obtain ⟨xx,xr,xf,xs⟩:=X7.out;have xx8:=xx.keep s8 (show ¬qx=q by omega);have xr8:=xr.keep s8 (show ¬qr=q by omega);have xf8:=xf.keep s8 (show ¬qf=q by omega);have xs8:=xs.trans (s8.mono fun j (e:j=q)=>by omega);by_cases h64:(64:Int)<(n:Int)
 ·obtain ⟨t1,t2,t3,z0,z1,zf0,zf1,v1,v2,sE,oE,_⟩:=endQ zaw o8 xr8 HZ.out.2.2.1 xf8 hqr hqf hqq HZ.out.2.2.1 HZ.out.2.2.2.1 4 atv
  have FL:=jh7 t1 t2 t3 v1 v2 ((xs8.trans (sE.mono fun j (e:j=qr∨j=qf)=>hqle j e)).drop (K':=No) fun b _ (e:q≤c b)=>by have:=hqc.out b;omega) oE;have hbz:=HZ.out.2.1;clear N2 X7 i8 s8 o8 xr xf xs xx xx8 xr8 xf8 xs8 t1 t2 t3 v1 v2 sE oE;go_upto_region 8 with fail;refine wp_region_lit ?_;refine zaA rfl (some 28) rfl 56 #[] rfl Z (ps:=[]) (by simp) hbz ?_
  (try simp only [jS])
  go_wp2_with (first | (refine wpList_store_mid rfl 56 _ _ rfl rb 0 Z.toArray rfl rfl FL.out.1 FL.out.2.1 FL.out.2.2.1 ?_));exact bodyPost_ret (zak rfl _ _ rb (rb+1) Z _ _ _ rfl rfl FL.out.2.2.2.1 underlying56 rfl (by rw [zaw,HZ.out.2.2.1]) FL.out.2.2.2.2.1 underlying74 rfl zao) rfl ⟨_,4,atv,rfl,c8,⟨⟨0,zap,[]⟩,_,by rw [←HZ.out.2.2.2.2];rfl,rfl,⟨by decide,by decide⟩,by simp,Sl.nil _ _ _ _ _⟩,FL.out.2.2.2.2.2.1,FL.out.2.2.2.2.2.2⟩
 have hn64:n≤64:=by omega
 have X8:=jh6 xx8 xr8 xf8 xs8 i8 o8;clear N2 X7 i8 s8 o8 xr xf xs xx xx8 xr8 xf8 xs8;go_wp2;go_loopw [8] (fun vi wr=>∃(j:Nat) (cr:Col) (l:List Vot) (u:Value) (a:Nat) (f:Int×Int),j≤n∧vi=.int .i64 j∧At cr wr xb qx (zaC ht y u)∧Own TVot 106 cr (q+4) 0 wr u l∧l.length=j∧(At cr wr rb qr Z∧At cr wr (rb+1) qf [.int .i64 0,.int .i64 0])∧IsR4 cr q wr p bs a f∧Step (fun j=>q≤j) c w cr wr∧Ok cr wr) (fun vi _=>n-(intOf vi).toNat)
 case atStart=>
  obtain ⟨x1,x2,x3,x4,x5,x6⟩:=X8.out;exact ⟨0,c8,[],_,_,_,Nat.zero_le _,rfl,x1,Own.nil _ _ _ _ _ _,rfl,⟨x2,x3⟩,x5,x4,x6⟩
 case round=>
  obtain ⟨j,cr,l,u,a,⟨f0,f1⟩,hj,rfl,ac,ow,hl,⟨ar,af⟩,ir,sr,okr⟩:=hrel;obtain ⟨oa,oc,hform,_⟩:=ow.sl.form;rw [hl] at hform;subst hform;have HL:=jh1 hl;clear hl;by_cases hjn:j<n
  ·have N3:=num4 okr ir hq0
   unfold NumQ at N3;have hjni:(j:Int)<(n:Int):=by omega
   have Yv:=jh5 ac ow ar af sr;clear ac ow ar af ir sr okr X8;go_wp2_with fail;refine N3.mono ?_;rintro e w9 ⟨n2,a9,⟨f90,f91⟩,rfl,c9,i9,s9,o9,hn2,-⟩;obtain ⟨xc,xo,xr,xf,xs⟩:=Yv.out;obtain ⟨av,ov,sv⟩:=zan o9 [.int .i64 n2,.int .u64 0] 106 (q+3);obtain ⟨vb,hvb⟩:=jE w9.heap.size;rw [hvb] at av ov sv;have WD:=word4 ov (i9.kn sv) hq0;unfold ReadQ at WD;have X9:=jh6 ((xc.keep s9 (show ¬qx=q by omega)).keep sv jI) ((xo.keep s9 (show ¬q+4=q by omega) (show ¬0=q by omega)).kn sv) ((xf.keep s9 (show ¬qf=q by omega)).keep sv jI) ((xs.trans (s9.mono fun j (e:j=q)=>by omega)).trans sv.ofNo) av ((xr.keep s9 (show ¬qr=q by omega)).keep sv jI);obtain ⟨W9,hW9⟩:=jE (w9.alloc (.cells #[.int .i64 n2,.int .u64 0] 106));have hW9':w9.alloc (.cells ([Value.int .i64 n2,.int .u64 0]:List Value).toArray 106)=W9:=hW9;rw [hW9'] at WD X9;have HW9:=jh1 hW9;clear N3 Yv i9 s9 o9 xc xo xr xf xs av ov sv hW9 hW9';go_wp2_with fail
   (try rw [hvb])
   (try rw [HW9.out])
   refine WD.mono ?_;rintro e wA ⟨_,rfl,cA,aA,fA,iA,sA,oA,sg,hsig,rfl⟩;obtain ⟨xc,xo,xf,xs,xv,xr⟩:=X9.out;have xvA:=xv.keep sA (show ¬q+3=q by omega);have y1:=xvA.get (i:=1) rfl;have yf1:=xvA.fz oA (jz _) 1;have xvB:At cA (wA.setCell ⟨vb,1,none⟩ (.int .u64 sg)) vb (q+3) [.int .i64 n2,.int .u64 sg]:=xvA.setN (i:=1) (by simp) (.int .u64 sg);have sB:Step (One (q+3)) cA wA cA (wA.setCell ⟨vb,1,none⟩ (.int .u64 sg)):=(Step.refl (K:=One (q+3))).setCell (a:=⟨vb,1,none⟩) (.inr xvA.col) _;have oB:=oA.setCell ⟨vb,1,none⟩ (.int .u64 sg);have iB:=iA.keep sB (show ¬q=q+3 by omega) (show ¬0=q+3 by omega);have xcB:=(xc.keep sA (show ¬qx=q by omega)).keep sB (show ¬qx=q+3 by omega);have xoB:=(xo.keep sA (show ¬q+4=q by omega) (show ¬0=q by omega)).keep sB (show ¬q+4=q+3 by omega) (show ¬0=q+3 by omega);have xfB:=(xf.keep sA (show ¬qf=q by omega)).keep sB (show ¬qf=q+3 by omega);have xrB:=(xr.keep sA (show ¬qr=q by omega)).keep sB (show ¬qr=q+3 by omega);have xsB:=(xs.trans (sA.mono fun j (e:j=q)=>by omega)).trans (sB.mono fun j (e:j=q+3)=>by omega);obtain ⟨WB,hWB⟩:=jE (wA.setCell ⟨vb,1,none⟩ (.int .u64 sg));rw [hWB] at xvB sB oB iB xcB xoB xfB xrB xsB;have z0:=xvB.get (i:=0) rfl;have z1:=xvB.get (i:=1) rfl;have ys:=cm_slot HY.out xcB;obtain ⟨x1,x2,x3⟩:=zbE (T:=TVot) (x:=⟨n2,sg⟩) (vs:=[.int .i64 n2,.int .u64 sg]) (k2:=0) oB ⟨rfl,has_nat hn2,hsig⟩ 106;have on:=xoB.kn x3;have hq4:0≠q+4:=by omega
   have hm1:l.length + [(⟨n2,sg⟩:Vot)].length≤maxLen:=by rw [HL.out];simp [maxLen];omega
   have hm2:(l.length + [(⟨n2,sg⟩:Vot)].length)*16≤140737488355328:=by rw [HL.out];simp;omega
   have XB:=jh6 xcB xfB xsB iB x3 xrB;have hwj:IntKind.i64.wrap ((j:Int)+1)=((j+1:Nat):Int):=by rw [IntWalk.i64_in _ (by omega)];rfl
   have hll:l.length+1=j+1:=by rw [HL.out]
   have HLL:=jh1 hll;clear WD X9 iA sA oA xc xo xf xs xv xr xvA xvB sB oB iB xcB xoB xfB xrB xsB x3 hsig hll;go_wp2_with (at_builtin;refine zaq TVot x1 rfl _ _ 54 rfl 106 underlying54 infoVot3 rfl (by decide) rfl rfl on x2 hq4 hm1 hm2 ?_;rintro vC wC cC b1 b2 b3 -;obtain ⟨vaC,vcC,hvC,_⟩:=b1.sl.form;rw [List.length_append,show [(⟨n2,sg⟩:Vot)].length=1 from rfl,HLL.out] at hvC;subst hvC;have xrC:=(XB.out.1.keep XB.out.2.2.2.2.1 jI).keep b2 (show ¬qx=q+4 by omega);have ysC:=cm_slot HY.out xrC;have yfC:=xrC.fz b3 hqx 33;have XC:=jh4 b1 b2 b3 xrC;clear b1 b2 b3 xrC x1 x2 on ys);go_roundw
   case rel=>
    obtain ⟨b1,b2,b3,xrC⟩:=XC.out;obtain ⟨_,xf,xs,xi,x3,xr⟩:=XB.out
    have xrD:At cC (wC.setCell ⟨xb,33,none⟩ (.slice vaC (j+1) vcC)) xb qx (zaC ht y (.slice vaC (j+1) vcC)):=by
     have:=xrC.setN (i:=33) (by rw [zaH _ HY.out];omega) (.slice vaC (j+1) vcC)
     rwa [cm_set HY.out] at this
    have sD:Step (One qx) cC wC cC (wC.setCell ⟨xb,33,none⟩ (.slice vaC (j+1) vcC)):=(Step.refl (K:=One qx)).setCell (a:=⟨xb,33,none⟩) (.inr xrC.col) _;exact ⟨j+1,cC,_,_,_,_,by omega,by first | rfl | go_num,xrD,b1.keep sD (show ¬q+4=qx by omega) (show ¬0=qx by omega),by rw [List.length_append];exact HLL.out,⟨((xr.keep x3 jI).keep b2 (show ¬qr=q+4 by omega)).keep sD (show ¬qr=qx by omega),((xf.keep x3 jI).keep b2 (show ¬qf=q+4 by omega)).keep sD (show ¬qf=qx by omega)⟩,((xi.kn x3).keep b2 (show ¬q=q+4 by omega) (show ¬0=q+4 by omega)).keep sD (show ¬q=qx by omega) (show ¬0=qx by omega),((xs.trans x3.ofNo).trans (b2.mono fun j (e:j=q+4)=>by omega)).trans (sD.mono fun j (e:j=qx)=>by omega),b3.setCell _ _⟩
   case measure=>simp [intOf];omega
  ·have hjni:¬(j:Int)<(n:Int):=by omega
   have EN:=end4 okr ir;have hll:l.length≤64:=by rw [HL.out];omega
   have HC:=jh1 (show IsCmt (.agg (zaC ht y (.slice oa j oc)).toArray) (cr.turn (q+4) 0) wr from ⟨⟨ht,y,l⟩,.slice oa j oc,rfl,HY.out,has_nat HT.out,hll,by have:=(ow.turn (k:=0) (show 0≠q+4 by omega)).sl;exact this⟩);have Yv:=jh5 ac ow ar af sr;clear ac ow ar af ir sr okr X8;obtain ⟨g0,hg0⟩:=jE ((endF bs a (f0,f1)).1);obtain ⟨g1,hg1⟩:=jE ((endF bs a (f0,f1)).2);rw [hg0,hg1] at EN;obtain ⟨H,hH⟩:=jE (zaC ht y (.slice oa j oc));have HHl:=jh1 (show H.length=34∧(∀u∈H,u.oneCell'=true) by rw [←hH];exact ⟨zaH ht HY.out _,zbx (x:=⟨ht,y,l⟩) rfl⟩);have HH:=jh1 hH;go_wp2_with fail;refine EN.mono ?_;rintro e w5 ⟨rfl,c5,s5,o5⟩;obtain ⟨a6,o6,s6⟩:=zan o5 [.int .i64 g0,.int .i64 g1] 74 (q+5);obtain ⟨fb,hfb⟩:=jE w5.heap.size;rw [hfb] at a6 o6 s6;obtain ⟨W6,hW6⟩:=jE (w5.alloc (.cells #[.int .i64 g0,.int .i64 g1] 74));have hW6':w5.alloc (.cells ([Value.int .i64 g0,.int .i64 g1]:List Value).toArray 74)=W6:=hW6;rw [hW6'] at a6 o6 s6;have s56:=s5.trans s6;obtain ⟨xc,xo,xr,xf,xs⟩:=Yv.out;rw [hH] at xc;have X6:=jh7 (xr.keep s56 jI) (xf.keep s56 jI) (xc.keep s56 jI) a6 (xs.trans s56.ofNo) o6 (xo.kn s56);have h0:=a6.get (i:=0) rfl;have h1:=a6.get (i:=1) rfl;have hf0:=a6.fz o6 (show q+5≠0 by omega) 0;clear EN Yv s5 o5 a6 o6 s6 s56 hW6' xo xf xs xc xr hg0 hg1 hH HC hll;go_upto_if 52 with (fail)
   (try rw [hfb])
   (try rw [hW6])
   go_cut [] from 50 to 55 (fun wr=>∃cr g0 g1,At cr wr fb (q+5) [.int .i64 g0,.int .i64 g1]∧Step (One (q+5)) (c5.put fb (q+5)) W6 cr wr∧Ok cr wr)
   case first=>
    by_cases hg:g0=0
    ·subst hg
     have C:=check07 X6.out.2.2.2.2.2.1 ⟨ht,y,l⟩ HY.out X6.out.2.2.2.2.2.2.sl (by show l.length≤_;rw [HL.out];omega);rw [show cmC ⟨ht,y,l⟩ (.slice oa j oc)=H from HH.out] at C;obtain ⟨ck,hck⟩:=jE (zaI ⟨ht,y,l⟩);rw [hck] at C;clear hck;have XL:=jh2 X6.out.2.2.1.cells (show (prog.info? 56).map (·.size)=some H.length by rw [zaw,HHl.out.1]);go_wp2_with (first | (refine wpList_load_mid rfl 56 _ rfl xb 0 rfl H _ XL.out.1 underlying56 rfl XL.out.2 ?_));refine C.mono ?_;rintro e wA ⟨rfl,cA,sA,oA⟩;have agA:=X6.out.2.2.2.1.keep sA jI;have h0:=agA.get (i:=0) rfl;have hf0:=agA.fz oA (show q+5≠0 by omega) 0;have sB:Step (One (q+5)) cA wA cA (wA.setCell ⟨fb,0,none⟩ (.int .i64 ck)):=(Step.refl (K:=One (q+5))).setCell (a:=⟨fb,0,none⟩) (.inr agA.col) _;have R9:=jh3 (agA.setN (i:=0) (by simp) (.int .i64 ck)) (sA.ofNo.trans sB) (oA.setCell ⟨fb,0,none⟩ (.int .i64 ck));clear C sA oA agA sB;go_wp2;go_meet
     case rel=>exact ⟨cA,ck,g1,R9.out⟩
    ·have hgb:(g0==0)=false:=by simpa using hg
     go_wp2;go_meet
     case rel=>exact ⟨_,g0,g1,X6.out.2.2.2.1,Step.refl,X6.out.2.2.2.2.2.1⟩
   case rest=>
    obtain ⟨c9,g0,g1,ag9,s9,o9⟩:=hcut;have X9:=jh6 (X6.out.1.keep s9 (show ¬qr=q+5 by omega)) (X6.out.2.1.keep s9 (show ¬qf=q+5 by omega)) (X6.out.2.2.1.keep s9 (show ¬qx=q+5 by omega)) ag9 (X6.out.2.2.2.2.1.trans (s9.mono fun j (e:j=q+5)=>by omega)) o9;have XO:=jh1 (X6.out.2.2.2.2.2.2.keep s9 (show ¬q+4=q+5 by omega) (show ¬0=q+5 by omega));have h0:=ag9.get (i:=0) rfl;clear X6 ag9 s9 o9 h1 hf0;by_cases hg:g0=0
    ·subst hg
     have sd:Step No c9 wc c9 wc.drew:=Step.rf.drewN 1;have od:Ok c9 wc.drew:=X9.out.2.2.2.2.2.drewN 1;obtain ⟨t1,t2,t3,z0,z1,zf0,zf1,v1,v2,s2,o2,s1⟩:=endQ zaw od (X9.out.1.keep sd jI) HZ.out.2.2.1 (X9.out.2.1.keep sd jI) hqr hqf hqq HHl.out.1 HHl.out.2 0 g1;have axd:=X9.out.2.2.1.keep sd jI;have agd:=X9.out.2.2.2.1.keep sd jI;have ax1:=axd.keep s1 nxr;have ag1:=agd.keep s1 ngr;have sAll:Step No c w c9 _:=((X9.out.2.2.2.2.1.trans sd.ofNo).trans (s2.mono fun j (e:j=qr∨j=qf)=>hqle j e)).drop (K':=No) fun x _ (e:q≤c x)=>by have:=hqc.out x;omega
     have sAll2:Step (fun j=>q≤j) c w c9 _:=(X9.out.2.2.2.2.1.trans sd.ofNo).trans (s2.mono fun j (e:j=qr∨j=qf)=>hqle j e);have sAllT:=(sAll2.turn (q:=q+4) (k:=0) (show q≤q+4 by omega)).drop (K':=No) fun x _ (e:q≤c x)=>by have:=hqc.out x;omega
     have XT:=jh2 sAllT (((XO.out.kn sd).keep s2 (show ¬(q+4=qr∨q+4=qf) by omega) (show ¬(0=qr∨0=qf) by omega)).turn (k:=0) (show 0≠q+4 by omega)).sl;have FL:=jh8 t1 t2 t3 v1 v2 sAll o2 (show (prog.info? 56).map (·.size)=some H.length by rw [zaw,HHl.out.1]);have hiv:(prog.info? 56).map (·.size)=some H.length:=FL.out.2.2.2.2.2.2.2;have KK:(fun W:World=>(Instr.loadAt 56 (.pointer (some ⟨xb,0,none⟩))).run prog W=.ok (.agg H.toArray) W∧W.cell? ⟨fb,0,none⟩=some (.int .i64 0)∧W.cell? ⟨fb,1,none⟩=some (.int .i64 g1)) wc.drew:=⟨axd.ld (ty:=56) underlying56 rfl hiv,agd.get (i:=0) rfl,agd.get (i:=1) rfl⟩;have KR:(fun W:World=>(Instr.loadAt 56 (.pointer (some ⟨xb,0,none⟩))).run prog W=.ok (.agg H.toArray) W∧W.cell? ⟨fb,0,none⟩=some (.int .i64 0)∧W.cell? ⟨fb,1,none⟩=some (.int .i64 g1)) (wc.drew.setCells rb 0 H):=⟨ax1.ld (ty:=56) underlying56 rfl hiv,ag1.get (i:=0) rfl,ag1.get (i:=1) rfl⟩;clear sd od t1 t2 t3 v1 v2 s2 o2 s1 axd agd ax1 ag1 sAll sAll2 sAllT X9 XO hiv;go_wp2_with fail;refine zac (fun W=>(Instr.loadAt 56 (.pointer (some ⟨xb,0,none⟩))).run prog W=.ok (.agg H.toArray) W∧W.cell? ⟨fb,0,none⟩=some (.int .i64 0)∧W.cell? ⟨fb,1,none⟩=some (.int .i64 g1)) (fun i=>!([3]:List Nat).contains i) (by kernel_rfl) ?_;refine tk 0 _ 61 rfl rfl (Or.inl ⟨by rfl,fun W hW=>by obtain ⟨q0,q1,q2⟩:=hW;exact zaT 56 q0 (.tmp 5) rfl rfl⟩) KK ?_;refine tk3 1 _ 62 rfl rfl KK ?_;refine zab.one (i:=2) (by kernel_rfl) rfl (fun KQ hK=>?_);refine zar rfl 56 _ _ rfl rb 0 H.toArray rfl rfl FL.out.1 FL.out.2.1 FL.out.2.2.1 ?_;simp only [List.toList_toArray];refine hK.out _ _ (fun _=>KR) ?_;clear hK KQ
     (try simp only [jS])
     refine zab.one (i:=3) (by kernel_rfl) rfl (fun KQ hK=>?_);go_simp;refine hK.out _ _ (fun h=>absurd h (by decide)) ?_;clear hK KQ
     (try simp only [jS])
     refine zab.done (by kernel_rfl) ?_ _;go_wp2_with fail;obtain ⟨_,_,_,f4,f5,f6,f7,f8⟩:=FL.out;obtain ⟨f6t,f9⟩:=XT.out;exact bodyPost_ret (zak rfl _ _ rb (rb+1) H _ _ _ rfl rfl f4 underlying56 rfl f8 f5 underlying74 rfl zao) rfl ⟨_,0,g1,rfl,c9.turn (q+4) 0,⟨⟨ht,y,l⟩,.slice oa j oc,by rw [←HH.out];rfl,HY.out,has_nat HT.out,by show l.length≤64;rw [HL.out];omega,f9⟩,f6t,f7.turn (q:=q+4) (k:=0) (by omega)⟩
    ·have hgn:(g0 != 0)=true:=by simpa using hg
     clear hg;have sd:Step No c9 wc c9 wc.drew:=Step.rf.drewN 1;have od:Ok c9 wc.drew:=X9.out.2.2.2.2.2.drewN 1;obtain ⟨t1,t2,t3,z0,z1,zf0,zf1,v1,v2,s2,o2,s1⟩:=endQ zaw od (X9.out.1.keep sd jI) HZ.out.2.2.1 (X9.out.2.1.keep sd jI) hqr hqf hqq HZ.out.2.2.1 HZ.out.2.2.2.1 g0 g1;have axd:=X9.out.2.2.1.keep sd jI;have agd:=X9.out.2.2.2.1.keep sd jI;have ax1:=axd.keep s1 nxr;have ag1:=agd.keep s1 ngr;have sAll:Step No c w c9 _:=((X9.out.2.2.2.2.1.trans sd.ofNo).trans (s2.mono fun j (e:j=qr∨j=qf)=>hqle j e)).drop (K':=No) fun x _ (e:q≤c x)=>by have:=hqc.out x;omega
     have FL:=jh8 t1 t2 t3 v1 v2 sAll o2 (show (prog.info? 56).map (·.size)=some Z.length by rw [zaw,HZ.out.2.2.1]);have KK:(fun W:World=>W.cell? ⟨fb,0,none⟩=some (.int .i64 g0)∧W.cell? ⟨fb,1,none⟩=some (.int .i64 g1)) wc.drew:=⟨agd.get (i:=0) rfl,agd.get (i:=1) rfl⟩;have KR:(fun W:World=>W.cell? ⟨fb,0,none⟩=some (.int .i64 g0)∧W.cell? ⟨fb,1,none⟩=some (.int .i64 g1)) (wc.drew.setCells rb 0 Z):=⟨ag1.get (i:=0) rfl,ag1.get (i:=1) rfl⟩;have hbz:=HZ.out.2.1;clear sd od t1 t2 t3 v1 v2 s2 o2 s1 axd agd ax1 ag1 sAll X9;go_wp2_with fail;refine zac (fun W=>W.cell? ⟨fb,0,none⟩=some (.int .i64 g0)∧W.cell? ⟨fb,1,none⟩=some (.int .i64 g1)) (fun i=>!([3]:List Nat).contains i) (by kernel_rfl) ?_;refine tk 0 _ 59 rfl rfl (Or.inl ⟨by rfl,fun W hW=>by obtain ⟨q0,q1⟩:=hW;exact zbq 56 hbz #[] rfl rfl⟩) KK ?_;refine tk2 1 _ 60 rfl rfl KK ?_;refine zab.one (i:=2) (by kernel_rfl) rfl (fun KQ hK=>?_);refine zar rfl 56 _ _ rfl rb 0 Z.toArray rfl rfl FL.out.1 FL.out.2.1 FL.out.2.2.1 ?_;simp only [List.toList_toArray];refine hK.out _ _ (fun _=>KR) ?_;clear hK KQ
     (try simp only [jS])
     refine zab.one (i:=3) (by kernel_rfl) rfl (fun KQ hK=>?_);go_simp;refine hK.out _ _ (fun h=>absurd h (by decide)) ?_;clear hK KQ
     (try simp only [jS])
     refine zab.done (by kernel_rfl) ?_ _;go_wp2_with fail;obtain ⟨_,_,_,f4,f5,f6,f7,f8⟩:=FL.out;exact bodyPost_ret (zak rfl _ _ rb (rb+1) Z _ _ _ rfl rfl f4 underlying56 rfl f8 f5 underlying74 rfl zao) rfl ⟨_,g0,g1,rfl,c9,⟨⟨0,zap,[]⟩,_,by rw [←HZ.out.2.2.2.2];rfl,rfl,⟨by decide,by decide⟩,by simp,Sl.nil _ _ _ _ _⟩,f6,f7⟩
end
