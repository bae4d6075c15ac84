/- ServerReplies, part 08: lemmas, each with its own conditions. -/
import Derived.Test.YtgcobbapaaihiaaGreatSz07
set_option linter.all false
set_option maxHeartbeats 12800000
set_option maxRecDepth 100000
open Go.Proofs.Tryz
namespace Go.Proofs.YtgcobbapaaihiaaGreat
open Go.RowKit
def vB (v:Vld):List UInt8:=v.key++zay v.power.toNat
theorem vB_len:∀{l:List Vld},(∀x∈l,x.key.length=4)→(l.map vB).flatten.length≤13*l.length
 | [],_=>by simp
 | x::l,h=>by
  have h1:=vB_len (l:=l) fun y hy=>h y (by simp [hy]);have h2:=h x (by simp);have h3:=zae x.power.toNat;simp only [List.map_cons,List.flatten_cons,List.length_append,List.length_cons,vB];omega
theorem Sl.val {c:Col}{k k2:Nat}{w:World}{v:Value}{l:List Vld}(h:Sl TVal c k k2 w v l):∀x∈l,x.key.length=4∧IntKind.i64.has x.power:=by
 intro x hx;obtain ⟨i,hi⟩:=List.mem_iff_getElem?.1 hx
 rcases h with ⟨rfl,_⟩ | ⟨_,_,_,_,_,_,_,_,h5⟩
 ·simp at hi
 ·obtain ⟨vs,hr,_⟩:=h5 i x hi
  exact hr.2
section
variable {c:Col}{w:World}
theorem encodeV_ok (hok:Ok c w) {kx kx2:Nat}{v:Value}{l:List Vld}(hv:Sl TVal c kx kx2 w v l) (hc:zaJ l=0) (ky:Nat) :
  Calls prog 163 #[v] w fun r w'=>∃v',r=.returned (.tuple #[v',.int .i64 0])∧∃c',Sl zag c' ky 0 w' v' (encV l)∧Step No c w c' w'∧Ok c' w':=by
 obtain ⟨q,hq,hqc⟩:=hok.top (kx+kx2);have hq0:q≠0:=by omega
 obtain ⟨hlen0,hlen,hpow⟩:=checkV_ok hc;have C:=vcheck_any hok hv (by omega);rw [hc] at C;have hval:=hv.val;obtain ⟨g,off,cap,rfl,hcap,hcm⟩:=hv.some hlen0;have n0:∀{x},x<q→¬Two q (q+1) x:=fun hx h=>by rcases h with h | h <;> omega
 have HL:=jh3 hlen hpow hval;have X0:=jh1 hv;clear hv hok hc hlen hpow hval;go_enter func163,ntmps163;go_wp2_with fail;refine C.mono ?_;rintro e w1 ⟨rfl,c1,s1,o1⟩;have N:=zbn o1 1048576 (by omega) (by omega) q (q+1);have X1:=jh2 (X0.out.kn s1) s1;clear C s1 o1 X0;go_wp2_with fail;refine N.mono ?_;rintro e w2 ⟨rfl,c2,i2,s2,o2⟩;obtain ⟨p,hp⟩:=jE w1.heap.size;rw [hp] at i2 ⊢;have T:=num_any o2 i2 hq0 (jz _) (by omega) (by omega) (by simp) l.length (by have:=HL.out.1;omega);rw [zaB (by have:=zae l.length;simp;omega)] at T;have X2:=jh2 (X1.out.1.kn s2) (X1.out.2.trans s2);clear N i2 s2 o2 hp X1;go_wp2_with fail;refine T.mono ?_;rintro e w3 ⟨rfl,c3,i3,s3,o3⟩;have X3:=jh4 i3 (X2.out.1.keep s3 (n0 (by omega)) (n0 (by omega))) ((X2.out.2.ofNo).trans s3) o3;clear T i3 s3 o3 X2;go_wp2;go_loopw [24] (fun vi wr=>∃(i:Nat) (cr:Col),i≤l.length∧vi=.int .i64 i∧IsWr cr q (q+1) wr p 1048576 (zay l.length++((l.take i).map vB).flatten,0)∧Sl TVal cr kx kx2 wr (.slice (some ⟨g,off,none⟩) l.length cap) l∧Step (Two q (q+1)) c w cr wr∧Ok cr wr) (fun vi _=>l.length-(intOf vi).toNat)
 case atStart=>exact ⟨0,_,Nat.zero_le _,rfl,by simpa using X3.out.1,X3.out.2⟩
 case round=>
  clear X3;obtain ⟨i,cr,hi,rfl,iw,sl,st,ok⟩:=hrel;by_cases hlt:i<l.length
  ·obtain ⟨x,hx⟩:∃x,l[i]? = some x:=⟨l[i],by simp [hlt]⟩
   obtain ⟨vs,⟨rfl,hk4,hpw⟩,hcs⟩:=sl.at hx;have hp1:=HL.out.2.1 x (List.mem_of_getElem? hx)
   have hlen13:((l.take i).map vB).flatten.length≤832:=by
    have:=vB_len (l:=l.take i) (fun y hy=>(HL.out.2.2 y (List.mem_of_mem_take hy)).1);have h2:(l.take i).length≤64:=by rw [List.length_take];have:=HL.out.1;omega
    omega
   obtain ⟨W2,c2,hW2,a2,o2,s2,t1,t2,t3,t4⟩:=vnew ok hk4 (show q+2≠0 by omega);have hn9:=zae l.length;have KY:=key_any o2 (iw.kn s2) hq0 (jz _) (by omega) (by omega) (by simp only [List.length_append];omega) x.key hk4;rw [zaB (by simp only [List.length_append,hk4];omega)] at KY;have hKl:(bC x.key).length=4:=by rw [zaf,hk4]
   have hki:(prog.info? 91).map (·.size)=some (bC x.key).length:=by rw [zaK,hKl]
   have y4:=a2.get (i:=4) (u:=.int .i64 x.power) (by unfold valC;rw [List.getElem?_append_right (by rw [hKl];omega),hKl];rfl);have akc:=a2.pre.cells;obtain ⟨b2,hb2⟩:=jE wr.heap.size;rw [hb2] at hW2 a2 t1 y4 akc;obtain ⟨V,hV⟩:=jE (valC x);rw [hV] at hW2 a2 t1 t2 t3 t4 hcs;obtain ⟨KV,hKV⟩:=jE (bC x.key);rw [hKV] at KY hki akc;have SL:=jh7 hcs t4 t1 t2 t3 akc hki;have X2:=jh9 (sl.kn s2) (st.trans s2.ofNo) a2 hp1 hk4 hpw hlen13 hx hi;have hlt':(i:Int)<(l.length:Int):=by omega
   have hi64:(i:Int)<64:=by have:=HL.out.1;omega
   have hW:=jh1 hW2;clear hcs t1 t2 t3 t4 a2 o2 s2 iw sl st ok hV hk4 hpw hp1 hlen13 hn9 hKl hki akc hKV hx;go_wp2_with (first | (refine wpList_load_mid rfl 93 _ rfl g (off+i*5) rfl V _ SL.out.1 underlying93 rfl SL.out.2.1 ?_) | (refine wpList_store_mid rfl 93 _ _ rfl b2 0 V.toArray rfl rfl SL.out.2.2.1 SL.out.2.2.2.1 SL.out.2.2.2.2.1 ?_;rw [hW2]) | (refine wpList_load_mid rfl 91 _ rfl b2 0 rfl KV _ SL.out.2.2.2.2.2.1 underlying91 rfl SL.out.2.2.2.2.2.2 ?_));refine KY.mono ?_;rintro e1 w3 ⟨rfl,c3,i3,s3,o3⟩;have NM:=num_any o3 i3 hq0 (jz _) (by omega) (by omega) (by have:=X2.out.2.2.2.2.2.2.1;have:=X2.out.2.2.2.2.1;have:=zae l.length;simp only [List.length_append];omega) x.power.toNat (by have:=X2.out.2.2.2.1;omega);rw [zaB (by have:=X2.out.2.2.2.2.2.2.1;have:=X2.out.2.2.2.2.1;have:=zae l.length;have:=zae x.power.toNat;simp only [List.length_append];omega),Int.toNat_of_nonneg (by have:=X2.out.2.2.2.1;omega)] at NM;have X3:=jh2 (X2.out.1.keep s3 (n0 (by omega)) (n0 (by omega))) (X2.out.2.1.trans s3);have z4:w3.cell? ⟨b2,4,none⟩=some (.int .i64 x.power):=(s3.cell X2.out.2.2.1.lt (by rw [X2.out.2.2.1.col];intro h;rcases h with h | h <;> omega)).trans y4;clear KY i3 s3 o3 y4;go_wp2_with fail;refine NM.mono ?_;rintro e1 w4 ⟨rfl,c4,i4,s4,o4⟩;have X4:=jh4 i4 (X3.out.1.keep s4 (n0 (by omega)) (n0 (by omega))) (X3.out.2.trans s4) o4;clear NM i4 s4 o4 z4;go_wp2;go_roundw
   case rel=>
    refine ⟨i+1,c4,by omega,by go_num,?_,X4.out.2⟩
    have e1:zay l.length++((l.take (i+1)).map vB).flatten=zay l.length++((l.take i).map vB).flatten++x.key++zay x.power.toNat:=by
     rw [List.take_add_one,X2.out.2.2.2.2.2.2.2.1];simp [vB]
    rw [e1];exact X4.out.1
   case measure=>simp [intOf];omega
  ·have hil:i=l.length:=by omega
   subst hil;rw [List.take_length] at iw;have hE:zay l.length++(l.map vB).flatten=encV l:=rfl;rw [hE] at iw
   have hle:(encV l).length≤1000000000:=by
    have:=vB_len (l:=l) (fun y hy=>(HL.out.2.2 y hy).1);have:=HL.out.1;have:=zae l.length;rw [←hE,List.length_append];omega
   have D:=done_any ok iw rfl hle ky;have X3:=jh1 (st.drop (K':=No) fun b _ e=>by have:=hqc b;rcases e with e | e <;> omega);clear iw sl st ok;go_wp2_with fail;refine D.mono ?_;rintro e1 w4 ⟨v',rfl,c4,p4,s4,o4⟩;have X4:=jh3 p4 (X3.out.trans s4) o4;clear D p4 s4 o4;go_wp2;go_ret2;exact ⟨v',rfl,c4,X4.out⟩
end
def atC (last:Int) (v:Vot):Int:=if v.at_<0∨64≤v.at_ then 3 else if v.at_≤last then 9 else 0
theorem goC_cons (last:Int) (v:Vot) (r:List Vot):goC last (v::r)=if atC last v≠0 then atC last v else goC v.at_ r:=by
 rw [goC];unfold atC;by_cases h1:v.at_<0∨64≤v.at_
 ·rw [if_pos h1,if_pos h1];rfl
 ·rw [if_neg h1,if_neg h1]
  by_cases h2:v.at_≤last
  ·rw [if_pos h2,if_pos h2];rfl
  ·rw [if_neg h2,if_neg h2];rfl
def nextC (last:Int) (v:Vot):Int:=if atC last v=0 then v.at_ else last
def cmC (x:Cmt) (vv:Value):List Value:=.int .i64 x.height::(bC x.hash++[vv])
theorem zaw:(prog.info? 56).map (·.size)=some 34:=by kernel_rfl
section
variable {c:Col}{w:World}
theorem rises1_any (hok:Ok c w) {lb k:Nat}(hk0:k≠0) (last:Int) (hx:At c w lb k [.int .i64 last]) (v:Vot) :
  Calls prog 198 #[.agg #[.int .i64 v.at_,.int .u64 v.sig],.pointer (some ⟨lb,0,none⟩)] w fun r w'=>r=.returned (.int .i64 (atC last v)) ∧
   ∃c',At c' w' lb k [.int .i64 (nextC last v)]∧Step (One k) c w c' w'∧Ok c' w':=by
 obtain ⟨p,s⟩:=v;have s0:Step No c w c (w.alloc (.cells #[.int .i64 p,.int .u64 s] 106)):=Step.refl.alloc _;have x0:=hx.keep s0 jI;have o0:=hok.alloc (.cells #[.int .i64 p,.int .u64 s] 106);have y0:=x0.c0;have yf:=x0.fz o0 hk0 0;have hlw:=hx.lt;have X:=jh3 x0 (s0.ofNo (K:=One k)) o0;have XO:=jh2 hx hok;clear s0 x0 o0 hx hok;by_cases h1:p<0
 ·have ha:atC last ⟨p,s⟩=3:=by unfold atC;rw [if_pos (.inl h1)]
  have hb:nextC last ⟨p,s⟩=last:=by unfold nextC;rw [ha];rfl
  rw [ha,hb];go_enter func198,ntmps198;go_wp2;go_ret;exact ⟨rfl,c,X.out⟩
 ·by_cases h2:64≤p
  ·have ha:atC last ⟨p,s⟩=3:=by unfold atC;rw [if_pos (.inr h2)]
   have hb:nextC last ⟨p,s⟩=last:=by unfold nextC;rw [ha];rfl
   rw [ha,hb];go_enter func198,ntmps198;go_wp2;go_ret;exact ⟨rfl,c,X.out⟩
  ·by_cases h3:p≤last
   ·have ha:atC last ⟨p,s⟩=9:=by unfold atC;rw [if_neg (by simp;omega),if_pos h3]
    have hb:nextC last ⟨p,s⟩=last:=by unfold nextC;rw [ha];rfl
    rw [ha,hb];go_enter func198,ntmps198;go_wp2;go_ret;exact ⟨rfl,c,X.out⟩
   ·have ha:atC last ⟨p,s⟩=0:=by unfold atC;rw [if_neg (by simp;omega),if_neg h3]
    have hb:nextC last ⟨p,s⟩=p:=by unfold nextC;rw [ha];rfl
    rw [ha,hb];go_enter func198,ntmps198;go_wp2;go_ret;exact ⟨rfl,c,XO.out.1.set0.keep (Step.al _) jI,((Step.refl (K:=One k)).setCell (a:=⟨lb,0,none⟩) (.inr XO.out.1.col) _).alloc _,(XO.out.2.setCell _ _).alloc _⟩
theorem rises_any (hok:Ok c w) (k:Nat) :
  Calls prog 173 #[] w fun r w'=>r=.returned (.func (.func 198) #[] #[.pointer (some ⟨w.heap.size,0,none⟩)]) ∧
   ∃c',At c' w' w.heap.size k [.int .i64 (-1)]∧Step No c w c' w'∧Ok c' w':=by
 obtain ⟨a,o,s⟩:=zan hok [.int .i64 (-1)] 3 k;have hmf:∀(fn:Fn) (first cap:Array Value) (w:World),(Instr.makeFunc fn first cap).run prog w=.ok (.func fn first cap) w:=fun _ _ _ _=>rfl;have X:=jh3 a s o;clear a s o hok;go_enter func173,ntmps173;go_wp2;go_ret;exact ⟨rfl,_,X.out⟩
theorem zaS {x:Cmt}(hh:x.hash.length=32) (vv:Value):(cmC x vv).length=34:=by simp [cmC,zaf,hh]
theorem cmC_get {c:Col}{w:World}{b k:Nat}{x:Cmt}(hh:x.hash.length=32) {vv:Value}(a:At c w b k (cmC x vv)):w.cell? ⟨b,0,none⟩=some (.int .i64 x.height)∧zas w b 1 (bC x.hash)∧w.cell? ⟨b,33,none⟩=some vv:=by
 have h0:zas w b 0 ([.int .i64 x.height]++(bC x.hash++[vv])):=a.cells;have h1:=(zam h0).2;refine ⟨a.get (i:=0) rfl,(zam h1).1,?_⟩;have h2:=(zam h1).2 0 vv rfl;simpa [zaf,hh] using h2
theorem ccheck_any (hok:Ok c w) (x:Cmt) (hh:x.hash.length=32) {vv:Value}{kx k2:Nat}(hv:Sl TVot c kx k2 w vv x.votes) (hn:x.votes.length≤1000000000) :
  Calls prog 143 #[.agg (cmC x vv).toArray] w fun r w'=>r=.returned (.int .i64 (zaI x))∧∃c',Step No c w c' w'∧Ok c' w':=by
 obtain ⟨va,vc,rfl,_⟩:=hv.form;have a0:=At.new0 hok (cmC x (.slice va x.votes.length vc)) 56;have o0:=hok.alloc (.cells (cmC x (.slice va x.votes.length vc)).toArray 56);have s0:Step No c w c (w.alloc (.cells (cmC x (.slice va x.votes.length vc)).toArray 56)):=Step.refl.alloc _;obtain ⟨y0,_,y33⟩:=cmC_get hh a0;obtain ⟨B,hB⟩:=jE (cmC x (.slice va x.votes.length vc));rw [hB] at a0 o0 s0 y0 y33 ⊢;obtain ⟨xb,hxb⟩:=jE w.heap.size;rw [hxb] at a0 y0 y33;obtain ⟨W0,hW0⟩:=jE (w.alloc (.cells B.toArray 56));rw [hW0] at a0 o0 s0 y0 y33;by_cases h1:x.height<1
 ·have hc:zaI x=3:=by unfold zaI;rw [if_pos (.inl h1)]
  rw [hc];have X:=jh2 s0 o0;clear hv hok a0 o0 s0 hc;go_enter func143,ntmps143;go_wp2;go_ret;exact ⟨rfl,c,X.out⟩
 by_cases h2:1073741824<x.height
 ·have hc:zaI x=3:=by unfold zaI;rw [if_pos (.inr h2)]
  rw [hc];have X:=jh2 s0 o0;clear hv hok a0 o0 s0 hc;go_enter func143,ntmps143;go_wp2;go_ret;exact ⟨rfl,c,X.out⟩
 have h12:¬(x.height<1∨1073741824<x.height):=by omega
 by_cases h64:64<x.votes.length
 ·have hc:zaI x=4:=by unfold zaI;rw [if_neg h12,if_pos h64]
  have h64':(64:Int)<(x.votes.length:Int):=by omega
  rw [hc];have X:=jh2 s0 o0;clear hv hok a0 o0 s0 hc;go_enter func143,ntmps143;go_wp2;go_ret;exact ⟨rfl,c,X.out⟩
 have hc:zaI x=goC (-1) x.votes:=by unfold zaI;rw [if_neg h12,if_neg h64]
 rw [hc];obtain ⟨q,hq,hqc⟩:=o0.top (kx+k2);have hq0:q≠0:=by omega
 have h64':¬(64:Int)<(x.votes.length:Int):=by omega
 have RS:=rises_any o0 q;obtain ⟨l,hl⟩:=jE x.votes;rw [hl] at h64 h64' y33 hv hn hc ⊢;have X0:=jh4 (hv.kn s0) s0 a0 h64;clear hv hok a0 o0 s0 hc hl;go_enter func143,ntmps143;go_wp2_with fail
 (try rw [hW0])
 refine RS.mono ?_;rintro e w1 ⟨rfl,c1,a1,s1,o1⟩;obtain ⟨lb,hlb⟩:=jE W0.heap.size;rw [hlb] at a1 ⊢;have z33:w1.cell? ⟨xb,33,none⟩=some (.slice va l.length vc):=(s1.cell X0.out.2.2.1.lt jI).trans y33;have X1:=jh4 a1 (X0.out.1.kn s1) (X0.out.2.1.trans s1) o1;clear RS a1 s1 o1 y0 y33;go_wp2;go_loopw [25] (fun vi wr=>∃(i:Nat) (cr:Col) (last:Int),i≤l.length∧vi=.int .i64 i∧goC (-1) l=goC last (l.drop i)∧At cr wr lb q [.int .i64 last]∧Sl TVot cr kx k2 wr (.slice va l.length vc) l∧Step (Hi q q) c w cr wr∧Ok cr wr) (fun vi _=>l.length-(intOf vi).toNat)
 case atStart=>exact ⟨0,_,-1,Nat.zero_le _,rfl,by rw [List.drop_zero],X1.out.1,X1.out.2.1,X1.out.2.2.1.ofNo,X1.out.2.2.2⟩
 case round=>
  clear X1;obtain ⟨i,cr,last,hi,rfl,hgo,ax,sl,st,ok⟩:=hrel;by_cases hlt:i<l.length
  ·obtain ⟨u,hu⟩:∃u,l[i]? = some u:=⟨l[i],by simp [hlt]⟩
   have hdr:l.drop i=u::l.drop (i+1):=by rw [List.drop_eq_getElem_cons hlt];rw [List.getElem?_eq_getElem hlt] at hu;injection hu with hu;rw [hu]
   obtain ⟨g,off,cap,e,hcap,hcm⟩:=sl.some (by omega);injection e with e1 _ e2;subst e1 e2;obtain ⟨vs,⟨rfl,hat,hsg⟩,hcs⟩:=sl.at hu;have y0:=hcs.get 0 rfl;have y1:=hcs.get 1 rfl;simp only [TVot,Nat.add_zero] at y0 y1;have hgo2:goC (-1) l=if atC last u≠0 then atC last u else goC u.at_ (l.drop (i+1)):=by rw [hgo,hdr,goC_cons]
   have s2:Step No cr wr cr (wr.alloc (.cells #[.int .i64 u.at_,.int .u64 u.sig] 106)):=Step.refl.alloc _;have R1:=rises1_any (ok.alloc _) hq0 last (ax.keep s2 jI) u;obtain ⟨e,he⟩:=jE (atC last u);rw [he] at R1 hgo2;have X2:=jh4 (sl.kn s2) (st.trans s2.ofNo) hgo2 he;have hlt':(i:Int)<(l.length:Int):=by omega
   obtain ⟨p,s⟩:=u;clear hcs s2 ax sl st ok hgo hgo2 hdr hu he hsg;by_cases he0:e=0
   ·subst he0
    go_wp2_with fail;refine R1.mono ?_;rintro e1 w3 ⟨rfl,c3,a3,s3,o3⟩;have X3:=jh4 a3 (X2.out.1.keep s3 (show ¬kx=q by omega) (show ¬k2=q by omega)) (X2.out.2.1.hi s3 (.inr (Nat.le_refl _))) o3;clear R1 a3 s3 o3;go_wp2;go_roundw
    case rel=>
     have hnx:nextC last ⟨p,s⟩=p:=by unfold nextC;rw [X2.out.2.2.2];rfl
     refine ⟨i+1,c3,p,by omega,by go_num,?_,by rw [←hnx];exact X3.out.1,X3.out.2⟩;rw [X2.out.2.2.1,if_neg (by simp)]
    case measure=>simp [intOf];omega
   ·have he0':(e != 0)=true:=by rw [bne_iff_ne];exact he0
    go_wp2_with fail;refine R1.mono ?_;rintro e1 w3 ⟨rfl,c3,a3,s3,o3⟩;have X3:=jh2 ((X2.out.2.1.hi s3 (.inr (Nat.le_refl _))).drop (K':=No) fun b _ e=>by have:=hqc b;rcases e with e | e <;> omega) o3;clear R1 a3 s3 o3;go_wp2;go_ret;exact ⟨by rw [X2.out.2.2.1,if_pos he0];rfl,c3,X3.out⟩
  ·have hil:i=l.length:=by omega
   subst hil;rw [List.drop_length] at hgo;have X3:=jh2 (st.drop (K':=No) fun b _ e=>by have:=hqc b;rcases e with e | e <;> omega) ok;have HG:=jh1 (show goC (-1) l=0 by rw [hgo];rfl);clear ax sl st ok hgo;go_wp2;go_ret;exact ⟨by rw [HG.out];rfl,cr,X3.out⟩
end
def cB (v:Vot):List UInt8:=zay v.at_.toNat++wordB v.sig
theorem cB_len:∀l:List Vot,(l.map cB).flatten.length≤17*l.length
 | []=>by simp
 | x::l=>by
  have h1:=cB_len l;have h3:=zae x.at_.toNat;simp only [List.map_cons,List.flatten_cons,List.length_append,List.length_cons,cB,wordB,zbr];omega
theorem Sl.vot {c:Col}{k k2:Nat}{w:World}{v:Value}{l:List Vot}(h:Sl TVot c k k2 w v l):∀x∈l,IntKind.i64.has x.at_∧x.sig<18446744073709551616:=by
 intro x hx;obtain ⟨i,hi⟩:=List.mem_iff_getElem?.1 hx
 rcases h with ⟨rfl,_⟩ | ⟨_,_,_,_,_,_,_,_,h5⟩
 ·simp at hi
 ·obtain ⟨vs,hr,_⟩:=h5 i x hi
  exact hr.2
def encC0 (x:Cmt):List UInt8:=zay x.height.toNat++x.hash++zay x.votes.length
theorem encC_eq (x:Cmt):encC0 x++(x.votes.map cB).flatten=encC x:=by simp [encC0,encC];rfl
theorem encC0_len {x:Cmt}(hh:x.hash.length=32):(encC0 x).length≤50:=by
 have:=zae x.height.toNat;have:=zae x.votes.length;simp [encC0];omega
section
variable {c:Col}{w:World}
theorem encodeC_ok (hok:Ok c w) (x:Cmt) (hh:x.hash.length=32) {vv:Value}{kx kx2:Nat}(hv:Sl TVot c kx kx2 w vv x.votes) (hc:zaI x=0) (ky:Nat) :
  Calls prog 247 #[.agg (cmC x vv).toArray] w fun r w'=>∃v',r=.returned (.tuple #[v',.int .i64 0])∧∃c',Sl zag c' ky 0 w' v' (encC x)∧Step No c w c' w'∧Ok c' w':=by
 obtain ⟨q,hq,hqc⟩:=hok.top (kx+kx2);have hq0:q≠0:=by omega
 obtain ⟨hh1,hh2,hlen,hat⟩:=checkC_ok hc;obtain ⟨va,vc,rfl,_⟩:=hv.form;have a0:=At.new0 hok (cmC x (.slice va x.votes.length vc)) 56;have o0:=hok.alloc (.cells (cmC x (.slice va x.votes.length vc)).toArray 56);have s0:Step No c w c (w.alloc (.cells (cmC x (.slice va x.votes.length vc)).toArray 56)):=Step.refl.alloc _;have C:=ccheck_any o0 x hh (hv.kn s0) (by omega);rw [hc] at C;have hsig:=hv.vot;have hl:=zaS hh (.slice va x.votes.length vc);have hE0:=encC0_len hh;have n0:∀{x},x<q→¬Two q (q+1) x:=fun hx h=>by rcases h with h | h <;> omega
 obtain ⟨xb,hxb⟩:=jE w.heap.size;rw [hxb] at a0;have Y0:∀c' w',At c' w' xb 0 (cmC x (.slice va x.votes.length vc))→_:=fun c' w' (a:At c' w' xb 0 (cmC x (.slice va x.votes.length vc)))=>cmC_get hh a;obtain ⟨B,hB⟩:=jE (cmC x (.slice va x.votes.length vc));rw [hB] at a0 o0 s0 C hl Y0 ⊢;have hi:Hid ((prog.info? 56).map (·.size)=some B.length):=jh1 (by rw [zaw,hl]);have HL:=jh7 hlen hat hsig hh hh1 hh2 hE0;have HY:=jh1 Y0;have X0:=jh3 (hv.kn s0) a0 s0;have e1:((x.height.toNat:Nat):Int)=x.height:=Int.toNat_of_nonneg (by omega);have HE:=jh1 e1;clear hv hok hc hlen hat hsig a0 o0 s0 hl hE0 Y0 hB hh1 hh2 hh e1;go_enter func247,ntmps247;go_wp2_with (refine wpList_load_mid rfl 56 _ rfl xb 0 rfl B _ X0.out.2.1.cells underlying56 rfl hi.out ?_);refine C.mono ?_;rintro e w1 ⟨rfl,c1,s1,o1⟩;have N:=zbn o1 1048576 (by omega) (by omega) q (q+1);have X1:=jh3 (X0.out.1.kn s1) (X0.out.2.1.keep s1 jI) (X0.out.2.2.trans s1);clear C s1 o1 X0;go_wp2_with fail;refine N.mono ?_;rintro e w2 ⟨rfl,c2,i2,s2,o2⟩;obtain ⟨p,hp⟩:=jE w1.heap.size;rw [hp] at i2 ⊢;have T:=num_any o2 i2 hq0 (jz _) (by omega) (by omega) (by simp) x.height.toNat (by have:=HL.out.2.2.2.2.2.1;omega);rw [zaB (by have:=zae x.height.toNat;simp;omega),HE.out,List.nil_append] at T;have a2:=X1.out.2.1.keep s2 jI;have z0:=(HY.out _ _ a2).1;have X2:=jh3 (X1.out.1.kn s2) a2 (X1.out.2.2.trans s2);clear N i2 s2 o2 hp X1 a2;go_wp2_with fail;refine T.mono ?_;rintro e w3 ⟨rfl,c3,i3,s3,o3⟩;have a3:=X2.out.2.1.keep s3 (n0 (by omega));have HH:=hash_any o3 i3 hq0 (jz _) (by omega) (by omega) (by have:=zae x.height.toNat;dsimp only;omega) x.hash HL.out.2.2.2.1;rw [zaB (by have:=zae x.height.toNat;have:=HL.out.2.2.2.1;omega)] at HH;have hcH:=(HY.out _ _ a3).2.1;have hHl:(bC x.hash).length=32:=by rw [zaf,HL.out.2.2.2.1]
 have hHi:(prog.info? 51).map (·.size)=some (bC x.hash).length:=by rw [zai,hHl]
 obtain ⟨V,hV⟩:=jE (bC x.hash);rw [hV] at HH hcH hHi;have X3:=jh5 (X2.out.1.keep s3 (n0 (by omega)) (n0 (by omega))) a3 (X2.out.2.2.ofNo.trans s3) hcH hHi;clear T i3 s3 o3 X2 a3 z0 hcH hHl hHi hV;go_wp2_with (refine wpList_load_mid rfl 51 _ rfl xb 1 rfl V _ X3.out.2.2.2.1 underlying51 rfl X3.out.2.2.2.2 ?_);refine HH.mono ?_;rintro e w4 ⟨rfl,c4,i4,s4,o4⟩;have a4:=X3.out.2.1.keep s4 (n0 (by omega));have NV:=num_any o4 i4 hq0 (jz _) (by omega) (by omega) (by have:=zae x.height.toNat;have:=HL.out.2.2.2.1;simp only [List.length_append];omega) x.votes.length (by have:=HL.out.1;omega);rw [zaB (by have:=zae x.height.toNat;have:=zae x.votes.length;have:=HL.out.2.2.2.1;simp only [List.length_append];omega)] at NV;have z33:=(HY.out _ _ a4).2.2;have X4:=jh3 (X3.out.1.keep s4 (n0 (by omega)) (n0 (by omega))) a4 (X3.out.2.2.1.trans s4);clear HH i4 s4 o4 X3 a4;go_wp2_with fail;refine NV.mono ?_;rintro e w5 ⟨rfl,c5,i5,s5,o5⟩;have a5:=X4.out.2.1.keep s5 (n0 (by omega));have y33:=(HY.out _ _ a5).2.2;have X5:=jh4 i5 (X4.out.1.keep s5 (n0 (by omega)) (n0 (by omega))) (X4.out.2.2.trans s5) o5;clear NV i5 s5 o5 X4 a5 z33 HY;obtain ⟨l,hl⟩:=jE x.votes;have HVl:=jh1 hl;go_wp2_with fail
 have X6:RowKit.Hid (IsWr c5 q (q+1) w5 p 1048576 (encC0 x,0)∧Sl TVot c5 kx kx2 w5 (.slice va l.length vc) l∧Step (Two q (q+1)) c w c5 w5∧Ok c5 w5):=jh1 (by
  obtain ⟨i5,l5,s5,o5⟩:=X5.out;rw [hl] at l5
  exact ⟨i5,l5,s5,o5⟩)
 have hll:l.length≤64:=by have:=HL.out.1;rw [hl] at this;exact this
 have hvl:∀v∈l,(0≤v.at_∧v.at_<64)∧v.sig<18446744073709551616:=fun v hv=>⟨HL.out.2.1 v (by rw [hl];exact hv),(HL.out.2.2.1 v (by rw [hl];exact hv)).2⟩;have HLL:=jh2 hll hvl;clear hl hll hvl X5 y33;go_loopw [34] (fun vi wr=>∃(i:Nat) (cr:Col),i≤l.length∧vi=.int .i64 i∧IsWr cr q (q+1) wr p 1048576 (encC0 x++((l.take i).map cB).flatten,0)∧Sl TVot cr kx kx2 wr (.slice va l.length vc) l∧Step (Two q (q+1)) c w cr wr∧Ok cr wr) (fun vi _=>l.length-(intOf vi).toNat)
 case atStart=>exact ⟨0,_,Nat.zero_le _,rfl,by simpa using X6.out.1,X6.out.2⟩
 case round=>
  clear X6;obtain ⟨i,cr,hi,rfl,iw,sl,st,ok⟩:=hrel;by_cases hlt:i<l.length
  ·obtain ⟨u,hu⟩:∃u,l[i]? = some u:=⟨l[i],by simp [hlt]⟩
   obtain ⟨g,off,cap,e,hcap,hcm⟩:=sl.some (by omega);injection e with e1 _ e2;subst e1 e2;obtain ⟨vs,⟨rfl,hat,hsg⟩,hcs⟩:=sl.at hu;have y0:=hcs.get 0 rfl;have y1:=hcs.get 1 rfl;simp only [TVot,Nat.add_zero] at y0 y1;have hp1:=HLL.out.2 u (List.mem_of_getElem? hu)
   have hlen17:((l.take i).map cB).flatten.length≤1088:=by
    have:=cB_len (l.take i);have h2:(l.take i).length≤64:=by rw [List.length_take];have:=HLL.out.1;omega
    omega
   have hE0:=HL.out.2.2.2.2.2.2;have s2:Step No cr wr cr (wr.alloc (.cells #[.int .i64 u.at_,.int .u64 u.sig] 106)):=Step.refl.alloc _;have a2:=At.new0 ok [.int .i64 u.at_,.int .u64 u.sig] 106;have NM:=num_any (ok.alloc (.cells #[.int .i64 u.at_,.int .u64 u.sig] 106)) (iw.kn s2) hq0 (jz _) (by omega) (by omega) (by simp only [List.length_append];omega) u.at_.toNat (by omega);rw [zaB (by have:=zae u.at_.toNat;simp only [List.length_append];omega),Int.toNat_of_nonneg (by omega)] at NM;have X2:=jh6 (sl.kn s2) (st.trans s2.ofNo) a2 hp1 hlen17 hu;have hlt':(i:Int)<(l.length:Int):=by omega
   have hi64:(i:Int)<64:=by have:=HLL.out.1;omega
   obtain ⟨bx,hbx⟩:=jE wr.heap.size;rw [hbx] at X2;clear hcs s2 a2 iw sl st ok hp1 hlen17 hE0 hat hsg;go_wp2_with fail
   (try rw [hbx])
   refine NM.mono ?_;rintro e1 w7 ⟨rfl,c7,i7,s7,o7⟩;have a7:=X2.out.2.2.1.keep s7 (n0 (by omega));have y7:=a7.get (i:=1) rfl;have WD:=wword_any o7 i7 hq0 (jz _) (by omega) (by omega) (by have:=HL.out.2.2.2.2.2.2;have:=X2.out.2.2.2.2.1;have:=zae u.at_.toNat;simp only [List.length_append];omega) u.sig X2.out.2.2.2.1.2;rw [zaB (by have:=HL.out.2.2.2.2.2.2;have:=X2.out.2.2.2.2.1;have:=zae u.at_.toNat;simp only [List.length_append,wordB,zbr];omega)] at WD;have X7:=jh2 (X2.out.1.keep s7 (n0 (by omega)) (n0 (by omega))) (X2.out.2.1.trans s7);clear NM i7 s7 o7 a7;go_wp2_with fail;refine WD.mono ?_;rintro e1 w8 ⟨rfl,c8,i8,s8,o8⟩;have X8:=jh4 i8 (X7.out.1.keep s8 (n0 (by omega)) (n0 (by omega))) (X7.out.2.trans s8) o8;clear WD i8 s8 o8 y7;go_wp2;go_roundw
   case rel=>
    refine ⟨i+1,c8,by omega,by go_num,?_,X8.out.2⟩
    have e1:encC0 x++((l.take (i+1)).map cB).flatten=encC0 x++((l.take i).map cB).flatten++zay u.at_.toNat++wordB u.sig:=by
     rw [List.take_add_one,X2.out.2.2.2.2.2];simp [cB]
    rw [e1];exact X8.out.1
   case measure=>simp [intOf];omega
  ·have hil:i=l.length:=by omega
   subst hil;rw [List.take_length] at iw;have hE:encC0 x++(l.map cB).flatten=encC x:=by rw [←encC_eq,HVl.out]
   rw [hE] at iw
   have hle:(encC x).length≤1000000000:=by
    have:=cB_len l;have:=HLL.out.1;have:=HL.out.2.2.2.2.2.2;rw [←hE,List.length_append];omega
   have D:=done_any ok iw rfl hle ky;have X3:=jh1 ((st.drop (K':=No) fun b _ e=>by have:=hqc b;rcases e with e | e <;> omega));clear iw sl st ok;go_wp2_with fail;refine D.mono ?_;rintro e1 w8 ⟨v',rfl,c8,p8,s8,o8⟩;have X8:=jh3 p8 (X3.out.trans s8) o8;clear D p8 s8 o8;go_wp2;go_ret2;exact ⟨v',rfl,c8,X8.out⟩
end
theorem ptrI:(prog.info? 212).map (·.size)=some 1:=by kernel_rfl
theorem index4 (a b c d:Addr) (W:World) :
  (Instr.index 213 (.agg #[.pointer (some a),.pointer (some b),.pointer (some c),.pointer (some d)]) (.int .i64 0)).run prog W=.ok (.pointer (some a)) W ∧
  (Instr.index 213 (.agg #[.pointer (some a),.pointer (some b),.pointer (some c),.pointer (some d)]) (.int .i64 1)).run prog W=.ok (.pointer (some b)) W ∧
  (Instr.index 213 (.agg #[.pointer (some a),.pointer (some b),.pointer (some c),.pointer (some d)]) (.int .i64 2)).run prog W=.ok (.pointer (some c)) W ∧
  (Instr.index 213 (.agg #[.pointer (some a),.pointer (some b),.pointer (some c),.pointer (some d)]) (.int .i64 3)).run prog W=.ok (.pointer (some d)) W:=by
 have hs:(sizeOf 212).run prog W=.ok 1 W:=by
  cases hq:prog.info? 212 with
  | none=>have:=ptrI;rw [hq] at this;cases this
  | some i=>
   have:i.size=1:=by have:=ptrI;rw [hq] at this;simpa using this
   simp [sizeOf,typeInfo,hq,this]
 have hu:=run_underlying underlying213 W;have hu2:=run_underlying underlying212 W;refine ⟨?_,?_,?_,?_⟩ <;> simp [Instr.index,asIntOf,hu,hu2,part,isAgg,hs,Value.cells]
section
variable {c:Col}{w:World}
theorem encodeH_ok (hok:Ok c w) (h:Hdr) (hw:h.Wf) (hc:zaL h=0) (kx:Nat) :
  Calls prog 194 #[.agg (zaz h).toArray] w fun r w'=>∃v,r=.returned (.tuple #[v,.int .i64 0])∧∃c',Sl zag c' kx 0 w' v (zbB h)∧Step No c w c' w'∧Ok c' w':=by
 obtain ⟨k1,hk1,hk1c⟩:=hok.spare 0;obtain ⟨k2,hk2,hk2c⟩:=hok.spare k1;have k10:k1≠0:=by omega
 have k20:k2≠0:=by omega
 have k21:k2≠k1:=by omega
 have n0:¬Two k1 k2 0:=fun h=>by rcases h with h | h <;> omega
 have a0:=At.new0 hok (zaz h) 53;have o0:=hok.alloc (.cells (zaz h).toArray 53);have s0:Step No c w c (w.alloc (.cells (zaz h).toArray 53)):=Step.refl.alloc _;have C:=check_any o0 h hw;rw [hc] at C;obtain ⟨hn,hh,ht⟩:=checkH_ok hc;simp only [zav,timeB,Bool.and_eq_true,decide_eq_true_eq] at hh ht;have hnl:h.name.length≤32:=by simp only [nameB,Bool.and_eq_true,decide_eq_true_eq] at hn;exact hn.1.2
 have hl:=zaj hw;have hE0:=encH0_len hc;obtain ⟨b1,hb1⟩:=jE w.heap.size;rw [hb1] at a0;have HD:∀{c' w'},At c' w' b1 0 (zaz h)→_:=fun {c'} {w'} (a:At c' w' b1 0 (zaz h))=>hdr_at hw a.cells;have Y0:∀{c' w'},At c' w' b1 0 (zaz h)→w'.cell? ⟨b1,0,none⟩=some (.string ⟨h.name.toArray⟩)∧w'.cell? ⟨b1,1,none⟩=some (.int .i64 h.height)∧w'.cell? ⟨b1,2,none⟩=some (.int .i64 h.time):=fun a=>⟨a.get (i:=0) rfl,a.get (i:=1) rfl,a.get (i:=2) rfl⟩;obtain ⟨B,hB⟩:=jE (zaz h);rw [hB] at a0 o0 s0 C hl HD Y0 ⊢;have hi:Hid ((prog.info? 53).map (·.size)=some B.length):=jh1 (by rw [zat,hl]);have HA:=jh6 a0 s0 @HD @Y0 hk1c hk2c;have HK:=jh5 hw hnl hh ht hE0;have e1:((h.height.toNat:Nat):Int)=h.height:=Int.toNat_of_nonneg (by omega);have e2:((h.time.toNat:Nat):Int)=h.time:=Int.toNat_of_nonneg (by omega);have HE:=jh2 e1 e2;clear a0 o0 s0 hl hok hB hc hn hh ht hnl hE0 HD Y0 hk1c hk2c e1 e2 hw;go_enter func194,ntmps194;go_wp2_with (refine wpList_load_mid rfl 53 _ rfl b1 0 rfl B _ HA.out.1.cells underlying53 rfl hi.out ?_);refine C.mono ?_;rintro e w1 ⟨rfl,c1,s1,o1⟩;have N:=zbn o1 65536 (by omega) (by omega) k1 k2;have X1:=jh2 s1 o1;clear C s1 o1;go_wp2_with fail;refine N.mono ?_;rintro e w2 ⟨rfl,c2,i2,s2,o2⟩;obtain ⟨p,hp⟩:=jE w1.heap.size;rw [hp] at i2 ⊢;have A2:=(HA.out.1.keep X1.out.1 jI).keep s2 jI;have S2:Step (Two k1 k2) c w c2 w2:=((HA.out.2.1.trans X1.out.1).trans s2).ofNo;have T:=text_any o2 i2 k10 k20 k21 (by omega) (by simp) h.name (by have:=HK.out.2.1;omega);rw [zaB (by have:=zae h.name.length;have:=HK.out.2.1;simp;omega)] at T;have z0:=(HA.out.2.2.2.1 A2).1;have X2:=jh2 A2 S2;clear N i2 s2 o2 A2 S2 hp;go_wp2_with fail;refine T.mono ?_;rintro e w3 ⟨rfl,c3,i3,s3,o3⟩;have A3:=X2.out.1.keep s3 n0;have S3:=X2.out.2.trans s3;have T2:=num_any o3 i3 k10 k20 k21 (by omega) (by have:=zae h.name.length;have:=HK.out.2.1;simp;omega) h.height.toNat (by have:=HK.out.2.2.1;omega);rw [zaB (by have:=zae h.name.length;have:=zae h.height.toNat;have:=HK.out.2.1;simp;omega),HE.out.1] at T2;have z1:=(HA.out.2.2.2.1 A3).2.1;have X3:=jh2 A3 S3;clear T i3 s3 o3 A3 S3 z0;go_wp2_with fail;refine T2.mono ?_;rintro e w4 ⟨rfl,c4,i4,s4,o4⟩;have A4:=X3.out.1.keep s4 n0;have S4:=X3.out.2.trans s4;have T3:=num_any o4 i4 k10 k20 k21 (by omega) (by have:=zae h.name.length;have:=zae h.height.toNat;have:=HK.out.2.1;simp;omega) h.time.toNat (by have:=HK.out.2.2.2.1;omega);rw [zaB (by have:=zae h.name.length;have:=zae h.height.toNat;have:=zae h.time.toNat;have:=HK.out.2.1;simp;omega),HE.out.2] at T3;have z2:=(HA.out.2.2.2.1 A4).2.2;have X4:=jh2 A4 S4;clear T2 i4 s4 o4 A4 S4 z1;go_wp2_with fail;refine T3.mono ?_;rintro e w5 ⟨rfl,c5,i5,s5,o5⟩;have HS:=hashes_any o5 b1;have X5:=jh4 i5 (X4.out.1.keep s5 n0) (X4.out.2.trans s5) o5;clear T3 i5 s5 o5 z2;go_wp2_with fail;refine HS.mono ?_;rintro e w6 ⟨rfl,c6,s6,o6⟩;have X6:=jh4 (X5.out.1.kn s6) (X5.out.2.1.keep s6 jI) (X5.out.2.2.1.trans s6.ofNo) o6;clear HS s6 o6;go_wp2;go_loopw [31] (fun vi wr=>∃(i:Nat) (cr:Col),i≤4∧vi=.int .i64 i∧IsWr cr k1 k2 wr p 65536 (encH0 h++((hashL h).take i).flatten,0)∧At cr wr b1 0 B∧Step (Two k1 k2) c w cr wr∧Ok cr wr) (fun vi _=>4-(intOf vi).toNat)
 case atStart=>exact ⟨0,c6,by omega,rfl,by simpa [encH0] using X6.out.1,X6.out.2.1,X6.out.2.2.1,X6.out.2.2.2⟩
 case round=>
  obtain ⟨i,cr,hi4,rfl,iw,ah,st,ok⟩:=hrel;have D:=HA.out.2.2.1 ah
  have hlen:((encH0 h++((hashL h).take i).flatten).length:Int)+32≤65536:=by
   have w1:=HK.out.1
   have:((hashL h).take i).flatten.length≤128:=by
    have e:=flat_le (hashL h) i;simp only [hashL,List.flatten_cons,List.flatten_nil,List.length_append,List.length_nil,w1.prev,w1.vals,w1.next,w1.app] at e;exact e
   have:=HK.out.2.2.2.2;simp only [List.length_append];omega
  rcases (by omega:i=0∨i=1∨i=2∨i=3∨i=4) with rfl | rfl | rfl | rfl | rfl
  ·have HH:=hash_any ok iw k10 k20 k21 (by omega) (by dsimp only;omega) h.prev HK.out.1.prev
   rw [zaB (by rw [HK.out.1.prev];exact hlen)] at HH;have hbl:(bC h.prev).length=32:=by rw [zaf,HK.out.1.prev]
   have HC:=D.1;obtain ⟨V,hV⟩:=jE (bC h.prev);rw [hV] at HH hbl HC;have hix:=fun W=>(index4 ⟨b1,3,none⟩ ⟨b1,35,none⟩ ⟨b1,67,none⟩ ⟨b1,99,none⟩ W).1;have HX:=jh4 ah st HC (show (prog.info? 51).map (·.size)=some V.length by rw [zai,hbl]);clear iw ah st ok D HC hbl hV hlen;go_wp2_with (refine wpList_load_mid rfl 51 _ rfl b1 3 rfl V _ HX.out.2.2.1 underlying51 rfl HX.out.2.2.2 ?_);refine HH.mono ?_;rintro e w7 ⟨rfl,c7,i7,s7,o7⟩;have X7:=jh3 i7 s7 o7;clear HH i7 s7 o7;go_wp2;go_roundw
   case rel=>
    obtain ⟨i7,s7,o7⟩:=X7.out;exact ⟨1,c7,by omega,by first | rfl | go_num,by simpa [hashL] using i7,HX.out.1.keep s7 n0,HX.out.2.1.trans s7,o7⟩
   case measure=>simp [intOf]
  ·have HH:=hash_any ok iw k10 k20 k21 (by omega) (by dsimp only;omega) h.vals HK.out.1.vals
   rw [zaB (by rw [HK.out.1.vals];exact hlen)] at HH;have hbl:(bC h.vals).length=32:=by rw [zaf,HK.out.1.vals]
   have HC:=D.2.1;obtain ⟨V,hV⟩:=jE (bC h.vals);rw [hV] at HH hbl HC;have hix:=fun W=>(index4 ⟨b1,3,none⟩ ⟨b1,35,none⟩ ⟨b1,67,none⟩ ⟨b1,99,none⟩ W).2.1;have HX:=jh4 ah st HC (show (prog.info? 51).map (·.size)=some V.length by rw [zai,hbl]);clear iw ah st ok D HC hbl hV hlen;go_wp2_with (refine wpList_load_mid rfl 51 _ rfl b1 35 rfl V _ HX.out.2.2.1 underlying51 rfl HX.out.2.2.2 ?_);refine HH.mono ?_;rintro e w7 ⟨rfl,c7,i7,s7,o7⟩;have X7:=jh3 i7 s7 o7;clear HH i7 s7 o7;go_wp2;go_roundw
   case rel=>
    obtain ⟨i7,s7,o7⟩:=X7.out;exact ⟨2,c7,by omega,by first | rfl | go_num,by simpa [hashL] using i7,HX.out.1.keep s7 n0,HX.out.2.1.trans s7,o7⟩
   case measure=>simp [intOf]
  ·have HH:=hash_any ok iw k10 k20 k21 (by omega) (by dsimp only;omega) h.next HK.out.1.next
   rw [zaB (by rw [HK.out.1.next];exact hlen)] at HH;have hbl:(bC h.next).length=32:=by rw [zaf,HK.out.1.next]
   have HC:=D.2.2.1;obtain ⟨V,hV⟩:=jE (bC h.next);rw [hV] at HH hbl HC;have hix:=fun W=>(index4 ⟨b1,3,none⟩ ⟨b1,35,none⟩ ⟨b1,67,none⟩ ⟨b1,99,none⟩ W).2.2.1;have HX:=jh4 ah st HC (show (prog.info? 51).map (·.size)=some V.length by rw [zai,hbl]);clear iw ah st ok D HC hbl hV hlen;go_wp2_with (refine wpList_load_mid rfl 51 _ rfl b1 67 rfl V _ HX.out.2.2.1 underlying51 rfl HX.out.2.2.2 ?_);refine HH.mono ?_;rintro e w7 ⟨rfl,c7,i7,s7,o7⟩;have X7:=jh3 i7 s7 o7;clear HH i7 s7 o7;go_wp2;go_roundw
   case rel=>
    obtain ⟨i7,s7,o7⟩:=X7.out;exact ⟨3,c7,by omega,by first | rfl | go_num,by simpa [hashL] using i7,HX.out.1.keep s7 n0,HX.out.2.1.trans s7,o7⟩
   case measure=>simp [intOf]
  ·have HH:=hash_any ok iw k10 k20 k21 (by omega) (by dsimp only;omega) h.app HK.out.1.app
   rw [zaB (by rw [HK.out.1.app];exact hlen)] at HH;have hbl:(bC h.app).length=32:=by rw [zaf,HK.out.1.app]
   have HC:=D.2.2.2;obtain ⟨V,hV⟩:=jE (bC h.app);rw [hV] at HH hbl HC;have hix:=fun W=>(index4 ⟨b1,3,none⟩ ⟨b1,35,none⟩ ⟨b1,67,none⟩ ⟨b1,99,none⟩ W).2.2.2;have HX:=jh4 ah st HC (show (prog.info? 51).map (·.size)=some V.length by rw [zai,hbl]);clear iw ah st ok D HC hbl hV hlen;go_wp2_with (refine wpList_load_mid rfl 51 _ rfl b1 99 rfl V _ HX.out.2.2.1 underlying51 rfl HX.out.2.2.2 ?_);refine HH.mono ?_;rintro e w7 ⟨rfl,c7,i7,s7,o7⟩;have X7:=jh3 i7 s7 o7;clear HH i7 s7 o7;go_wp2;go_roundw
   case rel=>
    obtain ⟨i7,s7,o7⟩:=X7.out;exact ⟨4,c7,by omega,by first | rfl | go_num,by simpa [hashL] using i7,HX.out.1.keep s7 n0,HX.out.2.1.trans s7,o7⟩
   case measure=>simp [intOf]
  ·rw [encH_eq] at iw
   have hle:(zbB h).length≤1000000000:=by
    rw [←encH_eq];have:=hlen;omega
   have DN:=done_any ok iw rfl hle kx;have X8:=jh1 st;clear iw ah st ok D hlen;go_wp2_with fail;refine DN.mono ?_;rintro e w7 ⟨v,rfl,c7,sl7,s7,o7⟩;have X7:=jh3 sl7 s7 o7;clear DN sl7 s7 o7;go_wp2;go_ret2;obtain ⟨sl7,s7,o7⟩:=X7.out;exact ⟨v,rfl,c7,sl7,(X8.out.trans s7.ofNo).own2 HA.out.2.2.2.2.1 HA.out.2.2.2.2.2,o7⟩
end
