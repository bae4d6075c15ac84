/- ServerReplies, part 38: lemmas, each with its own conditions. -/
import Derived.Test.YtgcobbapaaihiaaGreatSz36
set_option linter.all false
set_option maxHeartbeats 12800000
set_option maxRecDepth 100000
open Go.Proofs.Tryz
namespace Go.Proofs.YtgcobbapaaihiaaGreat
open Go.RowKit
theorem cmp_self:∀a:List UInt8,Go.Lib.compareBytes a a=0
 | []=>rfl
 | x::a=>by simp only [Go.Lib.compareBytes];rw [if_neg (by simp),if_neg (by simp)];exact cmp_self a
theorem cmp_at:∀(j:Nat) (a b:List UInt8) (x y:UInt8),a.take j=b.take j→a[j]? = some x→b[j]? = some y→x.toNat≠y.toNat→(Go.Lib.compareBytes a b<0↔x.toNat<y.toNat)
 | 0,a,b,x,y,_,hx,hy,hne=>by
  rcases a with _ | ⟨x',a⟩
  ·simp at hx
  rcases b with _ | ⟨y',b⟩
  ·simp at hy
  simp only [List.getElem?_cons_zero,Option.some.injEq] at hx hy;subst hx hy;simp only [Go.Lib.compareBytes];by_cases h1:x'<y'
  ·rw [if_pos h1];have:x'.toNat<y'.toNat:=h1;constructor
   ·intro _;exact this
   ·intro _;decide
  ·have h1':¬x'.toNat<y'.toNat:=h1
   have h2:y'<x':=by show y'.toNat<x'.toNat;omega
   rw [if_neg h1,if_pos h2];constructor
   ·intro h;exact absurd h (by decide)
   ·intro h;exact absurd h h1'
 | j+1,a,b,x,y,ht,hx,hy,hne=>by
  rcases a with _ | ⟨x',a⟩
  ·simp at hx
  rcases b with _ | ⟨y',b⟩
  ·simp at hy
  simp only [List.getElem?_cons_succ] at hx hy;simp only [List.take_succ_cons,List.cons.injEq] at ht;obtain ⟨rfl,ht⟩:=ht;simp only [Go.Lib.compareBytes];rw [if_neg (by simp),if_neg (by simp)];exact cmp_at j a b x y ht hx hy hne
section
variable {c:Col}{w:World}
theorem less05 (hok:Ok c w) {a b:List UInt8}(ha:a.length=4) (hb:b.length=4) :
  Calls prog 180 #[.agg (bC a).toArray,.agg (bC b).toArray] w fun r w'=>r=.returned (.bool (decide (Go.Lib.compareBytes a b<0)))∧∃c',Step No c w c' w'∧Ok c' w':=by
 obtain ⟨a1,o1,s1⟩:=zan hok (bC a) 91 1;obtain ⟨a2,o2,s2⟩:=zan o1 (bC b) 91 1;rw [World.size_alloc] at a2 o2 s2;have a1':=a1.kn s2;have s12:=s1.trans s2;obtain ⟨p,hp⟩:=jE w.heap.size;rw [hp] at a1' a2 o2 s2 s12;obtain ⟨LA,hLA⟩:=jE (bC a);obtain ⟨LB,hLB⟩:=jE (bC b);obtain ⟨W2,hW2⟩:=jE ((w.alloc (.cells (bC a).toArray 91)).alloc (.cells (bC b).toArray 91));rw [hW2] at a1' a2 o2 s12;rw [hLA,hLB] at hW2 ⊢;have H:=jh4 a1' a2 o2 s12;have iA:Hid (LA.length=4∧(∀v∈LA,v.oneCell'=true)):=jh1 ⟨by rw [←hLA,zaf,ha],by rw [←hLA];exact zaD a⟩;have hla:LA.length=4:=iA.out.1;have hlb:LB.length=4:=by rw [←hLB,zaf,hb]
 clear hok a1 o1 s1 a2 o2 s2 a1' s12 hLA hLB;go_enter func180,ntmps180;go_wp2_with fail
 (try simp only [World.size_alloc])
 (try rw [hp])
 (try rw [hW2])
 go_loopw [5] (fun vi wr=>∃j n:Nat,j≤4∧vi=.int .i64 j∧a.take j=b.take j∧wr=W2.drewN n) (fun vi _=>4-(intOf vi).toNat)
 case atStart=>exact ⟨0,0,Nat.zero_le _,rfl,rfl,rfl⟩
 case round=>
  obtain ⟨j,n,hj,rfl,hab,rfl⟩:=hrel;by_cases hlt:j<4
  ·obtain ⟨x,hx⟩:∃x,a[j]? = some x:=⟨a[j],by simp [hlt,ha]⟩
   obtain ⟨y,hy⟩:∃y,b[j]? = some y:=⟨b[j],by simp [hlt,hb]⟩;have k1:W2.cell? ⟨p,j,none⟩=some (.int .u8 x.toNat):=H.out.1.get (bC_get hx);have k2:W2.cell? ⟨p+1,j,none⟩=some (.int .u8 y.toNat):=H.out.2.1.get (bC_get hy);have KK:(fun W:World=>W.cell? ⟨p,j,none⟩=some (.int .u8 x.toNat)∧W.cell? ⟨p+1,j,none⟩=some (.int .u8 y.toNat)) (W2.drewN n).drew:=⟨k1,k2⟩;have hj0:(0:Int)≤(j:Int):=by omega
   have hj4:(j:Int)<4:=by omega
   by_cases hne:x.toNat=y.toNat
   ·have hbn:((x.toNat:Int) != (y.toNat:Int))=false:=by rw [hne];simp
    have HT:=jh1 (show a.take (j+1)=b.take (j+1) by rw [List.take_add_one,List.take_add_one,hx,hy,hab,UInt8.toNat_inj.1 hne]);clear hab hx hy;go_wp2_with fail;refine zac (fun W=>W.cell? ⟨p,j,none⟩=some (.int .u8 x.toNat)∧W.cell? ⟨p+1,j,none⟩=some (.int .u8 y.toNat)) (fun _=>true) (by kernel_rfl) ?_;refine tk2 0 _ 10 rfl rfl KK ?_;refine tk2 1 _ 11 rfl rfl KK ?_;refine tk2 2 _ 12 rfl rfl KK ?_;refine tk2 3 _ 13 rfl rfl KK ?_;refine tk2 4 _ 14 rfl rfl KK ?_;refine tk2 5 _ 15 rfl rfl KK ?_;refine tk2 6 _ 16 rfl rfl KK ?_;refine zab.done (by kernel_rfl) ?_ _;go_wp2;go_roundw
    case rel=>exact ⟨j+1,n+1,by omega,by go_num,HT.out,rfl⟩
    case measure=>simp [intOf];omega
   ·have hbn:((x.toNat:Int) != (y.toNat:Int))=true:=by simp;omega
    have HT:=jh1 (cmp_at j a b x y hab hx hy hne);have KK2:(fun W:World=>W.cell? ⟨p,j,none⟩=some (.int .u8 x.toNat)∧W.cell? ⟨p+1,j,none⟩=some (.int .u8 y.toNat)) (W2.drewN n).drew.drew:=⟨k1,k2⟩;clear hab hx hy;go_wp2_with fail;refine zac (fun W=>W.cell? ⟨p,j,none⟩=some (.int .u8 x.toNat)∧W.cell? ⟨p+1,j,none⟩=some (.int .u8 y.toNat)) (fun _=>true) (by kernel_rfl) ?_;refine tk2 0 _ 10 rfl rfl KK ?_;refine tk2 1 _ 11 rfl rfl KK ?_;refine tk2 2 _ 12 rfl rfl KK ?_;refine tk2 3 _ 13 rfl rfl KK ?_;refine tk2 4 _ 14 rfl rfl KK ?_;refine tk2 5 _ 15 rfl rfl KK ?_;refine tk2 6 _ 16 rfl rfl KK ?_;refine zab.done (by kernel_rfl) ?_ _;go_wp2_with fail;refine zac (fun W=>W.cell? ⟨p,j,none⟩=some (.int .u8 x.toNat)∧W.cell? ⟨p+1,j,none⟩=some (.int .u8 y.toNat)) (fun _=>true) (by kernel_rfl) ?_;refine tk2 0 _ 17 rfl rfl KK2 ?_;refine tk2 1 _ 18 rfl rfl KK2 ?_;refine tk2 2 _ 19 rfl rfl KK2 ?_;refine tk2 3 _ 20 rfl rfl KK2 ?_;refine tk2 4 _ 21 rfl rfl KK2 ?_;refine tk2 5 _ 22 rfl rfl KK2 ?_;refine tk2 6 _ 23 rfl rfl KK2 ?_;refine zab.one (i:=7) (by kernel_rfl) rfl (fun KQ hK=>?_);go_simp;refine hK.out _ _ (fun _=>KK2) ?_;clear hK KQ
    (try simp only [jS])
    refine zab.done (by kernel_rfl) ?_ _;go_wp2;go_ret;exact ⟨by (congr 2;simp only [HT.out];simp),_,H.out.2.2.2.drewN _,H.out.2.2.1.drewN _⟩
  ·have hj4:j=4:=by omega
   subst hj4
   have HT:=jh1 (show Go.Lib.compareBytes a b=0 by
    rw [List.take_of_length_le (by omega),List.take_of_length_le (by omega)] at hab
    rw [hab];exact cmp_self b)
   clear hab;go_wp2;go_ret;exact ⟨by rw [HT.out];rfl,_,H.out.2.2.2.drewN _,H.out.2.2.1.drewN _⟩
end
def prevO (l:List Vld):Nat→Option (List UInt8)
 | 0=>none
 | i+1=>(l[i]?).map (·.key)
theorem info_keyQ:(prog.info? 91).map (·.size)=some 4:=by kernel_rfl
section
variable {c:Col}{w:World}
theorem check05 (hok:Ok c w) {kx k2:Nat}{v:Value}{l:List Vld}(hv:Sl TVal c kx k2 w v l) (hn:l.length≤1000000000) :
  Calls prog 152 #[v] w fun r w'=>r=.returned (.int .i64 (zaJ l))∧∃c',Step No c w c' w'∧Ok c' w':=by
 by_cases h0:l.length=0
 ·obtain ⟨va,vc,rfl,_⟩:=hv.form
  have hc:zaJ l=6:=by unfold zaJ;rw [if_pos h0]
  have h0':(l.length:Int)=0:=by omega
  rw [hc];clear hv;go_enter func152,ntmps152;go_wp2;go_ret;exact ⟨rfl,c,Step.refl,hok⟩
 have h0':¬(l.length:Int)=0:=by omega
 by_cases h64:64<l.length
 ·obtain ⟨va,vc,rfl,_⟩:=hv.form
  have hc:zaJ l=4:=by unfold zaJ;rw [if_neg h0,if_pos h64]
  have h64':(64:Int)<(l.length:Int):=by omega
  rw [hc];clear hv;go_enter func152,ntmps152;go_wp2;go_ret;exact ⟨rfl,c,Step.refl,hok⟩
 have hc:zaJ l=goV 1 4611686018427387904 none l:=by unfold zaJ;rw [if_neg h0,if_neg h64]
 rw [hc];have h64':¬(64:Int)<(l.length:Int):=by omega
 obtain ⟨g,off,cap,e,hcap,hcm⟩:=hv.some (by omega);subst e;have X0:=jh2 hv hok;clear hok hc hv;go_enter func152,ntmps152;go_wp2;go_loopw [3] (fun vi wr=>∃(i:Nat) (cr:Col),i≤l.length∧vi=.int .i64 i∧goV 1 4611686018427387904 none l=goV 1 4611686018427387904 (prevO l i) (l.drop i)∧Sl TVal cr kx k2 wr (.slice (some ⟨g,off,none⟩) l.length cap) l∧Step No c w cr wr∧Ok cr wr) (fun vi _=>l.length-(intOf vi).toNat)
 case atStart=>exact ⟨0,c,Nat.zero_le _,rfl,rfl,X0.out.1,Step.refl,X0.out.2⟩
 case round=>
  clear X0;obtain ⟨i,cr,hi,rfl,hgo,sl,st,ok⟩:=hrel;by_cases hlt:i<l.length
  ·obtain ⟨x,hx⟩:∃x,l[i]? = some x:=⟨l[i],by simp [hlt]⟩
   have hdr:l.drop i=x::l.drop (i+1):=by rw [List.drop_eq_getElem_cons hlt];rw [List.getElem?_eq_getElem hlt] at hx;injection hx with hx;rw [hx]
   have hnx:prevO l (i+1)=some x.key:=by show (l[i]?).map (·.key)=_;rw [hx];rfl
   obtain ⟨e,he⟩:=jE (atV (prevO l i) 1 4611686018427387904 x);have hgo2:goV 1 4611686018427387904 none l=if e≠0 then e else goV 1 4611686018427387904 (prevO l (i+1)) (l.drop (i+1)):=by rw [hgo,hdr,goV,he,hnx]
   have hk4:x.key.length=4:=by obtain ⟨vs,⟨rfl,hk4,_⟩,_⟩:=sl.at hx;exact hk4
   have hxc:∀{c':Col} {w':World},Step No cr wr c' w'→w'.cell? ⟨g,off+i*5+4,none⟩=some (.int .i64 x.power)∧(Instr.loadAt 91 (.pointer (some ⟨g,off+i*5,none⟩))).run prog w'=.ok (.agg (bC x.key).toArray) w':=fun s=>by
    obtain ⟨vs,⟨rfl,hk4,hpw⟩,hcs⟩:=(sl.kn s).at hx;obtain ⟨c1,c2⟩:=zam (xs:=bC x.key) (ys:=[.int .i64 x.power]) hcs;rw [zaf,hk4] at c2;exact ⟨c2.get 0 rfl,run_loadAt_mid _ g (off+i*5) 91 (bC x.key) _ c1 underlying91 rfl (by rw [info_keyQ,zaf,hk4])⟩
   have hlt':(i:Int)<(l.length:Int):=by omega
   obtain ⟨pw,hpw⟩:=jE x.power;have HE:=jh2 he hpw;rw [hpw] at hxc
   rcases i with _ | m
   ·have X2:=jh5 (sl.kn (Step.rf.drewN 1)) (st.drewN 1) hgo2 (ok.drewN 1) hi
    have y4:wr.drew.cell? ⟨g,off+4,none⟩=some (.int .i64 pw):=by have:=(hxc (w':=wr.drew) (Step.rf.drewN 1)).1;simpa using this
    have KK:(fun W:World=>True) wr.drew:=trivial;have hA:e=if pw<1∨4611686018427387904<pw then 3 else 0:=by rw [←HE.out.1,←HE.out.2];rfl
    clear sl st ok hgo hgo2 hdr hx he hxc hnx hpw;go_wp2_with fail;refine zac (fun W=>True) (fun _=>true) (by kernel_rfl) ?_;refine tk1 0 _ 19 rfl rfl KK ?_;refine tk1 1 _ 20 rfl rfl KK ?_;refine tk1 2 _ 21 rfl rfl KK ?_;refine tku 3 _ 22 rfl rfl KK ?_;refine tku 4 _ 23 rfl rfl KK ?_;refine tku 5 _ 24 rfl rfl KK ?_;refine tku 6 _ 25 rfl rfl KK ?_;refine tku 7 _ 26 rfl rfl KK ?_;refine tku 8 _ 27 rfl rfl KK ?_;refine tku 9 _ 28 rfl rfl KK ?_;refine tku 10 _ 29 rfl rfl KK ?_;refine tku 11 _ 30 rfl rfl KK ?_;refine tku 12 _ 31 rfl rfl KK ?_;refine tku 13 _ 32 rfl rfl KK ?_;refine tku 14 _ 33 rfl rfl KK ?_;refine tku 15 _ 34 rfl rfl KK ?_;refine tk1 16 _ 35 rfl rfl KK ?_;refine zab.one (i:=17) (by kernel_rfl) rfl (fun KQ hK=>?_);go_simp;refine hK.out _ _ (fun _=>KK) ?_;clear hK KQ
    (try simp only [jS])
    refine zab.done (by kernel_rfl) ?_ _;by_cases h1:pw<1
    ·have E:=jh1 (show e=3 by rw [hA,if_pos (.inl h1)])
     clear hA;go_wp2;go_ret;exact ⟨by rw [X2.out.2.2.1,if_pos (by rw [E.out];decide),E.out];rfl,_,X2.out.2.1,X2.out.2.2.2.1⟩
    by_cases h2:4611686018427387904<pw
    ·have E:=jh1 (show e=3 by rw [hA,if_pos (.inr h2)])
     clear hA;go_wp2;go_ret;exact ⟨by rw [X2.out.2.2.1,if_pos (by rw [E.out];decide),E.out];rfl,_,X2.out.2.1,X2.out.2.2.2.1⟩
    have E:=jh1 (show e=0 by rw [hA,if_neg (by omega)]);clear hA;go_wp2;go_roundw
    case rel=>exact ⟨0+1,_,by omega,by go_num,by rw [X2.out.2.2.1,if_neg (by rw [E.out];decide)],X2.out.1,X2.out.2.1,X2.out.2.2.2.1⟩
    case measure=>(simp [intOf];try omega)
   ·obtain ⟨x0,hx0⟩:∃x,l[m]? = some x:=⟨l[m]'(by omega),List.getElem?_eq_getElem (by omega)⟩
    have hk40:x0.key.length=4:=by obtain ⟨vs,⟨rfl,hk4,_⟩,_⟩:=sl.at hx0;exact hk4
    have hxm:∀{c':Col} {w':World},Step No cr wr c' w'→(Instr.loadAt 91 (.pointer (some ⟨g,off+m*5,none⟩))).run prog w'=.ok (.agg (bC x0.key).toArray) w':=fun s=>by
     obtain ⟨vs,⟨rfl,hk4,hpw⟩,hcs⟩:=(sl.kn s).at hx0;obtain ⟨c1,c2⟩:=zam (xs:=bC x0.key) (ys:=[.int .i64 x0.power]) hcs;exact run_loadAt_mid _ g (off+m*5) 91 (bC x0.key) _ c1 underlying91 rfl (by rw [info_keyQ,zaf,hk4])
    have hpv:prevO l (m+1)=some x0.key:=by show (l[m]?).map (·.key)=_;rw [hx0];rfl
    have LS:=less05 (w:=wr.drew) (ok.drewN 1) hk40 hk4;obtain ⟨cm,hcmp⟩:=jE (Go.Lib.compareBytes x0.key x.key);rw [hcmp] at LS
    have hA:e=if 0≤cm then 9 else if pw<1∨4611686018427387904<pw then 3 else 0:=by
     rw [←HE.out.1,←HE.out.2,hpv];simp only [atV,aheadV,hcmp,decide_eq_true_eq]
    have hsub:IntKind.i64.wrap (((m+1:Nat):Int)-1)=(m:Int):=by rw [IntWalk.i64_in _ (by omega)];omega
    obtain ⟨i,him⟩:=jE (m+1);rw [him] at hsub hlt hlt' hi hgo hgo2 hdr hx hnx hxc ⊢;have hm0:(0:Int)≤(m:Int):=by omega
    have hm1:(m:Int)<(l.length:Int):=by omega
    have hi0:(0:Int)<(i:Int):=by omega
    have hi0n:0<i:=by omega
    have KN:Hid (∀(c':Col) (w':World),Step No cr wr c' w'→(Instr.loadAt 91 (.pointer (some ⟨g,off+m*5,none⟩))).run prog w'=.ok (.agg (bC x0.key).toArray) w'∧(Instr.loadAt 91 (.pointer (some ⟨g,off+i*5,none⟩))).run prog w'=.ok (.agg (bC x.key).toArray) w'):=jh1 fun _ _ s=>⟨hxm s,(hxc s).2⟩;have PW:=jh1 (fun (c':Col) (w':World) (s:Step No cr wr c' w')=>(hxc s).1);have KK:(fun W:World=>(Instr.loadAt 91 (.pointer (some ⟨g,off+m*5,none⟩))).run prog W=.ok (.agg (bC x0.key).toArray) W∧(Instr.loadAt 91 (.pointer (some ⟨g,off+i*5,none⟩))).run prog W=.ok (.agg (bC x.key).toArray) W) wr.drew:=KN.out cr wr.drew (Step.rf.drewN 1);have X1:=jh4 sl st hgo2 hi;obtain ⟨B0,hB0⟩:=jE ((bC x0.key));obtain ⟨B1,hB1⟩:=jE ((bC x.key));rw [hB0,hB1] at LS KK KN;have hcb:(decide (cm<0)=true)∨(decide (cm<0)=false):=by cases decide (cm<0) <;> simp
    obtain ⟨bl,hbl⟩:=jE (decide (cm<0));rw [hbl] at LS;have HB:=jh1 hbl;clear sl st ok hgo hgo2 hdr hx hx0 he hxc hxm hnx hpw hpv hcmp hB0 hB1 hk4 hk40 hcb hbl;go_wp2_with fail;refine zac (fun W=>(Instr.loadAt 91 (.pointer (some ⟨g,off+m*5,none⟩))).run prog W=.ok (.agg B0.toArray) W∧(Instr.loadAt 91 (.pointer (some ⟨g,off+i*5,none⟩))).run prog W=.ok (.agg B1.toArray) W) (fun _=>true) (by kernel_rfl) ?_;refine tk2 0 _ 19 rfl rfl KK ?_;refine tk2 1 (.bool true) 20 rfl rfl KK ?_;refine tk2 2 _ 21 rfl rfl KK ?_;refine tk2 3 _ 22 rfl rfl KK ?_;refine tk2 4 _ 23 rfl rfl KK ?_;refine tk2 5 _ 24 rfl rfl KK ?_;refine tk2 6 _ 25 rfl rfl KK ?_;refine tk2 7 _ 26 rfl rfl KK ?_;refine tk 8 _ 27 rfl rfl (Or.inl ⟨by rfl,fun W hW=>by obtain ⟨q0,q1⟩:=hW;exact zaT 91 q0 (.tmp 26) rfl rfl⟩) KK ?_;refine tk2 9 _ 28 rfl rfl KK ?_;refine tk2 10 _ 29 rfl rfl KK ?_;refine tk2 11 _ 30 rfl rfl KK ?_;refine tk2 12 _ 31 rfl rfl KK ?_;refine tk 13 _ 32 rfl rfl (Or.inl ⟨by rfl,fun W hW=>by obtain ⟨q0,q1⟩:=hW;exact zaT 91 q1 (.tmp 31) rfl rfl⟩) KK ?_;refine zab.one (i:=14) (by kernel_rfl) rfl (fun KQ hK=>?_);go_simp;refine LS.mono ?_;rintro e1 w3 ⟨rfl,c3,s3,o3⟩;have s3':Step No cr wr c3 w3:=(Step.rf.drewN 1:Step No cr wr cr wr.drew).trans s3;have KK:=KN.out _ _ s3';have y4:=PW.out _ _ s3';have X2:=jh5 (X1.out.1.kn s3') (X1.out.2.1.trans s3') X1.out.2.2.1 o3 X1.out.2.2.2;clear LS s3 o3 s3';refine hK.out _ _ (fun _=>KK) ?_;clear hK KQ
    (try simp only [jS])
    refine tk2 15 _ 34 rfl rfl KK ?_;refine tk2 16 _ 35 rfl rfl KK ?_;refine zab.one (i:=17) (by kernel_rfl) rfl (fun KQ hK=>?_);go_simp;refine hK.out _ _ (fun _=>KK) ?_;clear hK KQ
    (try simp only [jS])
    refine zab.done (by kernel_rfl) ?_ _
    rcases bl with _ | _
    ·have E:=jh1 (show e=9 by have h:=HB.out;simp at h;rw [hA,if_pos h])
     clear hA KK KN PW X1;go_wp2;go_ret;exact ⟨by rw [X2.out.2.2.1,if_pos (by rw [E.out];decide),E.out];rfl,_,X2.out.2.1,X2.out.2.2.2.1⟩
    ·have hA:e=if pw<1∨4611686018427387904<pw then 3 else 0:=by have h:=HB.out;simp at h;rw [hA,if_neg (by omega)]
     clear KK KN PW X1;by_cases h1:pw<1
     ·have E:=jh1 (show e=3 by rw [hA,if_pos (.inl h1)])
      clear hA;go_wp2;go_ret;exact ⟨by rw [X2.out.2.2.1,if_pos (by rw [E.out];decide),E.out];rfl,_,X2.out.2.1,X2.out.2.2.2.1⟩
     by_cases h2:4611686018427387904<pw
     ·have E:=jh1 (show e=3 by rw [hA,if_pos (.inr h2)])
      clear hA;go_wp2;go_ret;exact ⟨by rw [X2.out.2.2.1,if_pos (by rw [E.out];decide),E.out];rfl,_,X2.out.2.1,X2.out.2.2.2.1⟩
     have E:=jh1 (show e=0 by rw [hA,if_neg (by omega)]);clear hA;go_wp2;go_roundw
     case rel=>exact ⟨i+1,_,by omega,by go_num,by rw [X2.out.2.2.1,if_neg (by rw [E.out];decide)],X2.out.1,X2.out.2.1,X2.out.2.2.2.1⟩
     case measure=>(simp [intOf];try omega)
  ·have hil:i=l.length:=by omega
   subst hil;rw [List.drop_length] at hgo;have HG:=jh1 (show goV 1 4611686018427387904 none l=0 by rw [hgo];cases prevO l l.length <;> rfl);have X3:=jh2 st ok;clear sl st ok hgo;go_wp2;go_ret;exact ⟨by rw [HG.out];rfl,cr,X3.out⟩
end
theorem val_built (b0 b1 b2 b3:UInt8) (n:Int):prog.built 93 [(0,.agg #[.int .u8 b0.toNat,.int .u8 b1.toNat,.int .u8 b2.toNat,.int .u8 b3.toNat]),(1,.int .i64 n)]=some #[.int .u8 b0.toNat,.int .u8 b1.toNat,.int .u8 b2.toNat,.int .u8 b3.toNat,.int .i64 n]:=by kernel_rfl
theorem info_valz:((prog.info? 93).bind (·.zero)).isSome=true:=by kernel_rfl
section
variable {c:Col}{w:World}
theorem decode05 (hok:Ok c w) {bs:List UInt8}(hbl:bs.length≤1000000) {kx:Nat}{v:Value}(hv:Sl zag c kx 0 w v bs) :
  Calls prog 118 #[v] w (DecOut IsVals c w):=by
 obtain ⟨q,hq,hqc⟩:=hok.top kx;have hq0:q≠0:=by omega
 obtain ⟨af,of_,sf⟩:=zan hok [.int .i64 0,.int .i64 0] 74 (q+2);obtain ⟨rb,hrb⟩:=jE w.heap.size;rw [hrb] at af of_ sf;obtain ⟨W1,hW1⟩:=jE (w.alloc (.cells #[.int .i64 0,.int .i64 0] 74));have hW1':w.alloc (.cells ([Value.int .i64 0,.int .i64 0]:List Value).toArray 74)=W1:=hW1;rw [hW1'] at af of_ sf;have NR:=newReader4 of_ (hv.kn sf) (by omega) q;obtain ⟨va,vd,rfl,_⟩:=hv.form;have HB:=jh1 hqc;have X:=jh2 af sf;clear af of_ sf hok hv hqc;go_enter func118,ntmps118;go_wp2_with fail
 (try rw [hrb])
 (try rw [hW1])
 refine NR.mono ?_;rintro e w2 ⟨p,rfl,c2,i2,s2,o2,_⟩;have N1:=num4 o2 i2 hq0;unfold NumQ at N1;have X2:=jh2 (X.out.1.keep s2 jI) (X.out.2.trans s2);clear NR X i2 s2 o2;go_wp2_with fail;refine N1.mono ?_;rintro e w3 ⟨n,a3,f3,rfl,c3,i3,s3,o3,hn,-⟩;have xf3:=X2.out.1.keep s3 (show ¬q+2=q by omega);have st3:Step (fun j=>q≤j) c w c3 w3:=(X2.out.2.ofNo.trans s3).mono fun j (e:j=q)=>by omega
 by_cases h64:(64:Int)<(n:Int)
 ·obtain ⟨f1,f2,f3,f4,f5,f6,f7⟩:=xf3.faultG o3 (jz _) 4 0
  have FL:=jh3 f1.cells ((st3.trans (f3.mono fun j (e:j=q+2)=>by omega)).drop (K':=No) fun b _ e=>by have:=HB.out b;omega) f2;clear N1 X2 i3 s3 o3 xf3 st3 f1 f2 f3;go_wp2_with fail;exact bodyPost_ret (zaQ rfl _ _ rb _ _ rfl FL.out.1 underlying74 rfl zao) rfl ⟨_,4,0,rfl,c3,⟨[],by simp,Sl.nil _ _ _ _ _⟩,FL.out.2.1,FL.out.2.2⟩
 have hn64:n≤64:=by omega
 have X3:=jh4 xf3 st3 i3 o3;clear N1 X2 i3 s3 o3 xf3 st3;go_wp2;go_loopw [6,7] (fun vo vi wr=>∃(j:Nat) (cr:Col) (l:List Vld) (a:Nat) (f:Int×Int),j≤n∧vi=.int .i64 j∧Own TVal 93 cr (q+4) 0 wr vo l∧l.length=j∧At cr wr rb (q+2) [.int .i64 0,.int .i64 0]∧IsR4 cr q wr p bs a f∧Step (fun j=>q≤j) c w cr wr∧Ok cr wr) (fun _ vi _=>n-(intOf vi).toNat)
 case atStart=>
  obtain ⟨x1,x2,x3,x4⟩:=X3.out;exact ⟨0,c3,[],_,_,Nat.zero_le _,rfl,Own.nil _ _ _ _ _ _,rfl,x1,x3,x2,x4⟩
 case round=>
  obtain ⟨j,cr,l,a,⟨f0,f1⟩,hj,rfl,ow,hl,af,ir,sr,okr⟩:=hrel;obtain ⟨oa,oc,hform,_⟩:=ow.sl.form;rw [hl] at hform;subst hform;have HL:=jh1 hl;clear hl;by_cases hjn:j<n
  ·have RK:=key4 okr ir hq0
   unfold ReadQ at RK;have hjni:(j:Int)<(n:Int):=by omega
   have hwj:IntKind.i64.wrap ((j:Int)+1)=((j+1:Nat):Int):=by rw [IntWalk.i64_in _ (by omega)];rfl
   have Y:=jh3 ow af sr;clear ow af ir sr okr X3;go_wp2_with fail;refine RK.mono ?_;rintro e w4 ⟨_,rfl,c4,a4,⟨f40,f41⟩,i4,s4,o4,x,hx,rfl⟩
   obtain ⟨b0,b1,b2,b3,rfl⟩:∃b0 b1 b2 b3,x=[b0,b1,b2,b3]:=by
    rcases x with _ | ⟨b0,_ | ⟨b1,_ | ⟨b2,_ | ⟨b3,_ | ⟨b4,x⟩⟩⟩⟩⟩ <;> simp at hx
    exact ⟨b0,b1,b2,b3,rfl⟩
   rw [show bC [b0,b1,b2,b3]=[.int .u8 b0.toNat,.int .u8 b1.toNat,.int .u8 b2.toNat,.int .u8 b3.toNat] from rfl];obtain ⟨av,ov,sv⟩:=zan o4 [.int .u8 b0.toNat,.int .u8 b1.toNat,.int .u8 b2.toNat,.int .u8 b3.toNat] 91 (q+3);obtain ⟨vb,hvb⟩:=jE w4.heap.size;rw [hvb] at av ov sv;obtain ⟨W4,hW4⟩:=jE (w4.alloc (.cells #[.int .u8 b0.toNat,.int .u8 b1.toNat,.int .u8 b2.toNat,.int .u8 b3.toNat] 91));have hW4':w4.alloc (.cells ([Value.int .u8 b0.toNat,.int .u8 b1.toNat,.int .u8 b2.toNat,.int .u8 b3.toNat]:List Value).toArray 91)=W4:=hW4;rw [hW4'] at av ov sv;have sd:Step No c4 w4 (c4.put vb (q+3)) W4.drew:=sv.drewN 1;have N2:=num4 (w:=W4.drew) (ov.drewN 1) (i4.kn sd) hq0;unfold NumQ at N2;have KN:Hid (∀(K:Nat→Prop) (c':Col) (w':World),¬K (q+3)→Step K (c4.put vb (q+3)) W4 c' w'→(Instr.loadAt 91 (.pointer (some ⟨vb,0,none⟩))).run prog w'=.ok (.agg #[.int .u8 b0.toNat,.int .u8 b1.toNat,.int .u8 b2.toNat,.int .u8 b3.toNat]) w'):=jh1 fun K c' w' hK s=>(av.keep s hK).ld (ty:=91) underlying91 rfl (by rw [info_keyQ];rfl);obtain ⟨ow,af,sr⟩:=Y.out;have X4:=jh3 ((af.keep s4 (show ¬q+2=q by omega)).keep sd jI) ((sr.trans (s4.mono fun j (e:j=q)=>by omega)).trans sd.ofNo) ((ow.keep s4 (show ¬q+4=q by omega) (show ¬0=q by omega)).kn sd);have KK:(fun W:World=>(Instr.loadAt 91 (.pointer (some ⟨vb,0,none⟩))).run prog W=.ok (.agg #[.int .u8 b0.toNat,.int .u8 b1.toNat,.int .u8 b2.toNat,.int .u8 b3.toNat]) W) W4.drew:=KN.out No _ _ jI (Step.rf.drewN 1);clear RK Y i4 s4 o4 av ov sv sd hW4' ow af sr hx;go_wp2_with fail
   (try rw [hvb])
   (try rw [hW4])
   refine zac (fun W=>(Instr.loadAt 91 (.pointer (some ⟨vb,0,none⟩))).run prog W=.ok (.agg #[.int .u8 b0.toNat,.int .u8 b1.toNat,.int .u8 b2.toNat,.int .u8 b3.toNat]) W) (fun _=>true) (by kernel_rfl) ?_;refine tk1 0 _ 24 rfl rfl KK ?_;refine tk 1 _ 25 rfl rfl (Or.inl ⟨by rfl,fun W hW=>by have q0:=hW;exact zaT 91 q0 (.tmp 8) rfl rfl⟩) KK ?_;refine tk1 2 _ 26 rfl rfl KK ?_;refine zab.one (i:=3) (by kernel_rfl) rfl (fun KQ hK=>?_);go_simp;refine N2.mono ?_;rintro e w5 ⟨n2,a5,⟨f50,f51⟩,rfl,c5,i5,s5,o5,hn2,-⟩;have s5':Step (One q) (c4.put vb (q+3)) W4 c5 w5:=((Step.rf.drewN 1:Step No (c4.put vb (q+3)) W4 (c4.put vb (q+3)) W4.drew).ofNo (K:=One q)).trans s5;have KK:=KN.out _ _ _ (show ¬q+3=q by omega) s5';have hbu:=val_built b0 b1 b2 b3 n2;have X5:=jh7 (X4.out.1.keep s5 (show ¬q+2=q by omega)) (X4.out.2.1.trans (s5.mono fun j (e:j=q)=>by omega)) (X4.out.2.2.keep s5 (show ¬q+4=q by omega) (show ¬0=q by omega)) i5 o5 hn2 s5';clear N2 i5 s5 o5 s5' X4 hn2;refine hK.out _ _ (fun _=>KK) ?_;clear hK KQ
   (try simp only [jS])
   refine tk 4 _ 28 rfl rfl (Or.inl ⟨by rfl,fun W hW=>by have q0:=hW;exact zbq 93 hbu #[(0,.tmp 25),(1,.tmp 27)] rfl rfl⟩) KK ?_;refine zab.one (i:=5) (by kernel_rfl) rfl (fun KQ hK=>?_);obtain ⟨x1,x2,x3⟩:=zbE (T:=TVal) (x:=⟨[b0,b1,b2,b3],n2⟩) (vs:=[.int .u8 b0.toNat,.int .u8 b1.toNat,.int .u8 b2.toNat,.int .u8 b3.toNat,.int .i64 n2]) (k2:=0) X5.out.2.2.2.2.1 ⟨rfl,rfl,has_nat X5.out.2.2.2.2.2.1⟩ 93;have on:=X5.out.2.2.1.kn x3;have hq4:0≠q+4:=by omega
   have hm1:l.length + [(⟨[b0,b1,b2,b3],n2⟩:Vld)].length≤maxLen:=by rw [HL.out];simp [maxLen];omega
   have hm2:(l.length + [(⟨[b0,b1,b2,b3],n2⟩:Vld)].length)*16≤140737488355328:=by rw [HL.out];simp;omega
   have KK:=KN.out _ _ _ (show ¬One q (q+3) from fun (e:q+3=q)=>by omega) (X5.out.2.2.2.2.2.2.trans x3.ofNo);refine step_bs1 rfl (dd:=some 29) rfl 57 93 (.tmp 28) rfl underlying57 info_val info_valz (B:=[.int .u8 b0.toNat,.int .u8 b1.toNat,.int .u8 b2.toNat,.int .u8 b3.toNat,.int .i64 n2]) rfl (by decide) (by decide) rfl ?_;refine hK.out _ _ (fun _=>KK) ?_;clear hK KQ
   (try simp only [jS])
   refine zab.one (i:=6) (by kernel_rfl) rfl (fun KQ hK=>?_);refine step_app TVal x1 rfl _ _ 57 rfl 93 underlying57 infoVal3 rfl (by decide) rfl rfl on x2 hq4 hm1 hm2 ?_;rintro v7 w7 c7 d1 d2 d3 -;have KK:=KN.out (fun j=>j=q∨j=q+4) _ _ (fun e=>by rcases e with e | e <;> omega) (((X5.out.2.2.2.2.2.2.trans x3.ofNo).mono fun j e=>.inl e).trans (d2.mono fun j e=>.inr e));have X7:=jh4 d1 d2 d3 x3;clear d1 d2 d3 x1 x2 x3 on;refine hK.out _ _ (fun _=>KK) ?_;clear hK KQ
   (try simp only [jS])
   refine zab.one (i:=7) (by kernel_rfl) rfl (fun KQ hK=>?_);go_simp;refine hK.out _ _ (fun _=>KK) ?_;clear hK KQ
   (try simp only [jS])
   refine zab.done (by kernel_rfl) ?_ _;go_wp2;go_roundw
   case rel=>
    obtain ⟨b1,b2,b3,x3⟩:=X7.out;obtain ⟨xf6,st6,_,i6,_⟩:=X5.out;exact ⟨j+1,c7,_,_,_,by omega,by first | rfl | go_num,b1,by rw [List.length_append,HL.out];rfl,(xf6.keep x3 jI).keep b2 (show ¬q+2=q+4 by omega),(i6.kn x3).keep b2 (show ¬q=q+4 by omega) (show ¬0=q+4 by omega),(st6.trans x3.ofNo).trans (b2.mono fun j (e:j=q+4)=>by omega),b3⟩
   case measure=>simp [intOf];omega
  ·have hjni:¬(j:Int)<(n:Int):=by omega
   have EN:=end4 okr ir;have Y:=jh3 ow af sr;clear ow af ir sr okr X3;obtain ⟨g0,hg0⟩:=jE ((endF bs a (f0,f1)).1);obtain ⟨g1,hg1⟩:=jE ((endF bs a (f0,f1)).2);rw [hg0,hg1] at EN;go_wp2_with fail;refine EN.mono ?_;rintro e w5 ⟨rfl,c5,s5,o5⟩;obtain ⟨a6,o6,s6⟩:=zan o5 [.int .i64 g0,.int .i64 g1] 74 (q+5);obtain ⟨fb,hfb⟩:=jE w5.heap.size;rw [hfb] at a6 o6 s6;obtain ⟨W6,hW6⟩:=jE (w5.alloc (.cells #[.int .i64 g0,.int .i64 g1] 74));have hW6':w5.alloc (.cells ([Value.int .i64 g0,.int .i64 g1]:List Value).toArray 74)=W6:=hW6;rw [hW6'] at a6 o6 s6;have s56:=s5.trans s6;obtain ⟨xo,xf,xs⟩:=Y.out;have X6:=jh5 (xf.keep s56 jI) (xo.kn s56) a6 (xs.trans s56.ofNo) o6;have h0:=a6.get (i:=0) rfl;have h1:=a6.get (i:=1) rfl;have hf0:=a6.fz o6 (show q+5≠0 by omega) 0;clear EN Y s5 o5 a6 o6 s6 s56 hW6' xo xf xs hg0 hg1;go_upto_if 35 with (fail)
   (try rw [hfb])
   (try rw [hW6])
   go_cut [] from 33 to 38 (fun wr=>∃cr g0 g1,At cr wr fb (q+5) [.int .i64 g0,.int .i64 g1]∧Step (One (q+5)) (c5.put fb (q+5)) W6 cr wr∧Ok cr wr)
   case first=>
    by_cases hg:g0=0
    ·subst hg
     have C:=check05 X6.out.2.2.2.2 X6.out.2.1.sl (by rw [HL.out];omega);obtain ⟨ck,hck⟩:=jE (zaJ l);rw [hck] at C;clear hck;go_wp2_with fail;refine C.mono ?_;rintro e wA ⟨rfl,cA,sA,oA⟩;have agA:=X6.out.2.2.1.keep sA jI;have h0:=agA.get (i:=0) rfl;have hf0:=agA.fz oA (show q+5≠0 by omega) 0;have sB:Step (One (q+5)) cA wA cA (wA.setCell ⟨fb,0,none⟩ (.int .i64 ck)):=(Step.refl (K:=One (q+5))).setCell (a:=⟨fb,0,none⟩) (.inr agA.col) _;have R9:=jh3 (agA.setN (i:=0) (by simp) (.int .i64 ck)) (sA.ofNo.trans sB) (oA.setCell ⟨fb,0,none⟩ (.int .i64 ck));clear C sA oA agA sB;go_wp2;go_meet
     case rel=>exact ⟨cA,ck,g1,R9.out⟩
    ·have hgb:(g0==0)=false:=by simpa using hg
     go_wp2;go_meet
     case rel=>exact ⟨_,g0,g1,X6.out.2.2.1,Step.refl,X6.out.2.2.2.2⟩
   case rest=>
    obtain ⟨c9,g0,g1,ag9,s9,o9⟩:=hcut;have sd:Step No c9 wc c9 wc.drew:=Step.rf.drewN 1;have od:Ok c9 wc.drew:=o9.drewN 1;have agd:=ag9.keep sd jI;have xfd:=(X6.out.1.keep s9 (show ¬q+2=q+5 by omega)).keep sd jI;obtain ⟨f1,f2,f3,f4,f5,f6,f7⟩:=xfd.faultG od (jz _) g0 g1;have xo10:=(((X6.out.2.1.keep s9 (show ¬q+4=q+5 by omega) (show ¬0=q+5 by omega)).kn sd).keep f3 (show ¬q+4=q+2 by omega) (show ¬0=q+2 by omega)).turn (k:=0) (show 0≠q+4 by omega);have xs10:=(((X6.out.2.2.2.1.trans (s9.mono fun j (e:j=q+5)=>by omega)).trans sd.ofNo).trans (f3.mono fun j (e:j=q+2)=>by omega)).turn (q:=q+4) (k:=0) (show q≤q+4 by omega);have FL:=jh4 f1.cells xo10.sl (xs10.drop (K':=No) fun b _ e=>by have:=HB.out b;omega) (f2.turn (q:=q+4) (k:=0) (by omega));have xfw:=X6.out.1.keep s9 (show ¬q+2=q+5 by omega);have v0:=xfw.get (i:=0) rfl;have v1:=xfw.get (i:=1) rfl;have vf0:=xfw.fz o9 (jz _) 0;have vf1:=xfw.fz o9 (jz _) 1;have h0:=ag9.get (i:=0) rfl;have KK:(fun W:World=>W.cell? ⟨fb,0,none⟩=some (.int .i64 g0)∧W.cell? ⟨fb,1,none⟩=some (.int .i64 g1)) wc.drew:=⟨agd.get (i:=0) rfl,agd.get (i:=1) rfl⟩;clear X6 s9 o9 ag9 sd od agd xfd xfw f1 f2 f3 f4 f5 f6 f7 xo10 xs10 h1 hf0;by_cases hg:g0=0
    ·subst hg
     go_wp2_with fail;refine zac (fun W=>W.cell? ⟨fb,0,none⟩=some (.int .i64 0)∧W.cell? ⟨fb,1,none⟩=some (.int .i64 g1)) (fun i=>!([3]:List Nat).contains i) (by kernel_rfl) ?_;refine tk2 0 _ 43 rfl rfl KK ?_;refine tk2 1 _ 44 rfl rfl KK ?_;refine zab.one (i:=2) (by kernel_rfl) rfl (fun KQ hK=>?_);go_simp;refine hK.out _ _ (fun _=>KK) ?_;clear hK KQ
     (try simp only [jS])
     refine zab.one (i:=3) (by kernel_rfl) rfl (fun KQ hK=>?_);go_simp;refine hK.out _ _ (fun h=>absurd h (by decide)) ?_;clear hK KQ
     (try simp only [jS])
     refine zab.done (by kernel_rfl) ?_ _;go_wp2_with fail;exact bodyPost_ret (zaQ rfl _ _ rb _ _ rfl FL.out.1 underlying74 rfl zao) rfl ⟨_,0,g1,rfl,_,⟨l,by rw [HL.out];omega,by rw [←HL.out] at *;exact FL.out.2.1⟩,FL.out.2.2.1,FL.out.2.2.2⟩
    ·have hgn:(g0 != 0)=true:=by simpa using hg
     clear hg;go_wp2_with fail;refine zac (fun W=>W.cell? ⟨fb,0,none⟩=some (.int .i64 g0)∧W.cell? ⟨fb,1,none⟩=some (.int .i64 g1)) (fun i=>!([2]:List Nat).contains i) (by kernel_rfl) ?_;refine tk2 0 _ 42 rfl rfl KK ?_;refine zab.one (i:=1) (by kernel_rfl) rfl (fun KQ hK=>?_);go_simp;refine hK.out _ _ (fun _=>KK) ?_;clear hK KQ
     (try simp only [jS])
     refine zab.one (i:=2) (by kernel_rfl) rfl (fun KQ hK=>?_);go_simp;refine hK.out _ _ (fun h=>absurd h (by decide)) ?_;clear hK KQ
     (try simp only [jS])
     refine zab.done (by kernel_rfl) ?_ _;go_wp2_with fail;exact bodyPost_ret (zaQ rfl _ _ rb _ _ rfl FL.out.1 underlying74 rfl zao) rfl ⟨_,g0,g1,rfl,_,⟨[],by simp,Sl.nil _ _ _ _ _⟩,FL.out.2.2.1,FL.out.2.2.2⟩
end
