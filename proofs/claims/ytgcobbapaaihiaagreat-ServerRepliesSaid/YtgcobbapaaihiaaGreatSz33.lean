/- ServerReplies, part 33: lemmas, each with its own conditions. -/
import Derived.Test.YtgcobbapaaihiaaGreatSz32
set_option linter.all false
set_option maxHeartbeats 12800000
set_option maxRecDepth 100000
open Go.Proofs.Tryz
namespace Go.Proofs.YtgcobbapaaihiaaGreat
open Go.RowKit
def wrongM (e at_:Int):Ending:=.panicked [{ v:=.iface 109 (.agg #[.int .i64 e,.int .i64 at_]),recovered:=false }]
def mayR (may:Int→Bool) (bs:List UInt8) (a:Nat):Option (Nat×Nat):=
 match numR bs a with
 | some (n,a')=>if may n=true then some (n,a') else none
 | none=>none
section
variable {c:Col}{w:World}
theorem fine_no (hok:Ok c w) {k p:Nat}{bs:List UInt8}{a:Nat}{e x:Int}(h:IsRd c k w p bs a (e,x)) (he:e≠0) (n:Int) :
  Calls prog 52 #[.agg #[.pointer (some ⟨p,0,none⟩),.int .i64 n]] w fun r w'=>r=wrongM e x∧∃c',Step No c w c' w'∧Ok c' w':=by
 have s1:Step No c w c (w.alloc (.cells #[.pointer (some ⟨p,0,none⟩),.int .i64 n] 115)):=Step.refl.alloc _;have a1:=At.new0 hok [.pointer (some ⟨p,0,none⟩),.int .i64 n] 115;have o1:=hok.alloc (.cells #[.pointer (some ⟨p,0,none⟩),.int .i64 n] 115);have E:=zaY o1 (h.kn s1);have hend:endF bs a (e,x)=(e,x):=by unfold endF;rw [if_neg (fun h=>he h.1)]
 rw [hend] at E;obtain ⟨W1,hW1⟩:=jE (w.alloc (.cells #[.pointer (some ⟨p,0,none⟩),.int .i64 n] 115));obtain ⟨bx,hbx⟩:=jE w.heap.size;have h1:=h.kn s1;rw [hW1] at s1 o1 E a1 h1;rw [hbx] at a1;have y0:=a1.get (i:=0) rfl;have X1:=jh3 s1 a1 h1;have heb:(e==0)=false:=by simpa using he
 have HE:=jh1 he;clear s1 o1 a1 h hok h1 hend;go_enter func52,ntmps52;go_wp2_with fail
 (try rw [hW1])
 (try rw [hbx])
 refine E.mono ?_;rintro r w2 ⟨rfl,c2,s2,o2⟩;have a2:=X1.out.2.1.keep s2 jI;have s3:Step No c2 w2 c2 (w2.alloc (.cells #[.int .i64 e,.int .i64 x] 74)):=Step.refl.alloc _;have f3:=At.new0 o2 [.int .i64 e,.int .i64 x] 74;have o3:=o2.alloc (.cells #[.int .i64 e,.int .i64 x] 74);have a3:=a2.keep s3 jI;have R:=rest_bad (((X1.out.2.2.kn s2).kn s3).kn (Step.rf.drewN 1)) HE.out;obtain ⟨W3,hW3⟩:=jE (w2.alloc (.cells #[.int .i64 e,.int .i64 x] 74));obtain ⟨fb,hfb⟩:=jE w2.heap.size;have K1:(fun W:World=>W.cell? ⟨bx,0,none⟩=some (.pointer (some ⟨p,0,none⟩))∧W.cell? ⟨fb,0,none⟩=some (.int .i64 e)∧W.cell? ⟨fb,1,none⟩=some (.int .i64 x)) W3.drew:=by rw [←hW3,←hfb];exact ⟨a3.get (i:=0) rfl,f3.get (i:=0) rfl,f3.get (i:=1) rfl⟩
 rw [hW3] at s3 o3 R;have X3:=jh2 (((X1.out.1.trans s2).trans s3).drewN 1) (o3.drewN 1);clear E s2 o2 a2 s3 f3 o3 a3 y0 he;go_wp2_with fail
 (try rw [hW3])
 (try rw [hfb])
 refine zac (fun W=>W.cell? ⟨bx,0,none⟩=some (.pointer (some ⟨p,0,none⟩))∧W.cell? ⟨fb,0,none⟩=some (.int .i64 e)∧W.cell? ⟨fb,1,none⟩=some (.int .i64 x)) (fun _=>true) (by kernel_rfl) ?_;refine tk3 0 _ 6 rfl rfl K1 ?_;refine tk3 1 _ 7 rfl rfl K1 ?_;refine tk3 2 _ 8 rfl rfl K1 ?_;refine tk3 3 _ 9 rfl rfl K1 ?_;refine tk3 4 _ 10 rfl rfl K1 ?_;refine tk3 5 _ 11 rfl rfl K1 ?_;refine tk3 9 _ 15 rfl rfl K1 ?_;refine tk3 10 _ 16 rfl rfl K1 ?_;refine tk3 11 _ 17 rfl rfl K1 ?_;refine tk3 12 _ 18 rfl rfl K1 ?_;refine zab.one (i:=6) (by kernel_rfl) rfl (fun KQ hK=>?_);go_simp;refine R.mono ?_;rintro r w4 ⟨rfl,rfl⟩;go_simp;refine hK.out _ _ (fun _=>K1) ?_;clear hK KQ
 (try simp only [jS])
 refine tk3 7 _ 13 rfl rfl K1 ?_;refine tk3 8 _ 14 rfl rfl K1 ?_;refine zab.one (i:=13) (by kernel_rfl) rfl (fun KQ hK=>?_);go_simp;refine (mmust_no _ e x).mono ?_;rintro r w5 ⟨rfl,rfl⟩;exact ⟨rfl,rfl,c2,X3.out⟩
def MNum (may:Int→Bool) (c:Col) (w:World) (k p:Nat) (bs:List UInt8) (a:Nat) (r:Ending) (w':World):Prop:=
 ∃c',Step (One k) c w c' w'∧Ok c' w'∧((∃(n a':Nat),mayR may bs a=some (n,a')∧r=.returned (.int .i64 n)∧IsRd c' k w' p bs a' (0,0))∨(mayR may bs a=none∧∃e x,r=wrongM e x∧e≠0))
theorem mnumX_any (hok:Ok c w) {k p:Nat}{bs:List UInt8}{a:Nat}(h:IsRd c k w p bs a (0,0)) (hk0:k≠0) {may:Nat}{mayB:Int→Bool}(hmay:∀(n:Int) W,Calls prog may #[.int .i64 n] W fun r w'=>r=.returned (.bool (mayB n))∧w'=W) (hmf:may=54∨may=55) :
  Calls prog 53 #[.agg #[.pointer (some ⟨p,0,none⟩),.int .i64 bs.length],.func (.func may) #[] #[]] w (MNum mayB c w k p bs a):=by
 have hnk:¬One k 0:=fun (e:0=k)=>hk0 e.symm;have s1:Step No c w c (w.alloc (.cells #[.pointer (some ⟨p,0,none⟩),.int .i64 bs.length] 115)):=Step.refl.alloc _;have a1:=At.new0 hok [.pointer (some ⟨p,0,none⟩),.int .i64 bs.length] 115;have o1:=hok.alloc (.cells #[.pointer (some ⟨p,0,none⟩),.int .i64 bs.length] 115);have AT:=mat_any o1 (h.kn s1);obtain ⟨W1,hW1⟩:=jE (w.alloc (.cells #[.pointer (some ⟨p,0,none⟩),.int .i64 bs.length] 115));obtain ⟨bx,hbx⟩:=jE w.heap.size;have h1:=h.kn s1;rw [hW1] at s1 o1 AT a1 h1;rw [hbx] at a1;have y0:=a1.get (i:=0) rfl;have y1:=a1.get (i:=1) rfl;have X1:=jh3 s1 a1 h1;have HB:=jh1 hmay
 have hme:∀(args:Array Value) (W:World),(callFunc may args).run prog W=.ok (.enter may args) W:=by
  rcases hmf with rfl | rfl
  ·exact fun args W=>enters_of func54 (by kernel_rfl) rfl args W
  ·exact fun args W=>enters_of func55 (by kernel_rfl) rfl args W
 clear s1 o1 a1 h hok h1 hmay hmf;go_enter func53,ntmps53;go_wp2_with fail
 (try rw [hW1])
 (try rw [hbx])
 refine AT.mono ?_;rintro e w2 ⟨rfl,c2,s2,o2⟩;have a2:=X1.out.2.1.keep s2 jI;have NM:=NumX_any o2 (X1.out.2.2.kn s2) hk0;have z0:=a2.get (i:=0) rfl;have X2:=jh2 (X1.out.1.trans s2) a2;clear AT s2 o2 a2 y0 y1;go_wp2_with fail;refine NM.mono ?_;rintro e w3 ⟨n,rfl,hn,c3,a3,⟨f0,f1⟩,i3,s3,o3,hd⟩;have a3':=X2.out.2.keep s3 hnk;have z3:=a3'.get (i:=0) rfl;have z31:=a3'.get (i:=1) rfl
 rcases hd with ⟨_,hN,hf⟩ | ⟨hf,rfl,hN⟩
 rotate_left
 ·have FN:=fine_no o3 i3 hf bs.length
  have X3:=jh3 (X2.out.1.ofNo.trans s3) hf (hN rfl);clear NM i3 s3 o3 a3' z0 hf hN;go_wp2_with fail;refine FN.mono ?_;rintro e w4 ⟨rfl,c4,s4,o4⟩;unfold wrongM;have X4:=jh2 (X3.out.1.trans s4.ofNo) o4;clear FN s4 o4;go_wp2_with fail;exact ⟨rfl,c4,X4.out.1,X4.out.2,.inr ⟨by unfold mayR;rw [X3.out.2.2],f0,f1,rfl,X3.out.2.1⟩⟩
 ·injection hf with hf0 hf1
  subst hf0 hf1;have FN:=fine_any o3 i3 bs.length;have X3:=jh3 i3 (X2.out.1.ofNo.trans s3) hN;clear NM i3 s3 o3 a3' z0 hN;go_wp2_with fail;refine FN.mono ?_;rintro e w4 ⟨rfl,c4,s4,o4⟩;have MY:=HB.out n w4;obtain ⟨t,ht⟩:=jE (mayB n);rw [ht] at MY;have X4:=jh4 (X3.out.1.kn s4) (X3.out.2.1.trans s4.ofNo) o4 ht;clear FN s4 o4 z3 z31 ht
  rcases t with _ | _
  ·have MU:=mmust_no w4 3 (a:Int)
   go_wp2_with fail;refine MY.mono ?_;rintro e w5 ⟨rfl,rfl⟩;go_wp2_with fail;refine MU.mono ?_;rintro e w5 ⟨rfl,rfl⟩;go_wp2_with fail;exact ⟨rfl,c4,X4.out.2.1,X4.out.2.2.1,.inr ⟨by unfold mayR;rw [X3.out.2.2];simp [X4.out.2.2.2],3,a,rfl,by decide⟩⟩
  ·have MU:=zaX w4 3 (a:Int)
   go_wp2_with fail;refine MY.mono ?_;rintro e w5 ⟨rfl,rfl⟩;go_wp2_with fail;refine MU.mono ?_;rintro e w5 ⟨rfl,rfl⟩;go_wp2;go_ret;exact ⟨c4,X4.out.2.1,X4.out.2.2.1,.inl ⟨n,a3,by unfold mayR;rw [X3.out.2.2];simp [X4.out.2.2.2],rfl,X4.out.1⟩⟩
end
theorem msg_zero:prog.built 72 []=some (msgA 0 0 0).toArray:=by kernel_rfl
theorem zaN (k i h:Int):(msgA k i h).length=170:=rfl
theorem msgA_one (k i h:Int):∀v∈msgA k i h,v.oneCell'=true:=by
 intro v hv;simp only [msgA,zeroAC,List.mem_cons] at hv
 rcases hv with rfl | rfl | rfl | rfl | hv
 ·rfl
 ·rfl
 ·rfl
 ·rfl
 ·exact zaF (zeroB_at (fun _=>0) 0 default) v hv
section
variable {c:Col}{w:World}
theorem dec1_wrong (hok:Ok c w) {mb fb k1 k2:Nat}{Z:List Value}{g0 g1:Int}(am:At c w mb k1 Z) (hZ:Z.length=170) (af:At c w fb k2 [.int .i64 g0,.int .i64 g1]) (h1:k1≠0) (h2:k2≠0) (h12:k1≠k2) (e x:Int) (older:List PanicEntry) :
  CallsD prog 48 #[.pointer (some ⟨mb,0,none⟩),.pointer (some ⟨fb,0,none⟩)] (.panicking ({ v:=.iface 109 (.agg #[.int .i64 e,.int .i64 x]),recovered:=false }::older)) w fun r u' w'=>
   r=.returned (.tuple #[])∧u'=.panicking ({ v:=.iface 109 (.agg #[.int .i64 e,.int .i64 x]),recovered:=true }::older)∧At c w' mb k1 (msgA 0 0 0)∧At c w' fb k2 [.int .i64 e,.int .i64 x]∧Step (Two k1 k2) c w c w'∧Ok c w':=by
 have s0:Step No c w c (w.alloc (.cells #[.int .i64 e,.int .i64 x] 109)).drew:=(Step.refl.alloc _).drewN 1;have o0:Ok c (w.alloc (.cells #[.int .i64 e,.int .i64 x] 109)).drew:=(hok.alloc _).drewN 1;have a0:=(At.new0 hok [.int .i64 e,.int .i64 x] 109).kn ((Step.rf (c:=c) (w:=w.alloc (.cells #[.int .i64 e,.int .i64 x] 109))).drewN 1);have am0:=am.kn s0;have af0:=af.kn s0;obtain ⟨nb,hnb⟩:=jE w.heap.size;rw [hnb] at a0;obtain ⟨W0,hW0⟩:=jE (w.alloc (.cells #[.int .i64 e,.int .i64 x] 109));have hW0':w.alloc (.cells ([.int .i64 e,.int .i64 x]:List Value).toArray 109)=W0:=hW0;rw [hW0] at s0 o0 am0 af0;rw [hW0'] at a0;have hMi:(prog.info? 72).map (·.size)=some (msgA 0 0 0).length:=by rw [zaO,zaN]
 have ht0:=am0.there (o:=0) (n:=(msgA 0 0 0).toArray.size) o0 h1 (by simp [hZ,zaN]);obtain ⟨_,aR⟩:=am0.st o0 h1 (ty:=72) (us:=msgA 0 0 0) (by rw [hZ];rfl) hMi (msgA_one 0 0 0);have sR:Step (One k1) c W0.drew c (W0.drew.setCells mb 0 (msgA 0 0 0)):=Step.setCells (K:=One k1) (.inr am0.col) _ _ _ Step.refl;have oR:=Ok.setCells (b:=mb) (msgA 0 0 0) 0 _ o0;have afR:=af0.keep sR (show ¬k2=k1 by omega);have a0R:=a0.keep sR (show ¬0=k1 by omega);obtain ⟨f1,f2,f3,f4,f5,f6,f7⟩:=afR.faultG oR h2 e x;have hbz:=msg_zero;have KK:(fun W:World=>W.cell? ⟨nb,0,none⟩=some (.int .i64 e)∧W.cell? ⟨nb,1,none⟩=some (.int .i64 x)) W0.drew:=⟨a0.get (i:=0) rfl,a0.get (i:=1) rfl⟩;have KR:(fun W:World=>W.cell? ⟨nb,0,none⟩=some (.int .i64 e)∧W.cell? ⟨nb,1,none⟩=some (.int .i64 x)) (W0.drew.setCells mb 0 (msgA 0 0 0)):=⟨a0R.get (i:=0) rfl,a0R.get (i:=1) rfl⟩;have FL:=jh7 ht0 (show (prog.info? 72).map (·.size)=some (msgA 0 0 0).toArray.size by rw [zaO];simp [zaN]) (all_oneCell_toArray (msgA_one 0 0 0)) (aR.keep f3 (show ¬k1=k2 by omega)) f1 (((s0.ofNo (K:=Two k1 k2)).trans (sR.mono (K':=Two k1 k2) fun j (e:j=k1)=>.inl e)).trans (f3.mono (K':=Two k1 k2) fun j (e:j=k2)=>.inr e)) f2;obtain ⟨M,hM⟩:=jE (msgA 0 0 0);rw [hM] at FL hbz KR f4 f5 f6 f7;have HM:=jh1 hM;have hta:=fun W=>zbm (P:=prog) (xT:=20) underlying109 (.agg #[.int .i64 e,.int .i64 x]) W;clear hok am hZ af s0 o0 a0 am0 af0 hMi ht0 aR sR oR afR a0R f1 f2 f3 hM hW0';refine callsD_of_wpS func48 rfl fun c₀ cs hu=>?_;apply wpS_seq;apply wpS_region;simp [wpOpsS,go_sem,recoverD,hu,ntmps48,Exit.thenS];apply wpS_seq;apply wpS_region;simp [wpOpsS,go_sem,Exit.thenS];refine wpS_cond (t:=true) (by simp [Act.eval,Array.replicate]) ?_;simp only [if_true];refine wpS_of_wp ?_;simp [List.replicate,←List.toArray_replicate];go_wp2_with fail
 (try rw [hnb])
 (try rw [hW0])
 refine zac (fun W=>W.cell? ⟨nb,0,none⟩=some (.int .i64 e)∧W.cell? ⟨nb,1,none⟩=some (.int .i64 x)) (fun i=>!([4]:List Nat).contains i) (by kernel_rfl) ?_;refine tk 0 _ 16 rfl rfl (Or.inl ⟨by rfl,fun W hW=>by obtain ⟨q0,q1⟩:=hW;exact zbq 72 hbz #[] rfl rfl⟩) KK ?_;refine tk2 1 _ 17 rfl rfl KK ?_;refine tk2 2 _ 18 rfl rfl KK ?_;refine zab.one (i:=3) (by kernel_rfl) rfl (fun KQ hK=>?_);refine zar rfl 72 _ _ rfl mb 0 M.toArray rfl rfl FL.out.1 FL.out.2.1 FL.out.2.2.1 ?_;simp only [List.toList_toArray];refine hK.out _ _ (fun _=>KR) ?_;clear hK KQ
 (try simp only [jS])
 refine zab.one (i:=4) (by kernel_rfl) rfl (fun KQ hK=>?_);go_simp;refine hK.out _ _ (fun h=>absurd h (by decide)) ?_;clear hK KQ
 (try simp only [jS])
 refine zab.done (by kernel_rfl) ?_ _;go_wp2_with fail;simp [bodyPostS,results,Tryz.results48];rw [HM.out];exact FL.out.2.2.2
end
theorem results_put {fn:Func}{p q:Tmp}{ty ty2:TypeId}(h:fn.results=#[.cell p ty,.cell q ty2]) (tmps:Array Value) {d:Nat}(v:Value) (hp:d≠p) (hq:d≠q):results fn (tmps.setIfInBounds d v)=results fn tmps:=by
 simp [results,h,Array.getElem?_setIfInBounds_ne,hp,hq]
theorem leaves_put {P:Program}{fn:Func}{R:Ending→World→Prop}{p q:Tmp}{ty ty2:TypeId}(h:fn.results=#[.cell p ty,.cell q ty2]) {tmps:Array Value}{d:Nat}{v:Value}(hp:d≠p) (hq:d≠q) :
  ∀(ds:List Deferred) (u:FrameMode) (w:World),Leaves P fn (tmps.setIfInBounds d v) R ds u w→Leaves P fn tmps R ds u w
 | [],.returning,_,⟨x,hx,hR⟩=>⟨x,by rw [results_put h tmps v hp hq] at hx;exact hx,hR⟩
 | [],.panicking _,_,h=>h
 | [],.run,_,h=>h
 | _::ds,_,_,⟨hu,fv,cap,f,args,e1,e2,hc⟩=>⟨hu,fv,cap,f,args,e1,e2,hc.mono fun e u' w' he=>by
   match e,he with
   | .returned _,he=>exact leaves_put h hp hq ds _ _ he
   | .panicked _,he=>exact leaves_put h hp hq ds _ _ he
   | .outgrown,he=>exact he⟩
def decA (bs:List UInt8):Option (Nat×Nat):=
 match numR bs 0 with
 | some (k,a1)=>if k=1 then (match mayR idB bs a1 with
  | some (i,a2)=>(match mayR zav bs a2 with
   | some (h,a3)=>if a3=bs.length then some (i,h) else none
   | none=>none)
  | none=>none) else none
 | none=>none
def MsgOut (bs:List UInt8) (c:Col) (w:World) (r:Ending) (w':World):Prop:=
 ∃(M:List Value) (k1 e0 e1:Int),M.length=170∧(∀v∈M,v.oneCell'=true)∧M[0]? = some (.int .i64 k1)∧r=.returned (.tuple #[.agg M.toArray,.agg #[.int .i64 e0,.int .i64 e1]]) ∧
  ((∃i h:Nat,decA bs=some (i,h)∧k1=1∧e0=0∧e1=0∧M=msgA 1 i h)∨(decA bs=none∧¬(k1=1∧e0=0∧e1=0)))∧∃c',Step No c w c' w'∧Ok c' w'
theorem msg_fall {c0:Col}{w0:World}{q:Nat}(hqc:∀b,c0 b<q) {c:Col}{w:World}(hs:Step (fun j=>q≤j) c0 w0 c w) (hok:Ok c w) {mb:Nat}{Z:List Value}{g0 g1:Int}(am:At c w mb (q+1) Z) (hZ:Z.length=170) (af:At c w (mb+1) (q+2) [.int .i64 g0,.int .i64 g1])
  {bs:List UInt8} (hd:decA bs=none) (e x:Int) {tmps:Array Value} (hp:tmps[2]? = some (.pointer (some ⟨mb,0,none⟩))) (hq:tmps[3]? = some (.pointer (some ⟨mb+1,0,none⟩))) :
  CallsD prog 48 #[.pointer (some ⟨mb,0,none⟩),.pointer (some ⟨mb+1,0,none⟩)] (.panicking [{ v:=.iface 109 (.agg #[.int .i64 e,.int .i64 x]),recovered:=false }]) w fun
   | .returned _,u',w'=>Leaves prog Tryz.f33 tmps (MsgOut bs c0 w0) [] (settle u') w'
   | .panicked chain,u',w'=>Leaves prog Tryz.f33 tmps (MsgOut bs c0 w0) [] (raised u' chain) w'
   | .outgrown,_,w'=>MsgOut bs c0 w0 .outgrown w':=by
 refine (dec1_wrong hok am hZ af (jz q) (jz _) (by omega) e x []).mono ?_;rintro r u' w' ⟨rfl,rfl,am',af',s',o'⟩;have sAll:Step No c0 w0 c w':=(hs.trans (s'.mono fun j e=>by rcases e with e | e <;> omega)).drop fun b _ e=>by have:=hqc b;omega
 exact ⟨_,zak rfl _ _ mb (mb+1) (msgA 0 0 0) _ _ _ hp hq am'.cells underlying72 rfl (by rw [zaO,zaN]) af'.cells underlying74 rfl zao,msgA 0 0 0,0,e,x,zaN 0 0 0,msgA_one 0 0 0,rfl,rfl,.inr ⟨hd,fun h=>absurd h.1 (by decide)⟩,c,sAll,o'⟩
section
variable {c:Col}{w:World}
theorem fineZ_any (hok:Ok c w) {k p:Nat}{bs:List UInt8}{a:Nat}{x:Int}(h:IsRd c k w p bs a (0,x)) (n:Int) :
  Calls prog 52 #[.agg #[.pointer (some ⟨p,0,none⟩),.int .i64 n]] w fun r w'=>r=.returned (.tuple #[])∧∃c',Step No c w c' w'∧Ok c' w':=by
 have s1:Step No c w c (w.alloc (.cells #[.pointer (some ⟨p,0,none⟩),.int .i64 n] 115)):=Step.refl.alloc _;have a1:=At.new0 hok [.pointer (some ⟨p,0,none⟩),.int .i64 n] 115;have o1:=hok.alloc (.cells #[.pointer (some ⟨p,0,none⟩),.int .i64 n] 115);have E:=zaY o1 (h.kn s1);have hle:=h.le;have hfew:=h.few;obtain ⟨W1,hW1⟩:=jE (w.alloc (.cells #[.pointer (some ⟨p,0,none⟩),.int .i64 n] 115));obtain ⟨bx,hbx⟩:=jE w.heap.size;have h1:=h.kn s1;rw [hW1] at s1 o1 E a1 h1;rw [hbx] at a1;have y0:=a1.get (i:=0) rfl;have X1:=jh3 s1 a1 h1;clear s1 o1 a1 h hok h1;by_cases hlt:a<bs.length
 ·have he:endF bs a (0,x)=(4,(a:Int)):=by unfold endF;rw [if_pos ⟨rfl,hlt⟩]
  rw [he] at E;go_enter func52,ntmps52;go_wp2_with fail
  (try rw [hW1])
  (try rw [hbx])
  refine E.mono ?_;rintro e w2 ⟨rfl,c2,s2,o2⟩;have a2:=X1.out.2.1.keep s2 jI;have s3:Step No c2 w2 c2 (w2.alloc (.cells #[.int .i64 4,.int .i64 a] 74)):=Step.refl.alloc _;have f3:=At.new0 o2 [.int .i64 4,.int .i64 a] 74;have o3:=o2.alloc (.cells #[.int .i64 4,.int .i64 a] 74);have a3:=a2.keep s3 jI;have R:=rest_ok (((X1.out.2.2.kn s2).kn s3).kn (Step.rf.drewN 1)) rfl;obtain ⟨W3,hW3⟩:=jE (w2.alloc (.cells #[.int .i64 4,.int .i64 a] 74));obtain ⟨fb,hfb⟩:=jE w2.heap.size;have K1:(fun W:World=>W.cell? ⟨bx,0,none⟩=some (.pointer (some ⟨p,0,none⟩))∧W.cell? ⟨fb,0,none⟩=some (.int .i64 4)∧W.cell? ⟨fb,1,none⟩=some (.int .i64 a)) W3.drew:=by rw [←hW3,←hfb];exact ⟨a3.get (i:=0) rfl,f3.get (i:=0) rfl,f3.get (i:=1) rfl⟩
  rw [hW3] at s3 o3 R;have X3:=jh2 ((X1.out.1.trans s2).trans s3) o3;have hg:(0:Int)<(bs.length:Int)-(a:Int):=by omega
  have hgd:decide ((0:Int)<(bs.length:Int)-(a:Int))=true:=by simp;omega
  clear E s2 o2 a2 s3 f3 o3 a3 y0;go_wp2_with fail
  (try rw [hW3])
  (try rw [hfb])
  refine zac (fun W=>W.cell? ⟨bx,0,none⟩=some (.pointer (some ⟨p,0,none⟩))∧W.cell? ⟨fb,0,none⟩=some (.int .i64 4)∧W.cell? ⟨fb,1,none⟩=some (.int .i64 a)) (fun _=>true) (by kernel_rfl) ?_;refine tk3 0 _ 6 rfl rfl K1 ?_;refine tk3 1 _ 7 rfl rfl K1 ?_;refine tk3 2 _ 8 rfl rfl K1 ?_;refine tk3 3 _ 9 rfl rfl K1 ?_;refine tk3 4 _ 10 rfl rfl K1 ?_;refine tk3 5 _ 11 rfl rfl K1 ?_;refine tk3 9 _ 15 rfl rfl K1 ?_;refine tk3 10 _ 16 rfl rfl K1 ?_;refine tk3 11 _ 17 rfl rfl K1 ?_;refine tk3 12 _ 18 rfl rfl K1 ?_;refine zab.one (i:=6) (by kernel_rfl) rfl (fun KQ hK=>?_);go_simp;refine R.mono ?_;rintro e w4 ⟨rfl,m,rfl⟩;have X4:=jh2 (X3.out.1.drewN (1+m)) (X3.out.2.drewN (1+m));go_simp;refine hK.out _ _ (fun _=>K1) ?_;clear hK KQ
  (try simp only [jS])
  refine tk3 7 _ 13 rfl rfl K1 ?_;refine tk3 8 _ 14 rfl rfl K1 ?_;refine zab.one (i:=13) (by kernel_rfl) rfl (fun KQ hK=>?_);go_simp;refine (zaX _ 4 (a:Int)).mono ?_;rintro e w5 ⟨rfl,rfl⟩;go_simp;refine hK.out _ _ (fun _=>K1) ?_;clear hK KQ
  (try simp only [jS])
  refine zab.done (by kernel_rfl) ?_ _;go_wp2_with fail
  first | go_end0 | refine bodyPost_ret (results_none rfl _ _ _) rfl ?_
  exact ⟨rfl,c2,X4.out⟩
 ·have he:endF bs a (0,x)=(0,x):=by unfold endF;rw [if_neg (fun h=>hlt h.2)]
  rw [he] at E;go_enter func52,ntmps52;go_wp2_with fail
  (try rw [hW1])
  (try rw [hbx])
  refine E.mono ?_;rintro e w2 ⟨rfl,c2,s2,o2⟩;have s3:Step No c2 w2 c2 (w2.alloc (.cells #[.int .i64 0,.int .i64 x] 74)):=Step.refl.alloc _;have f3:=At.new0 o2 [.int .i64 0,.int .i64 x] 74;have o3:=o2.alloc (.cells #[.int .i64 0,.int .i64 x] 74);obtain ⟨W3,hW3⟩:=jE (w2.alloc (.cells #[.int .i64 0,.int .i64 x] 74));obtain ⟨fb,hfb⟩:=jE w2.heap.size;have K1:(fun W:World=>W.cell? ⟨fb,0,none⟩=some (.int .i64 0)∧W.cell? ⟨fb,1,none⟩=some (.int .i64 x)) W3.drew:=by rw [←hW3,←hfb];exact ⟨f3.get (i:=0) rfl,f3.get (i:=1) rfl⟩
  rw [hW3] at s3 o3;have X3:=jh2 (((X1.out.1.trans s2).trans s3).drewN 1) (o3.drewN 1);have HW3:=jh1 hW3;clear E s2 o2 s3 f3 o3 y0 hW3;go_wp2_with fail
  (try rw [HW3.out])
  (try rw [hfb])
  refine zac (fun W=>W.cell? ⟨fb,0,none⟩=some (.int .i64 0)∧W.cell? ⟨fb,1,none⟩=some (.int .i64 x)) (fun _=>true) (by kernel_rfl) ?_;refine tk2 0 _ 6 rfl rfl K1 ?_;refine tk2 1 _ 7 rfl rfl K1 ?_;refine tk2 2 _ 8 rfl rfl K1 ?_;refine tk2 3 _ 9 rfl rfl K1 ?_;refine tku 4 _ 10 rfl rfl K1 ?_;refine tku 5 _ 11 rfl rfl K1 ?_;refine tku 6 _ 12 rfl rfl K1 ?_;refine tku 7 _ 13 rfl rfl K1 ?_;refine tk2 8 _ 14 rfl rfl K1 ?_;refine tk2 9 _ 15 rfl rfl K1 ?_;refine tk2 10 _ 16 rfl rfl K1 ?_;refine tk2 11 _ 17 rfl rfl K1 ?_;refine tk2 12 _ 18 rfl rfl K1 ?_;refine zab.one (i:=13) (by kernel_rfl) rfl (fun KQ hK=>?_);go_simp;refine (zaX _ 0 x).mono ?_;rintro e w5 ⟨rfl,rfl⟩;go_simp;refine hK.out _ _ (fun _=>K1) ?_;clear hK KQ
  (try simp only [jS])
  refine zab.done (by kernel_rfl) ?_ _;go_wp2_with fail
  first | go_end0 | refine bodyPost_ret (results_none rfl _ _ _) rfl ?_
  exact ⟨rfl,c2,X3.out⟩
end
