/- ServerReplies, part 13: lemmas, each with its own conditions. -/
import Derived.Test.YtgcobbapaaihiaaGreatSz12
import Derived.LoopN
set_option linter.all false
set_option maxHeartbeats 12800000
set_option maxRecDepth 100000
open Go.Proofs.Tryz
namespace Go.Proofs.YtgcobbapaaihiaaGreat
open Go.RowKit
def wayT (g:Int→Blo→Int×Blo) (s:Srv) (h id:Int):List UInt8:=ansT (zbG s.chain h).isSome (g id (zba s.chain h))
section
variable {c:Col}{w:World}
theorem Sl.fst {k:Nat}{va:Option Addr}{vn:Nat}{l:List UInt8}(h:Sl zag c k 0 w (.slice va l.length vn) l) (n:Nat) (hn:n≤l.length):Sl zag c k 0 w (.slice va n vn) (l.take n)∧n≤vn:=by
 rcases h with ⟨rfl,a,cap,e,h1,h2⟩ | ⟨b,off,cap,e,h1,h2,h3,h4,h5⟩
 ·have:n=0:=by simpa using hn
  subst this
  cases e
  exact ⟨.inl ⟨rfl,_,_,rfl,h1,h2⟩,Nat.zero_le _⟩
 ·cases e
  have hl:(l.take n).length=n:=by rw [List.length_take];omega
  refine ⟨.inr ⟨b,off,vn,by rw [hl],by omega,h2,h3,h4,fun i x hx=>h5 i x ?_⟩,by omega⟩;rw [List.getElem?_take] at hx
  split at hx
  ·exact hx
  ·cases hx
theorem wplain_any (hok:Ok c w) {s:Srv}{k kd db:Nat}{vc vo vm:Value}(hs:s.At c k w vc vo vm) {id h ticks:Int}(hid:idB id=true) (hd:At c w db kd (deskC s vc vo vm id h ticks)) (kx:Nat) :
  Calls prog 61 #[.pointer (some ⟨db,0,none⟩)] w fun r w'=>∃v,r=.returned v∧∃c',Sl zag c' kx 0 w' v (wayT gStay s h id)∧Step No c w c' w'∧Ok c' w':=by
 have OW:=own_any hok hs hd;have X:=jh2 hd hid;clear hok hs hd hid;go_enter func61,ntmps61;go_wp2_with fail;refine OW.mono ?_;rintro e w1 ⟨bc,bv,rfl,c1,b1,s1,o1⟩;clear OW;obtain ⟨G,hG⟩:=jE (zba s.chain h);obtain ⟨T,hT⟩:=jE ((zbG s.chain h).isSome);have hW:wayT gStay s h id=ansT T (gStay id G):=by unfold wayT;rw [hG,hT]
 rw [hG] at b1 ⊢;rw [hT];obtain ⟨Z,hZ,hz⟩:=zaW;have hl:=zal b1.h b1.hash bc bv;obtain ⟨W2,c2,hW2,a2,o2,s2,t1,t2,t3,t4⟩:=stnew o1 hZ hl (zaF b1) zah (q:=1) (by decide);obtain ⟨xb,hxb⟩:=jE w1.heap.size;rw [hxb] at hW2 a2 t1;have DA:=zbw o2 ((X.out.1.kn s1).kn s2) X.out.2 (b1.kn s2) stay_turns T kx;rw [←hW] at DA;obtain ⟨B,hB⟩:=jE (zau G bc bv);rw [hB] at DA hW2 a2 t1 t2 t3 t4 ⊢;have SL:=jh8 t1 t2 t3 a2.cells t4 hz (s1.trans s2) hW2;clear t1 t2 t3 a2 t4 hz hW2 s1 s2 o1 o2 b1 hl hB hZ hW hG hT X;go_wp2_with (first | (refine zaa rfl (some 3) rfl 59 rfl SL.out.2.2.2.2.2.1 ?_;rw [hxb]) | (refine wpList_store_mid rfl 59 _ _ rfl xb 0 B.toArray rfl rfl SL.out.1 SL.out.2.1 SL.out.2.2.1 ?_;rw [SL.out.2.2.2.2.2.2.2]) | (refine wpList_load_mid rfl 59 _ rfl xb 0 rfl B _ SL.out.2.2.2.1 underlying59 rfl SL.out.2.2.2.2.1 ?_));refine DA.mono ?_;rintro e w3 ⟨v,rfl,c3,sl3,s3,o3⟩;have X:=jh3 sl3 (SL.out.2.2.2.2.2.2.1.trans s3) o3;clear DA sl3 s3 o3;go_wp2;go_ret;exact ⟨v,rfl,c3,X.out⟩
theorem wbroken_any (hok:Ok c w) {s:Srv}{k kd db:Nat}{vc vo vm:Value}(hs:s.At c k w vc vo vm) {id h ticks:Int}(hid:idB id=true) (hd:At c w db kd (deskC s vc vo vm id h ticks)) (kx:Nat) :
  Calls prog 65 #[.pointer (some ⟨db,0,none⟩)] w fun r w'=>∃v,r=.returned v∧∃c',Sl zag c' kx 0 w' v (wayT zbf s h id)∧Step No c w c' w'∧Ok c' w':=by
 have OW:=own_any hok hs hd;have X:=jh2 hd hid;clear hok hs hd hid;go_enter func65,ntmps65;go_wp2_with fail;refine OW.mono ?_;rintro e w1 ⟨bc,bv,rfl,c1,b1,s1,o1⟩;clear OW;obtain ⟨G,hG⟩:=jE (zba s.chain h);obtain ⟨T,hT⟩:=jE ((zbG s.chain h).isSome);have hW:wayT zbf s h id=ansT T (zbf id G):=by unfold wayT;rw [hG,hT]
 rw [hG] at b1 ⊢;rw [hT];obtain ⟨Z,hZ,hz⟩:=zaW;have hl:=zal b1.h b1.hash bc bv;obtain ⟨W2,c2,hW2,a2,o2,s2,t1,t2,t3,t4⟩:=stnew o1 hZ hl (zaF b1) zah (q:=1) (by decide);obtain ⟨xb,hxb⟩:=jE w1.heap.size;rw [hxb] at hW2 a2 t1;have DA:=zbw o2 ((X.out.1.kn s1).kn s2) X.out.2 (b1.kn s2) broken_turns T kx;rw [←hW] at DA;obtain ⟨B,hB⟩:=jE (zau G bc bv);rw [hB] at DA hW2 a2 t1 t2 t3 t4 ⊢;have SL:=jh8 t1 t2 t3 a2.cells t4 hz (s1.trans s2) hW2;clear t1 t2 t3 a2 t4 hz hW2 s1 s2 o1 o2 b1 hl hB hZ hW hG hT X;go_wp2_with (first | (refine zaa rfl (some 3) rfl 59 rfl SL.out.2.2.2.2.2.1 ?_;rw [hxb]) | (refine wpList_store_mid rfl 59 _ _ rfl xb 0 B.toArray rfl rfl SL.out.1 SL.out.2.1 SL.out.2.2.1 ?_;rw [SL.out.2.2.2.2.2.2.2]) | (refine wpList_load_mid rfl 59 _ rfl xb 0 rfl B _ SL.out.2.2.2.1 underlying59 rfl SL.out.2.2.2.2.1 ?_));refine DA.mono ?_;rintro e w3 ⟨v,rfl,c3,sl3,s3,o3⟩;have X:=jh3 sl3 (SL.out.2.2.2.2.2.2.1.trans s3) o3;clear DA sl3 s3 o3;go_wp2;go_ret;exact ⟨v,rfl,c3,X.out⟩
theorem wpoor_any (hok:Ok c w) {s:Srv}{k kd db:Nat}{vc vo vm:Value}(hs:s.At c k w vc vo vm) {id h ticks:Int}(hid:idB id=true) (hd:At c w db kd (deskC s vc vo vm id h ticks)) (kx:Nat) :
  Calls prog 66 #[.pointer (some ⟨db,0,none⟩)] w fun r w'=>∃v,r=.returned v∧∃c',Sl zag c' kx 0 w' v (wayT gPoor s h id)∧Step No c w c' w'∧Ok c' w':=by
 have OW:=own_any hok hs hd;have X:=jh2 hd hid;clear hok hs hd hid;go_enter func66,ntmps66;go_wp2_with fail;refine OW.mono ?_;rintro e w1 ⟨bc,bv,rfl,c1,b1,s1,o1⟩;clear OW;obtain ⟨G,hG⟩:=jE (zba s.chain h);obtain ⟨T,hT⟩:=jE ((zbG s.chain h).isSome);have hW:wayT gPoor s h id=ansT T (gPoor id G):=by unfold wayT;rw [hG,hT]
 rw [hG] at b1 ⊢;rw [hT];obtain ⟨Z,hZ,hz⟩:=zaW;have hl:=zal b1.h b1.hash bc bv;obtain ⟨W2,c2,hW2,a2,o2,s2,t1,t2,t3,t4⟩:=stnew o1 hZ hl (zaF b1) zah (q:=1) (by decide);obtain ⟨xb,hxb⟩:=jE w1.heap.size;rw [hxb] at hW2 a2 t1;have DA:=zbw o2 ((X.out.1.kn s1).kn s2) X.out.2 (b1.kn s2) poor_turns T kx;rw [←hW] at DA;obtain ⟨B,hB⟩:=jE (zau G bc bv);rw [hB] at DA hW2 a2 t1 t2 t3 t4 ⊢;have SL:=jh8 t1 t2 t3 a2.cells t4 hz (s1.trans s2) hW2;clear t1 t2 t3 a2 t4 hz hW2 s1 s2 o1 o2 b1 hl hB hZ hW hG hT X;go_wp2_with (first | (refine zaa rfl (some 3) rfl 59 rfl SL.out.2.2.2.2.2.1 ?_;rw [hxb]) | (refine wpList_store_mid rfl 59 _ _ rfl xb 0 B.toArray rfl rfl SL.out.1 SL.out.2.1 SL.out.2.2.1 ?_;rw [SL.out.2.2.2.2.2.2.2]) | (refine wpList_load_mid rfl 59 _ rfl xb 0 rfl B _ SL.out.2.2.2.1 underlying59 rfl SL.out.2.2.2.2.1 ?_));refine DA.mono ?_;rintro e w3 ⟨v,rfl,c3,sl3,s3,o3⟩;have X:=jh3 sl3 (SL.out.2.2.2.2.2.2.1.trans s3) o3;clear DA sl3 s3 o3;go_wp2;go_ret;exact ⟨v,rfl,c3,X.out⟩
theorem wodd_any (hok:Ok c w) {s:Srv}{k kd db:Nat}{vc vo vm:Value}(hs:s.At c k w vc vo vm) {id h ticks:Int}(hid:idB id=true) (hd:At c w db kd (deskC s vc vo vm id h ticks)) (kx:Nat) :
  Calls prog 68 #[.pointer (some ⟨db,0,none⟩)] w fun r w'=>∃v,r=.returned v∧∃c',Sl zag c' kx 0 w' v (wayT gOdd s h id)∧Step No c w c' w'∧Ok c' w':=by
 have OW:=own_any hok hs hd;have X:=jh2 hd hid;clear hok hs hd hid;go_enter func68,ntmps68;go_wp2_with fail;refine OW.mono ?_;rintro e w1 ⟨bc,bv,rfl,c1,b1,s1,o1⟩;clear OW;obtain ⟨G,hG⟩:=jE (zba s.chain h);obtain ⟨T,hT⟩:=jE ((zbG s.chain h).isSome);have hW:wayT gOdd s h id=ansT T (gOdd id G):=by unfold wayT;rw [hG,hT]
 rw [hG] at b1 ⊢;rw [hT];obtain ⟨Z,hZ,hz⟩:=zaW;have hl:=zal b1.h b1.hash bc bv;obtain ⟨W2,c2,hW2,a2,o2,s2,t1,t2,t3,t4⟩:=stnew o1 hZ hl (zaF b1) zah (q:=1) (by decide);obtain ⟨xb,hxb⟩:=jE w1.heap.size;rw [hxb] at hW2 a2 t1;have DA:=zbw o2 ((X.out.1.kn s1).kn s2) X.out.2 (b1.kn s2) odd_turns T kx;rw [←hW] at DA;obtain ⟨B,hB⟩:=jE (zau G bc bv);rw [hB] at DA hW2 a2 t1 t2 t3 t4 ⊢;have SL:=jh8 t1 t2 t3 a2.cells t4 hz (s1.trans s2) hW2;clear t1 t2 t3 a2 t4 hz hW2 s1 s2 o1 o2 b1 hl hB hZ hW hG hT X;go_wp2_with (first | (refine zaa rfl (some 3) rfl 59 rfl SL.out.2.2.2.2.2.1 ?_;rw [hxb]) | (refine wpList_store_mid rfl 59 _ _ rfl xb 0 B.toArray rfl rfl SL.out.1 SL.out.2.1 SL.out.2.2.1 ?_;rw [SL.out.2.2.2.2.2.2.2]) | (refine wpList_load_mid rfl 59 _ rfl xb 0 rfl B _ SL.out.2.2.2.1 underlying59 rfl SL.out.2.2.2.2.1 ?_));refine DA.mono ?_;rintro e w3 ⟨v,rfl,c3,sl3,s3,o3⟩;have X:=jh3 sl3 (SL.out.2.2.2.2.2.2.1.trans s3) o3;clear DA sl3 s3 o3;go_wp2;go_ret;exact ⟨v,rfl,c3,X.out⟩
theorem wquiet_any (hok:Ok c w) (db kx:Nat) :
  Calls prog 60 #[.pointer (some ⟨db,0,none⟩)] w fun r w'=>∃v,r=.returned v∧∃c',Sl zag c' kx 0 w' v []∧Step No c w c' w'∧Ok c' w':=by
 go_enter func60,ntmps60;go_wp2;go_ret;exact ⟨_,rfl,c,Sl.nil _ _ _ _ _,Step.refl,hok⟩
theorem wcut_any (hok:Ok c w) {s:Srv}{k kd db:Nat}{vc vo vm:Value}(hs:s.At c k w vc vo vm) {id h ticks:Int}(hid:idB id=true) (hd:At c w db kd (deskC s vc vo vm id h ticks)) (kx:Nat) :
  Calls prog 63 #[.pointer (some ⟨db,0,none⟩)] w fun r w'=>∃v,r=.returned v∧∃c',Sl zag c' kx 0 w' v ((wayT gStay s h id).take ((wayT gStay s h id).length-1))∧Step No c w c' w'∧Ok c' w':=by
 have PL:=wplain_any hok hs hid hd kx;obtain ⟨L,hL⟩:=jE (wayT gStay s h id);rw [hL] at PL ⊢;clear hok hs hd hid hL;go_enter func63,ntmps63;go_wp2_with fail;refine PL.mono ?_;rintro e w1 ⟨v,rfl,c1,sl1,s1,o1⟩;obtain ⟨va,vn,rfl,hv⟩:=sl1.form;have hfs:=sl1.fst (L.length-1) (by omega)
 have hw:max (wrap64 ((L.length:Int)-1)) 0=((L.length-1:Nat):Int):=by
  have hle:=sl1.length_le;simp only [maxLen] at hle;have:wrap64 ((L.length:Int)-1)=(L.length:Int)-1:=by unfold wrap64;omega
  rw [this];omega
 have hc:((L.length-1:Nat):Int)≤(vn:Int):=by
  have:=hfs.2;omega
 have hx:Sl zag c1 kx 0 w1 (.slice va (L.length-1) vn) (L.take (L.length-1)):=hfs.1;have X:=jh3 hx s1 o1;clear PL sl1 s1 o1 hv hx hfs;have h0:(0:Int)≤((L.length-1:Nat):Int):=by omega
 obtain ⟨M,hM⟩:=jE (L.length-1);rw [hM] at hw hc X h0;have hM2:=jh1 hM;clear hM;go_wp2;go_ret;rw [hM2.out];exact ⟨_,rfl,c1,X.out⟩
theorem wlate_any (hok:Ok c w) {s:Srv}{k kd db:Nat}(hk:¬k=kd) (hkd:kd≠0) {vc vo vm:Value}(hs:s.At c k w vc vo vm) {id h ticks:Int}(hid:idB id=true) (hd:At c w db kd (deskC s vc vo vm id h ticks)) (ht:IntKind.i64.wrap (ticks+s.slow)=ticks+s.slow) (kx:Nat) :
  Calls prog 62 #[.pointer (some ⟨db,0,none⟩)] w fun r w'=>∃v,r=.returned v∧∃c',Sl zag c' kx 0 w' v (wayT gStay s h id)∧At c' w' db kd (deskC s vc vo vm id h (ticks+s.slow))∧Step (One kd) c w c' w'∧Ok c' w':=by
 have a2:=hd.setN (i:=7) (by simp [deskC]) (.int .i64 (ticks+s.slow));have e2:(deskC s vc vo vm id h ticks).set 7 (.int .i64 (ticks+s.slow))=deskC s vc vo vm id h (ticks+s.slow):=rfl;rw [e2] at a2;have s2:Step (One kd) c w c (w.setCell ⟨db,7,none⟩ (.int .i64 (ticks+s.slow))):=(Step.refl (K:=One kd)).setCell (a:=⟨db,7,none⟩) (.inr hd.col) _;have o2:=hok.setCell ⟨db,7,none⟩ (.int .i64 (ticks+s.slow));have yf:=hd.fz hok hkd 7;have KK:(fun W:World=>W.cell? ⟨db,7,none⟩=some (.int .i64 ticks)∧W.cell? ⟨db,4,none⟩=some (.int .i64 s.slow)∧W.frozen? ⟨db,7,none⟩=false) w.drew:=⟨(hd.kn (Step.rf.drewN 1)).get (i:=7) rfl,(hd.kn (Step.rf.drewN 1)).get (i:=4) rfl,yf⟩;have a3:=a2.kn (Step.rf.drewN 1);have PL:=wplain_any (o2.drewN 1) ((hs.keep s2 hk).kn (Step.rf.drewN 1)) hid a3 kx;have X:=jh2 a3 (s2.drewN 1);obtain ⟨S,hS⟩:=jE s.slow;rw [hS] at KK PL X ht;have X2:=jh1 hS;clear hok hs hd hid a2 e2 s2 o2 yf a3 hk hS;go_enter func62,ntmps62;go_wp2_with fail;refine zac (fun W=>W.cell? ⟨db,7,none⟩=some (.int .i64 ticks)∧W.cell? ⟨db,4,none⟩=some (.int .i64 S)∧W.frozen? ⟨db,7,none⟩=false) (fun i=>!([12]:List Nat).contains i) (by kernel_rfl) ?_;refine tk3 0 _ 3 rfl rfl KK ?_;refine tk3 1 _ 4 rfl rfl KK ?_;refine tk3 2 _ 5 rfl rfl KK ?_;refine tk3 3 _ 6 rfl rfl KK ?_;refine zab.one (i:=4) (by kernel_rfl) rfl (fun KQ hK=>?_);go_simp;refine hK.out _ _ (fun _=>KK) ?_;clear hK KQ
 (try simp only [jS])
 refine zab.one (i:=5) (by kernel_rfl) rfl (fun KQ hK=>?_);go_simp;refine hK.out _ _ (fun _=>KK) ?_;clear hK KQ
 (try simp only [jS])
 refine zab.one (i:=6) (by kernel_rfl) rfl (fun KQ hK=>?_);go_simp;refine hK.out _ _ (fun _=>KK) ?_;clear hK KQ
 (try simp only [jS])
 refine zab.one (i:=7) (by kernel_rfl) rfl (fun KQ hK=>?_);go_simp;refine hK.out _ _ (fun _=>KK) ?_;clear hK KQ
 (try simp only [jS])
 refine zab.one (i:=8) (by kernel_rfl) rfl (fun KQ hK=>?_);go_simp;refine hK.out _ _ (fun _=>KK) ?_;clear hK KQ
 (try simp only [jS])
 refine zab.one (i:=9) (by kernel_rfl) rfl (fun KQ hK=>?_);go_simp;refine hK.out _ _ (fun _=>KK) ?_;clear hK KQ
 (try simp only [jS])
 refine zab.one (i:=10) (by kernel_rfl) rfl (fun KQ hK=>?_);go_simp;refine hK.out _ _ (fun _=>KK) ?_;clear hK KQ
 (try simp only [jS])
 refine zab.one (i:=11) (by kernel_rfl) rfl (fun KQ hK=>?_);go_simp;refine hK.out _ _ (fun _=>KK) ?_;clear hK KQ
 (try simp only [jS])
 refine zab.one (i:=12) (by kernel_rfl) rfl (fun KQ hK=>?_);go_simp;refine hK.out _ _ (fun h=>absurd h (by decide)) ?_;clear hK KQ
 (try simp only [jS])
 refine zab.done (by kernel_rfl) ?_ _;go_wp2_with fail;refine PL.mono ?_;rintro e w3 ⟨v,rfl,c3,sl3,s3,o3⟩;have X:=jh4 sl3 (X.out.1.kn s3) (X.out.2.trans s3.ofNo) o3;clear PL sl3 s3 o3;go_wp2;go_ret;rw [X2.out];exact ⟨v,rfl,c3,X.out⟩
end
def offT (s:Srv) (h id:Int):List UInt8:=if (zbG s.chain (h+1)).isSome=true then ansB (id,zba s.chain (h+1)) else if (zbG s.chain (h-1)).isSome=true then ansB (id,zba s.chain (h-1)) else []
section
variable {c:Col}{w:World}
theorem woff_any (hok:Ok c w) {s:Srv}{k kd db:Nat}{vc vo vm:Value}(hs:s.At c k w vc vo vm) {id h ticks:Int}(hid:idB id=true) (hh:0≤h∧h≤4611686018427387904) (hd:At c w db kd (deskC s vc vo vm id h ticks)) (kx:Nat) :
  Calls prog 64 #[.pointer (some ⟨db,0,none⟩)] w fun r w'=>∃v,r=.returned v∧∃c',Sl zag c' kx 0 w' v (offT s h id)∧Step No c w c' w'∧Ok c' w':=by
 have hp:IntKind.i64.wrap (h+1)=h+1:=IntWalk.i64_in _ (by omega);have hm:IntKind.i64.wrap (h-1)=h-1:=IntWalk.i64_in _ (by omega);have hix0:=fun W=>(index2 (h+1) (h-1) W).1;have hix1:=fun W=>(index2 (h+1) (h-1) W).2;obtain ⟨vca,vcc,rfl,_⟩:=hs.chain.form;have KK:(fun W:World=>W.cell? ⟨db,6,none⟩=some (.int .i64 h)) w.drew:=(hd.kn (Step.rf.drewN 1)).get (i:=6) rfl;have y0:w.drew.cell? ⟨db,0,none⟩=some (.slice vca s.chain.length vcc):=(hd.kn (Step.rf.drewN 1)).get (i:=0) rfl;have s0:Step No c w c w.drew:=Step.rf.drewN 1;have G1:=get_any (show Ok c w.drew from hok.drewN 1) (hs.chain.kn s0) hs.nchain (h+1);have X:=jh5 (hs.kn s0) (hd.kn s0) s0 (show Ok c w.drew from hok.drewN 1) hid;clear hs hok hd hid s0;have hO:offT s h id=if (zbG s.chain (h+1)).isSome=true then ansB (id,zba s.chain (h+1)) else if (zbG s.chain (h-1)).isSome=true then ansB (id,zba s.chain (h-1)) else []:=rfl
 obtain ⟨R,hR⟩:=jE (offT s h id);rw [hR] at hO ⊢;have HO:=jh1 hO;obtain ⟨Z,hZ,hz⟩:=zaW;clear hO hR;go_enter func64,ntmps64;go_wp2_with fail;refine zac (fun W=>W.cell? ⟨db,6,none⟩=some (.int .i64 h)) (fun _=>true) (by kernel_rfl) ?_;refine tk1 0 _ 7 rfl rfl KK ?_;refine tk1 1 _ 8 rfl rfl KK ?_;refine tk1 2 _ 9 rfl rfl KK ?_;refine tk1 3 _ 10 rfl rfl KK ?_;refine tk1 4 _ 11 rfl rfl KK ?_;refine tk1 5 _ 12 rfl rfl KK ?_;refine tk1 6 _ 13 rfl rfl KK ?_;refine tk1 7 _ 14 rfl rfl KK ?_;refine tk1 8 _ 15 rfl rfl KK ?_;refine tk1 9 _ 16 rfl rfl KK ?_;refine tk1 10 _ 17 rfl rfl KK ?_;refine tk1 11 _ 18 rfl rfl KK ?_;refine tk1 12 _ 19 rfl rfl KK ?_;refine tk1 13 _ 20 rfl rfl KK ?_;refine zab.done (by kernel_rfl) ?_ _;go_wp2_with fail;refine wp_loop_rounds 3 ?_;rw [rounds_succ];go_wp2_with fail;refine G1.mono ?_;rintro e w1 ⟨bc,bv,rfl,c1,b1,s1,o1⟩;clear G1;obtain ⟨G,hG⟩:=jE (zba s.chain (h+1));rw [hG] at b1 ⊢;have hl:=zal b1.h b1.hash bc bv;obtain ⟨W2,c2,hW2,a2,o2,s2,t1,t2,t3,t4⟩:=stnew o1 hZ hl (zaF b1) zah (q:=1) (by decide);obtain ⟨xb,hxb⟩:=jE w1.heap.size;rw [hxb] at hW2 a2 t1
 cases hT:(zbG s.chain (h+1)).isSome with
 | true=>
  have DA:=zbw o2 ((X.out.2.1.kn s1).kn s2) X.out.2.2.2.2 (b1.kn s2) stay_turns true kx;have hRR:R=ansT true (gStay id G):=by rw [HO.out,if_pos hT,hG];rfl
  have HR:=jh1 hRR;rw [←hRR] at DA;obtain ⟨B,hB⟩:=jE (zau G bc bv);rw [hB] at DA hW2 a2 t1 t2 t3 t4 ⊢;have SL:=jh8 t1 t2 t3 a2.cells t4 hz ((X.out.2.2.1.trans s1).trans s2) hW2;clear t1 t2 t3 a2 t4 hz hW2 s1 s2 o1 o2 b1 hl hB hZ hG hT X hRR HO;go_wp2_with (first | (refine zaa rfl (some 5) rfl 59 rfl SL.out.2.2.2.2.2.1 ?_;rw [hxb]) | (refine wpList_store_mid rfl 59 _ _ rfl xb 0 B.toArray rfl rfl SL.out.1 SL.out.2.1 SL.out.2.2.1 ?_;rw [SL.out.2.2.2.2.2.2.2]) | (refine wpList_load_mid rfl 59 _ rfl xb 0 rfl B _ SL.out.2.2.2.1 underlying59 rfl SL.out.2.2.2.2.1 ?_));refine DA.mono ?_;rintro e w3 ⟨v,rfl,c3,sl3,s3,o3⟩;have X:=jh3 sl3 (SL.out.2.2.2.2.2.2.1.trans s3) o3;clear DA sl3 s3 o3;go_wp2;go_ret;exact ⟨v,rfl,c3,X.out⟩
 | false=>
  have G2:=get_any o2 (((X.out.1.kn s1).kn s2).chain) (X.out.1).nchain (h-1);have y02:W2.cell? ⟨db,0,none⟩=some (.slice vca s.chain.length vcc):=((X.out.2.1.kn s1).kn s2).get (i:=0) rfl;obtain ⟨B,hB⟩:=jE (zau G bc bv);rw [hB] at hW2 a2 t1 t2 t3 t4 ⊢;have SL:=jh9 t1 t2 t3 ((X.out.2.1.kn s1).kn s2) (show R=if (zbG s.chain (h-1)).isSome=true then ansB (id,zba s.chain (h-1)) else [] by rw [HO.out,if_neg (by simp [hT])]) hz ((X.out.2.2.1.trans s1).trans s2) hW2 X.out.2.2.2.2;clear t1 t2 t3 a2 t4 hW2 s1 s2 o1 o2 b1 hl hB hG hT X HO;go_wp2_with (first | (refine zaa rfl (some 5) rfl 59 rfl SL.out.2.2.2.2.2.1 ?_;rw [hxb]) | (refine wpList_store_mid rfl 59 _ _ rfl xb 0 B.toArray rfl rfl SL.out.1 SL.out.2.1 SL.out.2.2.1 ?_;rw [SL.out.2.2.2.2.2.2.2.1]));obtain ⟨t1,t2,t3,d2,hR2,hz,sAll,hW2,hid⟩:=SL.out;clear SL t1 t2 t3 hW2;have HO:=jh1 hR2;have X:=jh3 d2 sAll hid;clear d2 hR2 sAll hid;rw [rounds_succ];go_wp2_with fail;refine G2.mono ?_;rintro e w3 ⟨bc,bv,rfl,c3,b3,s3,o3⟩;clear G2;obtain ⟨G,hG⟩:=jE (zba s.chain (h-1));rw [hG] at b3 ⊢;have hl:=zal b3.h b3.hash bc bv;obtain ⟨W4,c4,hW4,a4,o4,s4,t1,t2,t3,t4⟩:=stnew o3 hZ hl (zaF b3) zah (q:=1) (by decide);obtain ⟨yb,hyb⟩:=jE w3.heap.size;rw [hyb] at hW4 a4 t1
  cases hT:(zbG s.chain (h-1)).isSome with
  | true=>
   have DA:=zbw o4 ((X.out.1.kn s3).kn s4) X.out.2.2 (b3.kn s4) stay_turns true kx;have hRR:R=ansT true (gStay id G):=by rw [HO.out,if_pos hT,hG];rfl
   have HR:=jh1 hRR;rw [←hRR] at DA;obtain ⟨B4,hB⟩:=jE (zau G bc bv);rw [hB] at DA hW4 a4 t1 t2 t3 t4 ⊢;have SL:=jh8 t1 t2 t3 a4.cells t4 hz ((X.out.2.1.trans s3).trans s4) hW4;clear t1 t2 t3 a4 t4 hz hW4 s3 s4 o3 o4 b3 hl hB hZ hG hT X hRR HO;go_wp2_with (first | (refine zaa rfl (some 5) rfl 59 rfl SL.out.2.2.2.2.2.1 ?_;rw [hyb]) | (refine wpList_store_mid rfl 59 _ _ rfl yb 0 B4.toArray rfl rfl SL.out.1 SL.out.2.1 SL.out.2.2.1 ?_;rw [SL.out.2.2.2.2.2.2.2]) | (refine wpList_load_mid rfl 59 _ rfl yb 0 rfl B4 _ SL.out.2.2.2.1 underlying59 rfl SL.out.2.2.2.2.1 ?_));refine DA.mono ?_;rintro e w5 ⟨v,rfl,c5,sl5,s5,o5⟩;have X:=jh3 sl5 (SL.out.2.2.2.2.2.2.1.trans s5) o5;clear DA sl5 s5 o5;go_wp2;go_ret;exact ⟨v,rfl,c5,X.out⟩
  | false=>
   have hRR:R=[]:=by rw [HO.out,if_neg (by simp [hT])]
   have HR:=jh1 hRR;obtain ⟨B4,hB⟩:=jE (zau G bc bv);rw [hB] at hW4 a4 t1 t2 t3 t4 ⊢;have SL:=jh7 t1 t2 t3 hz ((X.out.2.1.trans s3).trans s4) hW4 o4;clear t1 t2 t3 a4 t4 hz hW4 s3 s4 o3 o4 b3 hl hB hZ hG hT X hRR HO;go_wp2_with (first | (refine zaa rfl (some 5) rfl 59 rfl SL.out.2.2.2.1 ?_;rw [hyb]) | (refine wpList_store_mid rfl 59 _ _ rfl yb 0 B4.toArray rfl rfl SL.out.1 SL.out.2.1 SL.out.2.2.1 ?_;rw [SL.out.2.2.2.2.2.1]));rw [rounds_succ];go_wp2;go_ret;rw [HR.out];exact ⟨_,rfl,c4,Sl.nil _ _ _ _ _,SL.out.2.2.2.2.1,SL.out.2.2.2.2.2.2⟩
end
section
variable {P:Program}{ops:Array Oper}{Q:Exit→Act→World→Prop}{S:World→Prop}{D:Nat→Bool}
theorem zab.forkE {n m:Nat}{done doneF:Array Bool}{a:Act}{w:World}{ι:Type}(ps:ι→List (Nat×Value)) (R:ι→World→Prop)
  (h1:(∀x W2,R x W2→zab P ops Q S D m doneF ((ps x).foldl (fun a p=>a.put (some p.1) p.2) a) W2)→zab P ops Q S D n done a w)
  (h2:∀x W2,R x W2→zab P ops Q S D m doneF ((ps x).foldl (fun a p=>a.put (some p.1) p.2) a) W2):zab P ops Q S D n done a w:=h1 h2
end
def otherT (s:Srv) (h id:Int):List UInt8:=if (zbG s.other h).isSome=true then ansB (id,zba s.other h) else wayT gStay s h id
section
variable {c:Col}{w:World}
theorem wother_any (hok:Ok c w) {s:Srv}{k kd db:Nat}{vc vo vm:Value}(hs:s.At c k w vc vo vm) {id h ticks:Int}(hid:idB id=true) (hd:At c w db kd (deskC s vc vo vm id h ticks)) (kx:Nat) :
  Calls prog 67 #[.pointer (some ⟨db,0,none⟩)] w fun r w'=>∃v,r=.returned v∧∃c',Sl zag c' kx 0 w' v (otherT s h id)∧Step No c w c' w'∧Ok c' w':=by
 obtain ⟨q,hq,hqc⟩:=hok.top (k+kd);have hq0:q≠0:=by omega
 obtain ⟨voa,voc,rfl,_⟩:=hs.other.form;obtain ⟨Z,hZ,hz⟩:=zaW;have s0:Step No c w c w.drew:=Step.rf.drewN 1;have o0:Ok c w.drew:=hok.drewN 1;have K0:(fun W:World=>W.cell? ⟨db,1,none⟩=some (.slice voa s.other.length voc)∧W.cell? ⟨db,6,none⟩=some (.int .i64 h)) w.drew:=⟨(hd.kn s0).get (i:=1) rfl,(hd.kn s0).get (i:=6) rfl⟩;have KN:∀{c2:Col} {w2:World},Step No c w c2 w2→(fun W:World=>W.cell? ⟨db,1,none⟩=some (.slice voa s.other.length voc)∧W.cell? ⟨db,6,none⟩=some (.int .i64 h)) w2:=fun h2=>⟨(hd.kn h2).get (i:=1) rfl,(hd.kn h2).get (i:=6) rfl⟩;have G1:=get_any o0 (hs.kn s0).other hs.nother h;obtain ⟨an,on,sn⟩:=zan o0 Z 59 q;have G2:=get_any on (((hs.kn s0).kn sn).other) hs.nother h;have Ka:=KN (s0.trans sn);have hO:otherT s h id=if (zbG s.other h).isSome=true then ansB (id,zba s.other h) else wayT gStay s h id:=rfl
 obtain ⟨R,hR⟩:=jE (otherT s h id);rw [hR] at hO ⊢;have HO:=jh1 hO;have X:=jh8 hs hd hid s0 o0 an sn hqc;obtain ⟨T,hT⟩:=jE ((zbG s.other h).isSome);obtain ⟨G,hG⟩:=jE (zba s.other h);rw [hT,hG] at G1 G2 HO;clear hs hd hid s0 o0 an sn on hok hO hR hqc;go_enter func67,ntmps67;go_wp2_with fail;refine zac (fun W=>W.cell? ⟨db,1,none⟩=some (.slice voa s.other.length voc)∧W.cell? ⟨db,6,none⟩=some (.int .i64 h)) (fun _=>true) (by kernel_rfl) ?_;refine tk2 0 _ 6 rfl rfl K0 ?_;refine tk2 1 _ 7 rfl rfl K0 ?_;refine tk2 2 _ 8 rfl rfl K0 ?_;refine tk2 3 _ 9 rfl rfl K0 ?_;refine tk2 4 _ 10 rfl rfl K0 ?_;refine tk2 5 _ 11 rfl rfl K0 ?_;refine tk2 6 _ 12 rfl rfl K0 ?_;refine tk2 7 _ 13 rfl rfl K0 ?_;refine tk2 8 _ 14 rfl rfl K0 ?_;refine tk2 9 _ 15 rfl rfl K0 ?_;refine zab.forkE (m:=2) (doneF:=#[true,true,true,true,true,true,true,true,true,true,true,true,true,true,true,false,false]) (fun (x:Value×Value×Nat)=>[(16,.tuple #[.agg (zau G x.1 x.2.1).toArray,.bool T]),(5,.tuple #[.agg (zau G x.1 x.2.1).toArray,.bool T]),(17,.agg (zau G x.1 x.2.1).toArray),(18,.bool T),(3,.pointer (some ⟨x.2.2,0,none⟩))]) (fun (x:Value×Value×Nat)=>fun W=>∃c',G.At c' 0 W x.1 x.2.1∧At c' W x.2.2 q Z∧Step No c w c' W∧Ok c' W) (fun REST=>?_) (fun x W2 hR=>?_)
 ·(try simp only [List.foldl_cons,List.foldl_nil,Act.put,List.setIfInBounds_toArray,List.set_cons_zero,List.set_cons_succ] at REST)
  refine zab.fork2 (i:=10) (j:=14) (by kernel_rfl) rfl rfl (fun KQ hK=>?_) (fun KQ hK=>?_)
  ·go_simp
   refine G1.mono ?_;rintro e w2 ⟨bc,bv,rfl,c2,b2,s2,o2⟩;have Kb:=KN (X.out.2.2.2.1.trans s2);obtain ⟨a3,o3,s3⟩:=zan o2 Z 59 q;go_simp;refine hK.out _ _ (fun _=>Kb) ?_;clear hK KQ
   (try simp only [jS])
   refine tk2 11 _ 5 rfl rfl Kb ?_;refine tk2 12 _ 17 rfl rfl Kb ?_;refine tk2 13 _ 18 rfl rfl Kb ?_;refine zab.one (i:=14) (by kernel_rfl) rfl (fun KQ hK=>?_);have Kc:=KN ((X.out.2.2.2.1.trans s2).trans s3);refine zbz rfl (dd:=some 3) rfl 59 rfl hz ?_;refine hK.out _ _ (fun _=>Kc) ?_;clear hK KQ
   (try simp only [jS])
   exact (REST ((bc,bv,w2.heap.size)) _ (⟨_,b2.kn s3,a3,(X.out.2.2.2.1.trans s2).trans s3,o3⟩)).cast (by kernel_rfl)
  ·skip
   refine zbz rfl (dd:=some 3) rfl 59 rfl hz ?_;refine hK.out _ _ (fun _=>Ka) ?_;clear hK KQ
   (try simp only [jS])
   refine zab.one (i:=10) (by kernel_rfl) rfl (fun KQ hK=>?_);go_simp;refine G2.mono ?_;rintro e w2 ⟨bc,bv,rfl,c2,b2,s2,o2⟩;have Kb:=KN ((X.out.2.2.2.1.trans X.out.2.2.2.2.2.2.1).trans s2);go_simp;refine hK.out _ _ (fun _=>Kb) ?_;clear hK KQ
   (try simp only [jS])
   refine tk2 11 _ 5 rfl rfl Kb ?_;refine tk2 12 _ 17 rfl rfl Kb ?_;refine tk2 13 _ 18 rfl rfl Kb ?_;exact (REST ((bc,bv,w.drew.heap.size)) _ (⟨_,b2,X.out.2.2.2.2.2.1.kn s2,(X.out.2.2.2.1.trans X.out.2.2.2.2.2.2.1).trans s2,o2⟩)).cast (by kernel_rfl)
 (try simp only [List.foldl_cons,List.foldl_nil,Act.put,List.setIfInBounds_toArray,List.set_cons_zero,List.set_cons_succ])
 obtain ⟨bc,bv,xb⟩:=x;dsimp only at hR ⊢;obtain ⟨cr,br,ar,sr,or_⟩:=hR;have Kr:=KN sr;have hl:=zal br.h br.hash bc bv;have h1:=zaF br;obtain ⟨B,hB⟩:=jE (zau G bc bv);rw [hB] at hl h1 ⊢;have hi0:(prog.info? 59).map (·.size)=some B.length:=by rw [zah,hl]
 have hi1:(prog.info? 59).map (·.size)=some B.toArray.size:=by rw [zah];simp [hl]
 have ht0:=ar.there (o:=0) (n:=B.toArray.size) or_ hq0 (by simp [hl,hZ]);obtain ⟨_,a4⟩:=ar.st or_ hq0 (ty:=59) (us:=B) (by rw [hl,hZ]) hi0 h1;have s4:Step (One q) cr W2 cr (W2.setCells xb 0 B):=Step.setCells (K:=One q) (.inr ar.col) _ _ _ Step.refl;have b4:=br.keep s4 (show ¬0=q by omega);have o4:=Ok.setCells (b:=xb) B 0 _ or_;have hqc:=X.out.2.2.2.2.2.2.2;have sAll:Step No c w cr (W2.setCells xb 0 B):=((sr.ofNo (K:=One q)).trans s4).drop fun b _ (e:c b=q)=>by have:=hqc b;omega
 have Kz:=KN sAll;rw [←hB] at b4;have FL:=jh9 ht0 hi1 (all_oneCell_toArray h1) a4.cells hi0 b4 sAll o4 hB;clear ar br sr or_ hl h1 hi0 hi1 ht0 a4 s4 b4 o4 sAll hqc;refine zab.one (i:=15) (by kernel_rfl) rfl (fun KQ hK=>?_);refine zar rfl 59 _ _ rfl xb 0 B.toArray rfl rfl FL.out.1 FL.out.2.1 FL.out.2.2.1 ?_;simp only [List.toList_toArray];refine hK.out _ _ (fun _=>Kz) ?_;clear hK KQ
 (try simp only [jS])
 refine zab.one (i:=16) (by kernel_rfl) rfl (fun KQ hK=>?_);go_simp;refine hK.out _ _ (fun _=>Kz) ?_;clear hK KQ
 (try simp only [jS])
 refine zab.done (by kernel_rfl) ?_ _;obtain ⟨W3,hW3⟩:=jE (W2.setCells xb 0 B);rw [hB] at FL;rw [hW3] at FL ⊢;obtain ⟨_,_,_,f4,f5,f6,f7,f8,_⟩:=FL.out;have PL:=wplain_any f8 (X.out.1.kn f7) X.out.2.2.1 (X.out.2.1.kn f7) kx;have DA:=zbw f8 (X.out.2.1.kn f7) X.out.2.2.1 f6 stay_turns true kx;rw [hB] at DA;have FL2:=jh3 f4 f5 f7;have HO2:=jh2 HO.out (show ansT true (gStay id G)=ansB (id,G) from rfl);clear FL f4 f5 f6 f7 f8 Kz Kr hB hW3 hT hG HO KN K0 X;clear hz hZ;obtain ⟨L1,hL1⟩:=jE (ansT true (gStay id G));obtain ⟨L2,hL2⟩:=jE (wayT gStay s h id);obtain ⟨L3,hL3⟩:=jE (ansB (id,G));rw [hL1] at DA HO2;rw [hL2] at PL HO2;rw [hL3] at HO2;clear hL1 hL2 hL3
 cases T with
 | true=>
  go_wp2_with (refine wpList_load_mid rfl 59 _ rfl xb 0 rfl B _ FL2.out.1 underlying59 rfl FL2.out.2.1 ?_);refine DA.mono ?_;rintro e w4 ⟨v,rfl,c4,sl4,s4,o4⟩;have X:=jh3 sl4 (FL2.out.2.2.trans s4) o4;clear DA PL sl4 s4 o4;go_wp2;go_ret;have e:R=L1:=by rw [HO2.out.2];simpa using HO2.out.1
  rw [e];exact ⟨v,rfl,c4,X.out⟩
 | false=>
  go_wp2_with fail;refine PL.mono ?_;rintro e w4 ⟨v,rfl,c4,sl4,s4,o4⟩;have X:=jh3 sl4 (FL2.out.2.2.trans s4) o4;clear DA PL sl4 s4 o4;go_wp2;go_ret;have e:R=L2:=by simpa using HO2.out.1
  rw [e];exact ⟨v,rfl,c4,X.out⟩
end
def wayF (f db:Nat):Value:=.func (.func f) #[.pointer (some ⟨db,0,none⟩)] #[]
def waysC (db:Nat):List Value:=[wayF 60 db,wayF 61 db,wayF 60 db,wayF 62 db,wayF 63 db,wayF 64 db,wayF 65 db,wayF 66 db,wayF 67 db,wayF 68 db]
theorem waysC_one (db:Nat):∀v∈waysC db,v.oneCell'=true:=by
 intro v hv;simp only [waysC,List.mem_cons,List.not_mem_nil,or_false] at hv
 rcases hv with rfl | rfl | rfl | rfl | rfl | rfl | rfl | rfl | rfl | rfl <;> rfl
theorem zero_ways:∃Z,Z.length=10∧zaE prog 81 Z:=⟨zeroL 81,by kernel_rfl,by unfold zaE;kernel_rfl⟩
theorem info_ways:(prog.info? 81).map (·.size)=some 10:=by kernel_rfl
section
variable {c:Col}{w:World}
theorem ways_any (hok:Ok c w) (db:Nat) :
  Calls prog 34 #[.pointer (some ⟨db,0,none⟩)] w fun r w'=>r=.returned (.agg (waysC db).toArray)∧∃c',Step No c w c' w'∧Ok c' w':=by
 obtain ⟨Z,hZ,hz⟩:=zero_ways;obtain ⟨W1,c1,hW1,a1,o1,s1,t1,t2,t3,t4⟩:=stnew hok hZ (show (waysC db).length=10 from rfl) (waysC_one db) info_ways (q:=1) (by decide);obtain ⟨xb,hxb⟩:=jE w.heap.size;rw [hxb] at hW1 a1 t1;have SL:=jh9 t1 t2 t3 a1.cells t4 hz s1 hW1 o1;clear t1 t2 t3 a1 t4 hz hW1 s1 o1 hok hZ;go_enter func34,ntmps34;go_wp2_with (first | (refine zaa rfl (some 2) rfl 81 rfl SL.out.2.2.2.2.2.1 ?_;rw [hxb]) | (refine wpList_store_mid rfl 81 _ _ rfl xb 0 (waysC db).toArray rfl rfl SL.out.1 SL.out.2.1 SL.out.2.2.1 ?_;rw [SL.out.2.2.2.2.2.2.2.1]));refine bodyPost_ret (zad rfl _ _ xb 0 (waysC db) _ rfl SL.out.2.2.2.1 underlying81 rfl SL.out.2.2.2.2.1) rfl ⟨rfl,c1,SL.out.2.2.2.2.2.2.1,SL.out.2.2.2.2.2.2.2.2⟩
end
def outS (m:Int) (s:Srv) (h id:Int):List UInt8:=
 if m=1 then wayT gStay s h id else if m=3 then wayT gStay s h id else if m=4 then (wayT gStay s h id).take ((wayT gStay s h id).length-1) else if m=5 then offT s h id else if m=6 then wayT zbf s h id else if m=7 then wayT gPoor s h id else if m=8 then otherT s h id else if m=9 then wayT gOdd s h id else []
def tickS (m:Int) (s:Srv):Int:=if m=3 then s.delay+s.slow else s.delay
def fnW (m:Int):Nat:=
 if m=1 then 61 else if m=3 then 62 else if m=4 then 63 else if m=5 then 64 else if m=6 then 65 else if m=7 then 66 else if m=8 then 67 else if m=9 then 68 else 60
theorem mood_cases {m:Int}(h0:0<m) (h9:m<10):m=1∨m=2∨m=3∨m=4∨m=5∨m=6∨m=7∨m=8∨m=9:=by omega
theorem fnW_enters {m:Int}(h0:0<m) (h9:m<10) (args:Array Value) (w:World):(callFunc (fnW m) args).run prog w=.ok (.enter (fnW m) args) w:=by
 rcases mood_cases h0 h9 with rfl | rfl | rfl | rfl | rfl | rfl | rfl | rfl | rfl
 ·exact enters_of func61 (by kernel_rfl) rfl _ _
 ·exact enters_of func60 (by kernel_rfl) rfl _ _
 ·exact enters_of func62 (by kernel_rfl) rfl _ _
 ·exact enters_of func63 (by kernel_rfl) rfl _ _
 ·exact enters_of func64 (by kernel_rfl) rfl _ _
 ·exact enters_of func65 (by kernel_rfl) rfl _ _
 ·exact enters_of func66 (by kernel_rfl) rfl _ _
 ·exact enters_of func67 (by kernel_rfl) rfl _ _
 ·exact enters_of func68 (by kernel_rfl) rfl _ _
theorem index_ways {m:Int}(h0:0<m) (h9:m<10) (db:Nat) (W:World):(Instr.index 81 (.agg (waysC db).toArray) (.int .i64 m)).run prog W=.ok (wayF (fnW m) db) W:=by
 have hi:(prog.info? 80).map (·.size)=some 1:=by kernel_rfl
 have hs:(sizeOf 80).run prog W=.ok 1 W:=by
  cases hq:prog.info? 80 with
  | none=>rw [hq] at hi;cases hi
  | some i=>
   have:i.size=1:=by rw [hq] at hi;simpa using hi
   simp [sizeOf,typeInfo,hq,this]
 have hu:=run_underlying underlying81 W;have hu2:=run_underlying underlying80 W
 rcases mood_cases h0 h9 with rfl | rfl | rfl | rfl | rfl | rfl | rfl | rfl | rfl <;> simp [Instr.index,asIntOf,hu,hu2,part,isAgg,hs,Value.cells,waysC,fnW]
section
variable {c:Col}{w:World}
theorem way_any (hok:Ok c w) {s:Srv}{k kd db:Nat}(hk:¬k=kd) (hkd:kd≠0) {vc vo vm:Value}(hs:s.At c k w vc vo vm) {id h:Int}(hid:idB id=true) (hh:zav h=true) (hd:At c w db kd (deskC s vc vo vm id h s.delay)) (hc:zbs s=0) {m:Int}(h0:0<m) (h9:m<10) (kx:Nat) :
  Calls prog (fnW m) #[.pointer (some ⟨db,0,none⟩)] w fun r w'=>∃v,r=.returned v∧∃c',Sl zag c' kx 0 w' v (outS m s h id)∧At c' w' db kd (deskC s vc vo vm id h (tickS m s))∧Step (One kd) c w c' w'∧Ok c' w':=by
 have hh2:0≤h∧h≤4611686018427387904:=by simp only [zav,Bool.and_eq_true,decide_eq_true_eq] at hh;omega
 have G:∀{f:Nat} {L:List UInt8},(Calls prog f #[.pointer (some ⟨db,0,none⟩)] w fun r w'=>∃v,r=.returned v∧∃c',Sl zag c' kx 0 w' v L∧Step No c w c' w'∧Ok c' w') →
   Calls prog f #[.pointer (some ⟨db,0,none⟩)] w fun r w'=>∃v,r=.returned v∧∃c',Sl zag c' kx 0 w' v L∧At c' w' db kd (deskC s vc vo vm id h s.delay)∧Step (One kd) c w c' w'∧Ok c' w':=
  fun H=>H.mono (by rintro r w' ⟨v,rfl,c',sl,st,o⟩;exact ⟨v,rfl,c',sl,hd.kn st,st.ofNo,o⟩)
 rcases mood_cases h0 h9 with rfl | rfl | rfl | rfl | rfl | rfl | rfl | rfl | rfl
 ·exact G (wplain_any hok hs hid hd kx)
 ·exact G (wquiet_any hok db kx)
 ·have hw:IntKind.i64.wrap (s.delay+s.slow)=s.delay+s.slow:=IntWalk.i64_in _ (by
   have h1:¬badW s.delay=true∧¬badW s.slow=true:=by
    unfold zbs at hc
    split at hc
    ·cases hc
    split at hc
    ·cases hc
    split at hc
    ·cases hc
    ·exact ⟨by assumption,by assumption⟩
   simp only [badW,Bool.or_eq_true,decide_eq_true_eq,not_or] at h1
   omega)
  exact wlate_any hok hk hkd hs hid hd hw kx
 ·exact G (wcut_any hok hs hid hd kx)
 ·exact G (woff_any hok hs hid hh2 hd kx)
 ·exact G (wbroken_any hok hs hid hd kx)
 ·exact G (wpoor_any hok hs hid hd kx)
 ·exact G (wother_any hok hs hid hd kx)
 ·exact G (wodd_any hok hs hid hd kx)
end
