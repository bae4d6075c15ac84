/- ServerReplies, part 12: lemmas, each with its own conditions. -/
import Derived.Test.YtgcobbapaaihiaaGreatSz11
set_option linter.all false
set_option maxHeartbeats 12800000
set_option maxRecDepth 100000
open Go.Proofs.Tryz
namespace Go.Proofs.YtgcobbapaaihiaaGreat
open Go.RowKit
theorem run_assert_not {P:Program}{t u xT:TypeId}{fs:Array Field}(h:P.underlying u=some (.struct fs)) (v:Value) (hne:¬t=u) (z:Value) (hz:(P.info? u).map (·.zero)=some (some z)) (w:World):(Instr.typeAssert (.iface t v) xT u true).run P w=.ok (.tuple #[z,.bool false]) w:=by
 have hz2:(zeroValue u).run P w=.ok z w:=by
  cases hi:P.info? u with
  | none=>rw [hi] at hz;cases hz
  | some i=>
   rw [hi] at hz;simp only [Option.map_some,Option.some.injEq] at hz;simp [zeroValue,typeInfo,hi,hz]
 simp [Instr.typeAssert,run_underlying h,hne,hz2]
theorem zeroAsk:(prog.info? 70).map (·.zero)=some (some (.agg #[.int .i64 0,.int .i64 0])):=by kernel_rfl
section
variable {c:Col}{w:World}
theorem ansMethod (n:Nat) (A:Array Value) (W:World):(method (n+1) 206 (.agg A) (mName Tryz.t206)).run prog W=.ok (242,.agg A) W:=by kernel_rfl
theorem ofAns_any (hok:Ok c w) (B:List Value) (hB:B.length=167) (h1:∀v∈B,v.oneCell'=true) :
  Calls prog 91 #[.iface 61 (.agg B.toArray)] w fun r w'=>r=.returned (.iface 206 (.agg B.toArray))∧∃c',Step No c w c' w'∧Ok c' w':=by
 have hta:=fun W=>zbm (P:=prog) (xT:=20) underlying61 (.agg B.toArray) W;have htn:=fun W=>run_assert_not (P:=prog) (t:=61) (xT:=20) underlying70 (.agg B.toArray) (by decide) _ zeroAsk W;obtain ⟨Z,hZ,hz⟩:=zero_answer;obtain ⟨W,c1,hW,a1,o1,s1,t1,t2,t3,t4⟩:=stnew hok hZ hB h1 zbj (q:=1) (by decide);obtain ⟨xb,hxb⟩:=jE w.heap.size;rw [hxb] at hW a1 t1;have HZ:=jh1 hz;have SL:=jh5 a1.cells t1 t2 t3 t4;have X:=jh2 s1 o1;have HW:=jh1 hW;clear a1 o1 s1 t1 t2 t3 t4 hok hB h1 hz hZ hW;go_enter func91,ntmps91;go_wp2_with (first | (refine zaa rfl (some 4) rfl 61 rfl HZ.out ?_;rw [hxb]) | (refine wpList_store_mid rfl 61 _ _ rfl xb 0 B.toArray rfl rfl SL.out.2.1 SL.out.2.2.1 SL.out.2.2.2.1 ?_;rw [HW.out]) | (refine wpList_load_mid rfl 61 _ rfl xb 0 rfl B _ SL.out.1 underlying61 rfl SL.out.2.2.2.2 ?_));go_ret;exact ⟨rfl,c1,X.out⟩
theorem bytesAns_any (hok:Ok c w) (id:Int) {b:Blo}{k:Nat}{vc vv:Value}(hb:b.At c k w vc vv) (kx:Nat) :
  Calls prog 41 #[.iface 61 (.agg (ansC id (zau b vc vv)).toArray)] w fun r w'=>
   ∃v,r=.returned (.tuple #[v,.int .i64 (ansE id b)])∧∃c',Sl zag c' kx 0 w' v (if ansE id b=0 then encN id b else [])∧Step No c w c' w'∧Ok c' w':=by
 obtain ⟨q,hq,hqc⟩:=hok.top k;have hq0:q≠0:=by omega
 have N:=zbn hok 65536 (by omega) (by omega) q (q+1);have hl:(ansC id (zau b vc vv)).length=167:=by simp [ansC,zal hb.h hb.hash]
 have h1:=ansC_one (id:=id) (zaF hb);have hkw:¬Two q (q+1) k:=fun h=>by rcases h with h | h <;> omega
 have HB:=jh3 hb hl h1;clear hok hb hl h1;obtain ⟨B,hB⟩:=jE (ansC id (zau b vc vv));have HBe:=jh1 hB;rw [hB] at HB ⊢;clear hB;obtain ⟨L,hL⟩:=jE ((if ansE id b=0 then encN id b else []));rw [hL];obtain ⟨e0,he0⟩:=jE (ansE id b);rw [he0] at hL ⊢;have HE0:=jh2 he0 hL;clear he0 hL;go_enter func41,ntmps41;go_wp2_with fail;refine N.mono ?_;rintro e w1 ⟨rfl,c1,i1,s1,o1⟩;have O:=ofAns_any o1 B HB.out.2.1 HB.out.2.2;have X1:=jh2 i1 s1;clear N i1 s1 o1;go_wp2_with fail;refine O.mono ?_;rintro e w2 ⟨rfl,c2,s2,o2⟩;have AW:=ansWrite_any o2 (X1.out.1.kn s2) hq0 (jz _) (by omega) id (HB.out.1.kn (X1.out.2.trans s2)) hkw;rw [HBe.out] at AW;have hm:=fun W=>ansMethod 421 B.toArray W;simp only [mName,Tryz.t206,List.map_cons,List.headD_cons] at hm;have X2:=jh1 (X1.out.2.trans s2);rw [HE0.out.1,HE0.out.2] at AW;clear O s2 o2;by_cases he:e0=0
 ·subst he
  have hLe:L=encN id b:=by have:=HE0.out.2;rw [if_pos rfl] at this;exact this.symm
  go_wp2_with fail;refine AW.mono ?_;rintro e w3 ⟨rfl,c3,i3,s3,o3⟩;have hlen:=encB_len HB.out.1 (ansE_ok HE0.out.1).2;have D:=done_any o3 i3 rfl (by have:=zae 2;have:=zae id.toNat;have:=zae (encB b).length;rw [hLe];simp only [encN,lpB,List.length_append];omega) kx;have X3:=jh1 ((X2.out.ofNo.trans s3).drop (K':=No) fun b _ e=>by have:=hqc b;rcases e with e | e <;> omega);clear AW i3 s3 o3 hm hlen hLe;go_wp2_with fail;refine D.mono ?_;rintro e w4 ⟨v,rfl,c4,sl4,s4,o4⟩;have X4:=jh3 sl4 (X3.out.trans s4) o4;clear D sl4 s4 o4;go_wp2;go_ret2;exact ⟨v,rfl,c4,X4.out⟩
 ·have hLe:L=[]:=by have:=HE0.out.2;rw [if_neg he] at this;exact this.symm
  have HLe:=jh1 hLe;have he2:(e0 != 0)=true:=by rw [bne_iff_ne];exact he
  clear he hLe;go_wp2_with fail;refine AW.mono ?_;rintro e w3 ⟨rfl,c3,i3,s3,o3⟩;have X3:=jh2 ((X2.out.ofNo.trans s3).drop (K':=No) fun b _ e=>by have:=hqc b;rcases e with e | e <;> omega) o3;clear AW i3 s3 o3 hm;go_wp2;go_ret2;rw [HLe.out];exact ⟨_,rfl,c3,Sl.nil _ _ _ _ _,X3.out⟩
theorem answer_any (hok:Ok c w) (id:Int) {b:Blo}{k:Nat}{vc vv:Value}(hb:b.At c k w vc vv) (kx:Nat) :
  Calls prog 27 #[.agg (ansC id (zau b vc vv)).toArray] w fun r w'=>
   ∃v,r=.returned (.tuple #[v,.int .i64 (ansE id b)])∧∃c',Sl zag c' kx 0 w' v (if ansE id b=0 then encN id b else [])∧Step No c w c' w'∧Ok c' w':=by
 have a0:=At.new0 hok (ansC id (zau b vc vv)) 61;have o0:=hok.alloc (.cells (ansC id (zau b vc vv)).toArray 61);have s0:Step No c w c (w.alloc (.cells (ansC id (zau b vc vv)).toArray 61)):=Step.refl.alloc _;have BA:=bytesAns_any o0 id (hb.kn s0) kx;have hl:(ansC id (zau b vc vv)).length=167:=by simp [ansC,zal hb.h hb.hash]
 obtain ⟨xb,hxb⟩:=jE w.heap.size;rw [hxb] at a0;obtain ⟨B,hB⟩:=jE (ansC id (zau b vc vv));rw [hB] at a0 o0 s0 BA hl ⊢;obtain ⟨L,hL⟩:=jE ((if ansE id b=0 then encN id b else []));obtain ⟨e0,he0⟩:=jE (ansE id b);rw [hL] at BA ⊢;rw [he0] at BA ⊢;have SL:=jh3 a0.cells (show (prog.info? 61).map (·.size)=some B.length by rw [zbj,hl]) s0;clear a0 o0 s0 hb hok hl hB hL he0;go_enter func27,ntmps27;go_wp2_with (refine wpList_load_mid rfl 61 _ rfl xb 0 rfl B _ SL.out.1 underlying61 rfl SL.out.2.1 ?_);refine BA.mono ?_;rintro e w1 ⟨v,rfl,c1,sl1,s1,o1⟩;have X:=jh3 sl1 (SL.out.2.2.trans s1) o1;clear BA sl1 s1 o1;go_wp2;go_ret2;exact ⟨v,rfl,c1,X.out⟩
end
theorem xor255_all:(List.range 256).all (fun n=>bits .xor .u8 ((UInt8.ofNat n).toNat:Int) 255==((UInt8.ofNat n ^^^ 255).toNat:Int))=true:=by kernel_rfl
theorem xor255 (a:UInt8):bits .xor .u8 (a.toNat:Int) 255=((a ^^^ 255).toNat:Int):=by
 have:=List.all_eq_true.1 xor255_all a.toNat (List.mem_range.2 a.toNat_lt);rw [UInt8.ofNat_toNat] at this;exact eq_of_beq this
def Turns (f:Nat) (g:Int→Blo→Int×Blo):Prop:=
 (∀args w,(callFunc f args).run prog w=.ok (.enter f args) w) ∧
 ∀(c:Col) (w:World) (x q k:Nat) (id:Int) (b:Blo) (vc vv:Value),Ok c w→idB id=true→q≠0→¬k=q→b.At c k w vc vv→At c w x q (ansC id (zau b vc vv)) →
  Calls prog f #[.pointer (some ⟨x,0,none⟩)] w fun r w'=>r=.returned (.tuple #[])∧∃c' vc' vv',At c' w' x q (ansC (g id b).1 (zau (g id b).2 vc' vv'))∧(g id b).2.At c' k w' vc' vv'∧Step (One q) c w c' w'∧Ok c' w'
def gStay (id:Int) (b:Blo):Int×Blo:=(id,b)
def gOdd (id:Int) (b:Blo):Int×Blo:=(id+1,b)
def gPoor (id:Int) (b:Blo):Int×Blo:=(id,{ b with cm:={ b.cm with votes:=[] } })
def xorA:List UInt8→List UInt8
 | []=>[]
 | a::r=>(a ^^^ 255)::r
def zbf (id:Int) (b:Blo):Int×Blo:=(id,{ b with h:={ b.h with app:=xorA b.h.app } })
theorem stay_turns:Turns 111 gStay:=by
 refine ⟨enters_of func111 (by kernel_rfl) rfl,?_⟩;intro c w x q k id b vc vv hok hid hq hk hb ha;have H:=jh3 ha hb hok;clear ha hb hok;go_enter func111,ntmps111;go_wp2_with fail
 first | go_end0 | refine bodyPost_ret (results_none rfl _ _ _) rfl ?_
 exact ⟨rfl,c,vc,vv,H.out.1,H.out.2.1,Step.refl,H.out.2.2⟩
theorem odd_turns:Turns 114 gOdd:=by
 refine ⟨enters_of func114 (by kernel_rfl) rfl,?_⟩;intro c w x q k id b vc vv hok hid hq hk hb ha;have y0:=(ans_at ha.cells).1;have yf:=ha.fz hok hq 0;have hid2:=hid;simp only [idB,Bool.and_eq_true,decide_eq_true_eq] at hid2;have hw:IntKind.i64.wrap (id+1)=id+1:=IntWalk.i64_in _ (by omega);have a2:=ha.setN (i:=0) (by simp [ansC]) (.int .i64 (id+1));have e2:(ansC id (zau b vc vv)).set 0 (.int .i64 (id+1))=ansC (id+1) (zau b vc vv):=rfl;rw [e2] at a2;have s2:Step (One q) c w c (w.setCell ⟨x,0,none⟩ (.int .i64 (id+1))):=(Step.refl (K:=One q)).setCell (a:=⟨x,0,none⟩) (.inr ha.col) _;have H:=jh4 a2 (hb.keep s2 hk) s2 (hok.setCell ⟨x,0,none⟩ (.int .i64 (id+1)));clear ha hb hok hid hid2 hk a2 s2 e2;go_enter func114,ntmps114;go_wp2_with fail
 first | go_end0 | refine bodyPost_ret (results_none rfl _ _ _) rfl ?_
 exact ⟨rfl,c,vc,vv,H.out.1,H.out.2.1,H.out.2.2.1,H.out.2.2.2⟩
theorem cmC_votes {x:Cmt}(h:x.hash.length=32) (vc vc':Value):(cmC x vc).set 33 vc'=cmC x vc':=by
 have e2:(bC x.hash).length=32:=by rw [zaf,h]
 unfold cmC;rw [show (33:Nat)=32+1 from rfl,List.set_cons_succ,List.set_append_right _ _ (by omega),e2]
 rfl
theorem poor_turns:Turns 113 gPoor:=by
 refine ⟨enters_of func113 (by kernel_rfl) rfl,?_⟩;intro c w x q k id b vc vv hok hid hq hk hb ha;have hl:=zal hb.h hb.hash vc vv;have e1:(zaz b.h).length=131:=zaj hb.h;have e3:(cmC b.cm vc).length=34:=zaS hb.hash vc
 have y0:w.cell? ⟨x,165,none⟩=some vc:=by
  have h1:=(zbl hb.h hb.hash (w:=w) (bx:=x) (o:=1) (ans_at ha.cells).2).2.1;have h2:=(zam (xs:=[.int .i64 b.cm.height]) h1).2;have h3:=(zam h2).2 0 vc rfl;simpa [zaf,hb.hash] using h3
 obtain ⟨va,vn,rfl,_⟩:=hb.votes.form;have yf:=ha.fz hok hq 165;have a2:=ha.setN (i:=165) (by simp [ansC,hl]) (.slice none 0 0)
 have e2:(ansC id (zau b (.slice va b.cm.votes.length vn) vv)).set 165 (.slice none 0 0)=ansC (gPoor id b).1 (zau (gPoor id b).2 (.slice none 0 0) vv):=by
  unfold ansC zau;rw [show (165:Nat)=164+1 from rfl,List.set_cons_succ,List.set_append_right _ _ (by omega),e1,List.set_append_left _ _ (by omega),show (164-131:Nat)=33 from rfl,cmC_votes hb.hash]
  rfl
 rw [e2] at a2;have s2:Step (One q) c w c (w.setCell ⟨x,165,none⟩ (.slice none 0 0)):=(Step.refl (K:=One q)).setCell (a:=⟨x,165,none⟩) (.inr ha.col) _;have hb2:=hb.keep s2 hk;have hb3:(gPoor id b).2.At c k (w.setCell ⟨x,165,none⟩ (.slice none 0 0)) (.slice none 0 0) vv:=⟨hb2.h,hb2.hash,hb2.height,Sl.nil _ _ _ _ _,hb2.vals,by simp [gPoor],hb2.nvals⟩;have H:=jh4 a2 hb3 s2 (hok.setCell ⟨x,165,none⟩ (.slice none 0 0));clear ha hb hok hid hk a2 s2 e2 hl e1 e3 hb2 hb3;go_enter func113,ntmps113;go_wp2_with fail
 first | go_end0 | refine bodyPost_ret (results_none rfl _ _ _) rfl ?_
 exact ⟨rfl,c,_,vv,H.out.1,H.out.2.1,H.out.2.2.1,H.out.2.2.2⟩
theorem hdrC_app {h:Hdr}(hw:h.Wf) {a:UInt8}{r:List UInt8}(ha:h.app=a::r) (a':UInt8):(zaz h).set 99 (.int .u8 a'.toNat)=zaz { h with app:=a'::r }:=by
 obtain ⟨_,_,_,h1,h2,h3,h4⟩:=hw;have e1:(bC h.prev).length=32:=by rw [zaf,h1]
 have e2:(bC h.vals).length=32:=by rw [zaf,h2]
 have e3:(bC h.next).length=32:=by rw [zaf,h3]
 unfold zaz;rw [show (99:Nat)=96+1+1+1 from rfl,List.set_cons_succ,List.set_cons_succ,List.set_cons_succ,List.set_append_right _ _ (by omega),e1,List.set_append_right _ _ (by omega),e2,List.set_append_right _ _ (by omega),e3,ha]
 rfl
theorem broken_turns:Turns 112 zbf:=by
 refine ⟨enters_of func112 (by kernel_rfl) rfl,?_⟩;intro c w x q k id b vc vv hok hid hq hk hb ha
 obtain ⟨a,r,har⟩:∃a r,b.h.app=a::r:=by
  cases h:b.h.app with
  | nil=>have:=hb.h.app;rw [h] at this;cases this
  | cons a r=>exact ⟨a,r,rfl⟩
 have hl:=zal hb.h hb.hash vc vv;have e1:(zaz b.h).length=131:=zaj hb.h
 have hg:(ansC id (zau b vc vv))[100]? = some (.int .u8 a.toNat):=by
  have e11:(bC b.h.prev).length=32:=by rw [zaf,hb.h.prev]
  have e12:(bC b.h.vals).length=32:=by rw [zaf,hb.h.vals]
  have e13:(bC b.h.next).length=32:=by rw [zaf,hb.h.next]
  unfold ansC zau;rw [show (100:Nat)=99+1 from rfl,List.getElem?_cons_succ,List.getElem?_append_left (by omega)];unfold zaz;rw [show (99:Nat)=96+1+1+1 from rfl,List.getElem?_cons_succ,List.getElem?_cons_succ,List.getElem?_cons_succ,List.getElem?_append_right (by omega),e11,List.getElem?_append_right (by omega),e12,List.getElem?_append_right (by omega),e13,har]
  rfl
 have y0:w.cell? ⟨x,100,none⟩=some (.int .u8 a.toNat):=ha.get hg;have yf:=ha.fz hok hq 100;have a2:=ha.setN (i:=100) (by simp [ansC,hl]) (.int .u8 (a ^^^ 255).toNat)
 have e2:(ansC id (zau b vc vv)).set 100 (.int .u8 (a ^^^ 255).toNat)=ansC (zbf id b).1 (zau (zbf id b).2 vc vv):=by
  have h1:=hdrC_app hb.h har (a ^^^ 255);unfold ansC zau;rw [show (100:Nat)=99+1 from rfl,List.set_cons_succ,List.set_append_left _ _ (by omega),h1];simp only [zbf,har,xorA]
 rw [e2] at a2;have s2:Step (One q) c w c (w.setCell ⟨x,100,none⟩ (.int .u8 (a ^^^ 255).toNat)):=(Step.refl (K:=One q)).setCell (a:=⟨x,100,none⟩) (.inr ha.col) _;have hb2:=hb.keep s2 hk;have hb3:(zbf id b).2.At c k (w.setCell ⟨x,100,none⟩ (.int .u8 (a ^^^ 255).toNat)) vc vv:=⟨⟨hb2.h.name,hb2.h.height,hb2.h.time,hb2.h.prev,hb2.h.vals,hb2.h.next,by have:=hb2.h.app;rw [har] at this;simp only [zbf,har,xorA];simpa using this⟩,hb2.hash,hb2.height,hb2.votes,hb2.vals,hb2.nvotes,hb2.nvals⟩;have hx:=xor255 a;have H:=jh4 a2 hb3 s2 (hok.setCell ⟨x,100,none⟩ (.int .u8 (a ^^^ 255).toNat));have KK:(fun W:World=>W.cell? ⟨x,100,none⟩=some (.int .u8 a.toNat)∧W.frozen? ⟨x,100,none⟩=false) w.drew:=⟨y0,yf⟩;clear ha hb hok hid hk hl e1 hg y0 yf a2 e2 s2 hb2 hb3;go_enter func112,ntmps112;refine zac (fun W=>W.cell? ⟨x,100,none⟩=some (.int .u8 a.toNat)∧W.frozen? ⟨x,100,none⟩=false) (fun i=>!([13]:List Nat).contains i) (by kernel_rfl) ?_;refine zab.one (i:=0) (by kernel_rfl) rfl (fun KQ hK=>?_);go_simp;refine hK.out _ _ (fun _=>KK) ?_;clear hK KQ
 (try simp only [jS])
 refine tk2 1 _ 3 rfl rfl KK ?_;refine tk2 2 _ 4 rfl rfl KK ?_;refine tk2 3 _ 5 rfl rfl KK ?_;refine tk2 4 _ 6 rfl rfl KK ?_;refine tk2 5 _ 7 rfl rfl KK ?_;refine tk2 6 _ 8 rfl rfl KK ?_;refine tk2 7 _ 9 rfl rfl KK ?_;refine zab.one (i:=8) (by kernel_rfl) rfl (fun KQ hK=>?_);go_simp;refine hK.out _ _ (fun _=>KK) ?_;clear hK KQ
 (try simp only [jS])
 refine zab.one (i:=9) (by kernel_rfl) rfl (fun KQ hK=>?_);go_simp;refine hK.out _ _ (fun _=>KK) ?_;clear hK KQ
 (try simp only [jS])
 refine zab.one (i:=10) (by kernel_rfl) rfl (fun KQ hK=>?_);go_simp;refine hK.out _ _ (fun _=>KK) ?_;clear hK KQ
 (try simp only [jS])
 refine zab.one (i:=11) (by kernel_rfl) rfl (fun KQ hK=>?_);go_simp;refine hK.out _ _ (fun _=>KK) ?_;clear hK KQ
 (try simp only [jS])
 refine zab.one (i:=12) (by kernel_rfl) rfl (fun KQ hK=>?_);go_simp;refine hK.out _ _ (fun _=>KK) ?_;clear hK KQ
 (try simp only [jS])
 refine zab.one (i:=13) (by kernel_rfl) rfl (fun KQ hK=>?_);go_simp;refine hK.out _ _ (fun h=>absurd h (by decide)) ?_;clear hK KQ
 (try simp only [jS])
 refine zab.done (by kernel_rfl) ?_ _
 first | go_end0 | refine bodyPost_ret (results_none rfl _ _ _) rfl ?_
 exact ⟨rfl,c,vc,vv,H.out.1.keep (Step.rf.drewN (K:=No) 1) jI,H.out.2.1.kn (Step.rf.drewN 1),H.out.2.2.1.drewN 1,H.out.2.2.2.drewN 1⟩
def deskC (s:Srv) (vc vo vm:Value) (id h ticks:Int):List Value:=[vc,vo,vm,.int .i64 s.delay,.int .i64 s.slow,.int .i64 id,.int .i64 h,.int .i64 ticks]
section
variable {c:Col}{w:World}
theorem own_any (hok:Ok c w) {s:Srv}{k kd db:Nat}{vc vo vm:Value}(hs:s.At c k w vc vo vm) {id h ticks:Int}(hd:At c w db kd (deskC s vc vo vm id h ticks)) :
  Calls prog 109 #[.pointer (some ⟨db,0,none⟩)] w fun r w'=>∃bc bv,r=.returned (.tuple #[.agg (zau (zba s.chain h) bc bv).toArray,.bool (zbG s.chain h).isSome])∧∃c',(zba s.chain h).At c' 0 w' bc bv∧Step No c w c' w'∧Ok c' w':=by
 obtain ⟨q,hq,hqc⟩:=hok.top (k+kd);have hq0:q≠0:=by omega
 obtain ⟨vca,vcc,rfl,_⟩:=hs.chain.form;obtain ⟨ar,or_,sr⟩:=zan hok zby 59 q;obtain ⟨rb,hrb⟩:=jE w.heap.size;have hd1:=hd.keep sr jI;have GT:=get_any (or_.drewN 1) ((hs.chain.kn sr).kn (Step.rf.drewN 1)) hs.nchain h;have hzl:zby.length=166:=by decide
 have HZ:=jh1 zeroB_zero;obtain ⟨ZB,hZB⟩:=jE zby;rw [hZB] at HZ ar or_ sr GT hd1 hzl;obtain ⟨W1,hW1⟩:=jE (w.alloc (.cells ZB.toArray 59));rw [hrb] at ar or_ sr hd1 GT;rw [hW1] at ar or_ sr hd1 GT;obtain ⟨c1,hc1⟩:=jE (c.put rb q);rw [hc1] at ar or_ sr hd1 GT;have KK:(fun W:World=>W.cell? ⟨db,0,none⟩=some (.slice vca s.chain.length vcc)∧W.cell? ⟨db,6,none⟩=some (.int .i64 h)) W1.drew:=⟨hd1.get (i:=0) rfl,hd1.get (i:=6) rfl⟩;have hdl:db<W1.drew.heap.size:=hd1.lt;have X1:=jh2 ar sr;clear ar or_ sr hd1 hd hs hok hc1 hZB;go_enter func109,ntmps109;go_wp2_with (refine zaa rfl (some 2) rfl 59 rfl HZ.out ?_)
 (try rw [hrb])
 (try rw [hW1])
 refine zac (fun W=>W.cell? ⟨db,0,none⟩=some (.slice vca s.chain.length vcc)∧W.cell? ⟨db,6,none⟩=some (.int .i64 h)) (fun i=>!([13,14]:List Nat).contains i) (by kernel_rfl) ?_;refine tk2 0 _ 4 rfl rfl KK ?_;refine tk2 1 _ 5 rfl rfl KK ?_;refine tk2 2 _ 6 rfl rfl KK ?_;refine tk2 3 _ 7 rfl rfl KK ?_;refine tk2 4 _ 8 rfl rfl KK ?_;refine tk2 5 _ 9 rfl rfl KK ?_;refine tk2 6 _ 10 rfl rfl KK ?_;refine tk2 7 _ 11 rfl rfl KK ?_;refine tk2 8 _ 12 rfl rfl KK ?_;refine tk2 9 _ 13 rfl rfl KK ?_;refine zab.one (i:=10) (by kernel_rfl) rfl (fun KQ hK=>?_);go_simp;refine GT.mono ?_;rintro e w3 ⟨bc,bv,rfl,c3,b3,s3,o3⟩;have KK:(fun W:World=>W.cell? ⟨db,0,none⟩=some (.slice vca s.chain.length vcc)∧W.cell? ⟨db,6,none⟩=some (.int .i64 h)) w3:=⟨(s3.cell hdl jI).trans KK.1,(s3.cell hdl jI).trans KK.2⟩;have ar3:=(X1.out.1.keep (Step.rf.drewN (K:=No) 1) jI).keep s3 jI;have hRl:=zal b3.h b3.hash bc bv;have hR1:=zaF b3;obtain ⟨G,hG⟩:=jE (zba s.chain h);obtain ⟨T,hT⟩:=jE ((zbG s.chain h).isSome);rw [hG] at b3 hRl hR1 ⊢;rw [hT];obtain ⟨R,hR⟩:=jE (zau G bc bv);rw [hR] at hRl hR1 ⊢;have hi0:(prog.info? 59).map (·.size)=some R.length:=by rw [zah,hRl]
 have hi1:(prog.info? 59).map (·.size)=some R.toArray.size:=by rw [zah];simp [hRl]
 have ht0:=ar3.there (o:=0) (n:=R.toArray.size) o3 hq0 (by simp [hRl,hzl]);obtain ⟨_,a4⟩:=ar3.st o3 hq0 (ty:=59) (us:=R) (by rw [hRl,hzl]) hi0 hR1;have s4:Step (One q) c3 w3 c3 (w3.setCells rb 0 R):=Step.setCells (K:=One q) (.inr ar3.col) _ _ _ Step.refl;have b4:=b3.keep s4 (show ¬0=q by omega);have o4:=Ok.setCells (b:=rb) R 0 _ o3;have sAll:Step No c w c3 (w3.setCells rb 0 R):=((((X1.out.2.drewN 1).trans s3).ofNo (K:=One q)).trans s4).drop fun b _ (e:c b=q)=>by have:=hqc b;omega
 have FL:=jh11 ht0 hi1 (all_oneCell_toArray hR1) a4.cells hi0 b4 sAll o4 hG hT hR;clear ar3 hRl hR1 hi0 hi1 ht0 a4 s4 b4 o4 sAll b3 s3 o3 hG hT hR GT;go_simp;refine hK.out _ _ (fun _=>KK) ?_;clear hK KQ
 (try simp only [jS])
 refine tk2 11 _ 15 rfl rfl KK ?_;refine tk2 12 _ 16 rfl rfl KK ?_;refine zab.one (i:=13) (by kernel_rfl) rfl (fun KQ hK=>?_);refine zar rfl 59 _ _ rfl rb 0 R.toArray rfl rfl FL.out.1 FL.out.2.1 FL.out.2.2.1 ?_;simp only [List.toList_toArray];refine hK.out _ _ (fun h=>absurd h (by decide)) ?_;clear hK KQ
 (try simp only [jS])
 refine zab.one (i:=14) (by kernel_rfl) rfl (fun KQ hK=>?_);go_simp;refine hK.out _ _ (fun h=>absurd h (by decide)) ?_;clear hK KQ
 (try simp only [jS])
 refine zab.done (by kernel_rfl) ?_ _;go_wp2_with fail;obtain ⟨_,_,_,f4,f5,f6,f7,f8,f9,f10,f11⟩:=FL.out;refine bodyPost_ret (zax rfl _ _ rb 0 R _ rfl f4 underlying59 rfl f5) rfl ⟨bc,bv,by rw [f9,f10,f11];rfl,c3,by rw [f9];exact f6,f7,f8⟩
end
theorem At.kn {c c':Col}{w w':World}{b k:Nat}{vs:List Value}(h:At c w b k vs) (hs:Step No c w c' w'):At c' w' b k vs:=h.keep hs jI
theorem zaP {place:Nat→Option (Nat×Nat)}{Pf Z B:List Value}{i:Nat}{v:Value}{rest:List (Nat×Value)}(hp:place i=some (Pf.length,B.length)) (hv:v.cells=B.toArray) (h:B.length≤Z.length) :
  Instr.fill place (Pf++Z).toArray ((i,v)::rest)=Instr.fill place ((Pf++B)++Z.drop B.length).toArray rest:=by
 have e:=foldl_seg0 B (Pf++Z) Pf.length (by simp;omega);rw [List.take_left,List.drop_append,List.drop_eq_nil_of_le (by omega),List.nil_append,show Pf.length+B.length-Pf.length=B.length by omega] at e;rw [Instr.fill,hp];simp only;rw [hv,if_neg (by simp;omega),e]
section
variable {P:Program}
theorem zaT {ρ:Operand→Value}{o:Oper}{W:World}{p v:Value}(ty:TypeId) (h:(Instr.loadAt ty p).run P W=.ok v W) (x:Operand) (ho:o.op=.load ty x) (hx:ρ x=p):(execOp ρ o).run P W=.ok (.value v) W:=by
 subst hx;unfold execOp;simp only [ho,Sem.run_bind,Sem.run_pure,h,Result.andThen_ok]
theorem zbq {ρ:Operand→Value}{o:Oper}{W:World}{ps:List (Nat×Value)}{cells:Array Value}(ty:TypeId) (hb:P.built ty ps=some cells) (parts:Array (Nat×Operand)) (ho:o.op=.build ty parts) (hp:(parts.toList.map fun (i,x)=>(i,ρ x))=ps):(execOp ρ o).run P W=.ok (.value (.agg cells)) W:=by
 subst hp;have hr:=run_build (P:=P) W ty (parts.map fun (i,x)=>(i,ρ x)) cells (by rw [Array.toList_map];exact hb);unfold execOp;simp only [ho,Sem.run_bind,Sem.run_pure,hr,Result.andThen_ok]
theorem zbz {ops:Array Oper}{o:Oper}{a:Act}{w:World}{K:Act→World→Prop}{Q:Exit→Act→World→Prop}{E:Prop}(hgd:o.guard=none) {dd:Option Tmp}(hdd:o.dst=dd) (ty:TypeId) (ho:o.op=.alloc ty) {Z:List Value}(hz:zaE P ty Z)
  (h:K (a.put dd (.pointer (some ⟨w.heap.size,0,none⟩))) (w.alloc (.cells Z.toArray ty))):if Region.wanted o (yielded ops a.tmps)=true then Oper.wp P o a w K Q else E:=by
 subst hdd;rw [if_pos (by simp [Region.wanted,hgd])];unfold Oper.wp;rw [run_alloc_zero ty ho hz,Oper.upon_value];exact h
end
theorem answer_fill (parts:List (Nat×Value)):prog.built 61 parts=Instr.fill ([(0,1),(1,166)].toArray[·]?) (zeroL 61).toArray parts:=by kernel_rfl
theorem answer_zl:(zeroL 61).length=167:=by kernel_rfl
theorem answer_built (id:Int) {B:List Value}(hB:B.length=166):prog.built 61 [(0,.int .i64 id),(1,.agg B.toArray)]=some (.int .i64 id::B).toArray:=by
 rw [answer_fill];have hz:=answer_zl;obtain ⟨Z,hZ⟩:=jE (zeroL 61);rw [hZ] at hz ⊢;have e1:=zaP (place:=([(0,1),(1,166)].toArray[·]?)) (Pf:=[]) (Z:=Z) (B:=[.int .i64 id]) (i:=0) (v:=.int .i64 id) (rest:=[(1,.agg B.toArray)]) rfl rfl (by simp [hz]);rw [List.nil_append] at e1;rw [e1];have e2:=zaP (place:=([(0,1),(1,166)].toArray[·]?)) (Pf:=[.int .i64 id]) (Z:=Z.drop 1) (B:=B) (i:=1) (v:=.agg B.toArray) (rest:=[]) (by rw [hB];rfl) rfl (by simp [hB,hz]);rw [List.nil_append,List.length_singleton,e2,Instr.fill,List.drop_drop,List.drop_eq_nil_of_le (by simp [hB,hz]),List.append_nil]
 rfl
def ansB (x:Int×Blo):List UInt8:=if ansE x.1 x.2=0 then encN x.1 x.2 else []
def ansT (t:Bool) (x:Int×Blo):List UInt8:=if t=true then ansB x else []
section
variable {c:Col}{w:World}
theorem zbw (hok:Ok c w) {s:Srv}{kd db:Nat}{vc vo vm:Value}{id h ticks:Int}(hd:At c w db kd (deskC s vc vo vm id h ticks)) (hid:idB id=true) {b:Blo}{k:Nat}{bc bv:Value}(hb:b.At c k w bc bv)
  {f:Nat} {g:Int→Blo→Int×Blo} (hT:Turns f g) (t:Bool) (kx:Nat) :
  Calls prog 110 #[.pointer (some ⟨db,0,none⟩),.agg (zau b bc bv).toArray,.bool t,.func (.func f) #[] #[]] w fun r w'=>∃v,r=.returned v∧∃c',Sl zag c' kx 0 w' v (ansT t (g id b))∧Step No c w c' w'∧Ok c' w':=by
 obtain ⟨q,hq,hqc⟩:=hok.top (k+kd);have hq0:q≠0:=by omega
 have a0:=At.new0 hok (zau b bc bv) 59;have o0:=hok.alloc (.cells (zau b bc bv).toArray 59);have s0:Step No c w c (w.alloc (.cells (zau b bc bv).toArray 59)):=Step.refl.alloc _;obtain ⟨xb,hxb⟩:=jE w.heap.size;rw [hxb] at a0;have hl:=zal hb.h hb.hash bc bv;have h1:=zaF hb;have hd0:=hd.kn s0;have hb0:=hb.kn s0;obtain ⟨B,hB⟩:=jE (zau b bc bv);rw [hB] at a0 o0 s0 hd0 hb0 hl h1 ⊢;obtain ⟨W0,hW0⟩:=jE (w.alloc (.cells B.toArray 59));rw [hW0] at a0 o0 s0 hd0 hb0
 cases t with
 | false=>
  have X:=jh2 s0 o0;clear a0 o0 s0 hd0 hb0 hd hb hok hT hid hB;go_enter func110,ntmps110;go_wp2;go_ret;exact ⟨_,rfl,c,Sl.nil _ _ _ _ _,X.out⟩
 | true=>
  have hi5:(deskC s vc vo vm id h ticks)[5]? = some (.int .i64 id):=rfl;have KK:(fun W:World=>W.cell? ⟨db,5,none⟩=some (.int .i64 id)∧(Instr.loadAt 59 (.pointer (some ⟨xb,0,none⟩))).run prog W=.ok (.agg B.toArray) W) W0.drew:=⟨(hd0.kn (Step.rf.drewN 1)).get hi5,(a0.kn (Step.rf.drewN 1)).ld (ty:=59) underlying59 rfl (by rw [zah,hl])⟩;have hbu:=answer_built id hl;obtain ⟨Z,hZ,hz⟩:=zero_answer;have sA:Step No c W0 c (W0.drew.alloc (.cells Z.toArray 61)):=(Step.rf.drewN (K:=No) 1).alloc _;have KA:(fun W:World=>W.cell? ⟨db,5,none⟩=some (.int .i64 id)∧(Instr.loadAt 59 (.pointer (some ⟨xb,0,none⟩))).run prog W=.ok (.agg B.toArray) W) (W0.drew.alloc (.cells Z.toArray 61)):=⟨(hd0.kn sA).get hi5,(a0.kn sA).ld (ty:=59) underlying59 rfl (by rw [zah,hl])⟩;obtain ⟨W1,c1,hW1,a1,o1,s1,t1,t2,t3,t4⟩:=stnew (o0.drewN 1) hZ (show (ansC id B).length=167 by simp [ansC,hl]) (ansC_one h1) zbj (q:=q) hq0;obtain ⟨yb,hyb⟩:=jE W0.heap.size;have hyb2:(W0.drewN 1).heap.size=yb:=hyb;rw [hyb2] at hW1 a1 t1;have hst:Step No c W0 c1 W1:=(Step.rf.drewN (K:=No) 1).trans s1;have a1':=a1;rw [←hB] at a1';have hcf:=hT.1;have C:=hT.2 c1 W1 yb q k id b bc bv o1 hid hq0 (by omega) (hb0.kn hst) a1';have SL:=jh4 t1 t2 t3 hz;have X:=jh3 s0 hst o1;have HW:=jh1 (show (W0.alloc (.cells Z.toArray 61)).drew.setCells yb 0 (ansC id B)=W1 from hW1);clear a0 o0 s0 hd0 hb0 hd hb hok hT hid hB hZ hz sA a1 o1 s1 t1 t2 t3 t4 hst a1' hi5 hyb2 hW1 h1 hl;go_enter func110,ntmps110;go_wp2_with fail
  (try rw [hW0])
  (try rw [hxb])
  refine zac (fun W=>W.cell? ⟨db,5,none⟩=some (.int .i64 id)∧(Instr.loadAt 59 (.pointer (some ⟨xb,0,none⟩))).run prog W=.ok (.agg B.toArray) W) (fun i=>!([8]:List Nat).contains i) (by kernel_rfl) ?_;refine tk2 0 _ 14 rfl rfl KK ?_;refine tk2 1 _ 15 rfl rfl KK ?_;refine tk2 2 _ 16 rfl rfl KK ?_;refine tk2 3 _ 17 rfl rfl KK ?_;refine tk2 4 _ 18 rfl rfl KK ?_;refine tk 5 _ 19 rfl rfl (Or.inl ⟨by rfl,fun W hW=>by obtain ⟨q0,q1⟩:=hW;exact zaT 59 q1 (.tmp 5) rfl rfl⟩) KK ?_;refine tk 6 _ 20 rfl rfl (Or.inl ⟨by rfl,fun W hW=>by obtain ⟨q0,q1⟩:=hW;exact zbq 61 hbu #[(0,.tmp 18),(1,.tmp 19)] rfl rfl⟩) KK ?_;refine zab.one (i:=7) (by kernel_rfl) rfl (fun KQ hK=>?_);refine zbz rfl (dd:=some 9) rfl 61 rfl SL.out.2.2.2 ?_;refine hK.out _ _ (fun _=>KA) ?_;clear hK KQ
  (try simp only [jS])
  refine zab.one (i:=8) (by kernel_rfl) rfl (fun KQ hK=>?_);refine zar rfl 61 _ _ rfl yb 0 (ansC id B).toArray (by rw [←hyb];rfl) rfl SL.out.1 SL.out.2.1 SL.out.2.2.1 ?_;simp only [List.toList_toArray];refine hK.out _ _ (fun h=>absurd h (by decide)) ?_;clear hK KQ
  (try simp only [jS])
  refine zab.done (by kernel_rfl) ?_ _;go_wp2_with fail
  (try rw [HW.out])
  refine C.mono ?_;rintro e w3 ⟨rfl,c2,vc2,vv2,a2,b2,s2,o2⟩;have SA:=jh1 (fun b (h:¬c b=q)=>h);have hqq:=jh1 hqc;have AA:=answer_any o2 (g id b).1 b2 kx;have hl2:(ansC (g id b).1 (zau (g id b).2 vc2 vv2)).length=167:=by simp [ansC,zal b2.h b2.hash]
  have hsum:Step No c w c2 w3:=((((X.out.1.trans X.out.2.1).ofNo (K:=One q)).trans s2).drop fun b _ (e:c b=q)=>by have:=hqq.out b;omega);have hE:ansT true (g id b)=if ansE (g id b).1 (g id b).2=0 then encN (g id b).1 (g id b).2 else []:=rfl
  rw [←hE] at AA;obtain ⟨L,hL⟩:=jE (ansT true (g id b));rw [hL] at AA;have HL:=jh1 hL;obtain ⟨e0,he0⟩:=jE (ansE (g id b).1 (g id b).2);rw [he0] at AA;obtain ⟨B2,hB2⟩:=jE (ansC (g id b).1 (zau (g id b).2 vc2 vv2));rw [hB2] at AA hl2 a2;have SL2:=jh3 a2.cells (show (prog.info? 61).map (·.size)=some B2.length by rw [zbj,hl2]) hsum;clear a2 b2 s2 o2 hsum hE hL he0 hB2 hl2 SA hqq X SL HW C;go_wp2_with (refine wpList_load_mid rfl 61 _ rfl yb 0 rfl B2 _ SL2.out.1 underlying61 rfl SL2.out.2.1 ?_);refine AA.mono ?_;rintro e w4 ⟨v,rfl,c4,sl4,s4,o4⟩;have X:=jh3 sl4 (SL2.out.2.2.trans s4) o4;clear AA sl4 s4 o4;go_wp2;go_ret;rw [HL.out];exact ⟨v,rfl,c4,X.out⟩
end
