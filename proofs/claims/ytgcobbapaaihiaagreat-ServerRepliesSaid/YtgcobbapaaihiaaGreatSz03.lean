/- ServerReplies, part 03: lemmas, each with its own conditions. -/
import Derived.Test.YtgcobbapaaihiaaGreatSz02
import Derived.Deep.MidRow
import Derived.BigQuiet
import Derived.Deep.QuietTactic
import Derived.Lib.ConvBytes
set_option linter.all false
set_option maxHeartbeats 12800000
set_option maxRecDepth 100000
open Go.Proofs.Tryz
namespace Go.Proofs.YtgcobbapaaihiaaGreat
open Go.RowKit
def wordL:Nat→Nat→List UInt8
 | 0,_=>[]
 | i+1,n=>UInt8.ofNat (n / 256 ^ i % 256)::wordL i n
def wordB (n:Nat):List UInt8:=wordL 8 n
theorem zbr:∀i n,(wordL i n).length=i
 | 0,_=>rfl
 | i+1,n=>by simp [wordL,zbr i n]
theorem zaD (l:List UInt8):∀v∈bC l,v.oneCell'=true:=by
 intro v hv;simp [bC] at hv;obtain ⟨x,_,rfl⟩:=hv;rfl
theorem zbD (b:Nat):∀(vs:List Value) (o:Nat) (W:World),(W.setCells b o vs).heap.size=W.heap.size
 | [],_,_=>rfl
 | v::r,o,W=>by rw [World.setCells,zbD b r (o+1),zbh]
theorem Step.setCells {K:Nat→Prop}{c0 c:Col}{w0:World}{b:Nat}(hb:w0.heap.size≤b∨K (c0 b)):∀(vs:List Value) (o:Nat) (W:World),Step K c0 w0 c W→Step K c0 w0 c (W.setCells b o vs)
 | [],_,_,h=>h
 | v::r,o,W,h=>Step.setCells hb r (o+1) _ (h.setCell (a:=⟨b,o,none⟩) hb v)
theorem Ok.setCells {c:Col}{b:Nat}:∀(vs:List Value) (o:Nat) (W:World),Ok c W→Ok c (W.setCells b o vs)
 | [],_,_,h=>h
 | v::r,o,W,h=>Ok.setCells r (o+1) _ (h.setCell _ _)
theorem At.there {c:Col}{W:World}{b k:Nat}{vs:List Value}(h:At c W b k vs) (ho:Ok c W) (hk:k≠0) {o n:Nat}(hn:o+n≤vs.length):W.there b o n:=fun j hj=>by
 have:=h.get (i:=o+j) (u:=vs[o+j]) (by rw [List.getElem?_eq_getElem]);exact ⟨by rw [this];rfl,h.fz ho hk _⟩
theorem At.ld {c:Col}{W:World}{b k:Nat}{vs:List Value}(h:At c W b k vs) {ty:TypeId}{d:TypeDesc}(hu:prog.underlying ty=some d) (hd:d.isRow=true) (hi:(prog.info? ty).map (·.size)=some vs.length) :
  (Instr.loadAt ty (.pointer (some ⟨b,0,none⟩))).run prog W=.ok (.agg vs.toArray) W:=run_loadAt_mid W b 0 ty vs d h.cells hu hd hi
theorem At.st {c:Col}{W:World}{b k:Nat}{vs:List Value}(h:At c W b k vs) (ho:Ok c W) (hk:k≠0) {ty:TypeId}{us:List Value}(hl:us.length=vs.length) (hi:(prog.info? ty).map (·.size)=some us.length) (h1:∀u∈us,u.oneCell'=true) :
  (Instr.storeAt ty (.pointer (some ⟨b,0,none⟩)) (.agg us.toArray)).run prog W=.ok () (W.setCells b 0 us)∧At c (W.setCells b 0 us) b k us:=by
 have ht:W.there b 0 us.length:=h.there ho hk (by omega);refine ⟨run_storeAt_mid W b 0 ty us.toArray (by simpa using ht) (by simpa using hi) (all_oneCell_toArray h1),h.col,by rw [zbD];exact h.lt,?_⟩;exact World.rangeAt_setCells_same W b 0 us ht
theorem At.off {c:Col}{W:World}{b k:Nat}{vs:List Value}(h:At c W b k vs) (b' o:Nat) (us:List Value) (hb:b≠b'):At c (W.setCells b' o us) b k vs:=
 ⟨h.col,by rw [zbD];exact h.lt,World.rangeAt_setCells_apart h.cells b' o us (.inl hb)⟩
theorem At.offC {c:Col}{W:World}{b k:Nat}{vs:List Value}(h:At c W b k vs) (b' o:Nat) (u:Value) (hb:b≠b'):At c (W.setCell ⟨b',o,none⟩ u) b k vs:=
 ⟨h.col,by rw [zbh];exact h.lt,fun j x hx=>by
  rw [World.cell?_setCell_other _ _ _ _ (by intro e;injection e with e1 e2;exact hb e1.symm)]
  exact h.cells j x hx⟩
theorem pow256 (i:Nat):(2:Int) ^ (8*i)=(((256:Nat) ^ i:Nat):Int):=by
 rw [show (256:Nat)=2 ^ 8 by rfl,←Nat.pow_mul]
 push_cast
 rfl
theorem zad {fn:Func}{p:Tmp}{ty:TypeId}(h:fn.results=#[.cell p ty]) (tmps:Array Value) (W:World) (b o:Nat) (cs:List Value) (d:TypeDesc) (hp:tmps[p]? = some (.pointer (some ⟨b,o,none⟩)))
  (hc:W.rangeAt b o cs) (hu:prog.underlying ty=some d) (hd:d.isRow=true) (hi:(prog.info? ty).map (·.size)=some cs.length) :
  (results fn tmps).run prog W=.ok (.agg cs.toArray) W:=by
 have:=run_loadVar_mid W b o ty cs d hc hu hd hi;have hp':tmps[p]?.getD undef=.pointer (some ⟨b,o,none⟩):=by rw [hp];rfl
 simp [results,h,hp',asAddr,this]
theorem info8:(prog.info? 319).map (·.size)=some 8:=by kernel_rfl
section
variable {c:Col}{w:World}
theorem word_any (hok:Ok c w) (n:Nat) (hn:n<18446744073709551616) :
  Calls prog 253 #[.int .u64 n] w fun r w'=>r=.returned (.agg (bC (wordB n)).toArray)∧∃c',Step No c w c' w'∧Ok c' w':=by
 obtain ⟨q,hq,hqc⟩:=hok.spare 0;obtain ⟨a0,o0,s0⟩:=zan hok (bC (List.replicate 8 0)) 319 q;obtain ⟨a1,o1,s1⟩:=zan o0 (bC (List.replicate 8 0)) 319 q;have hq0:q≠0:=by omega
 rw [World.size_alloc] at a1 o1 s1;have a0':=a0.keep s1 jI;have H1:=jh4 a0' a1 o1 (s0.trans s1);clear a0 a1 o1 s1 a0' o0 s0 hqc hok;go_enter func253,ntmps253;go_wp2;go_loopw [5] (fun vi wr=>∃(i:Nat) (cr:Col),i≤8∧vi=.int .i64 i∧At cr wr w.heap.size q (bC (List.replicate 8 0))∧At cr wr (w.heap.size+1) q (bC (List.replicate (8-i) 0++wordL i n))∧Step No c w cr wr∧Ok cr wr) (fun vi _=>8-(intOf vi).toNat)
 case atStart=>exact ⟨0,_,Nat.zero_le _,rfl,H1.out.1,H1.out.2.1,H1.out.2.2.2,H1.out.2.2.1⟩
 case round=>
  obtain ⟨i,cr,hi,rfl,at0,at1,st,ok⟩:=hrel;by_cases hlt:i<8
  ·obtain ⟨j,hj⟩:=jE (7-i)
   have hij:i+j=7:=by omega
   have h8:8-i=j+1:=by omega
   rw [h8] at at1;have y0:wr.cell? ⟨w.heap.size+1,j,none⟩=some (.int .u8 0):=at1.get (bC_get (x:=0) (by rw [List.getElem?_append_left (by simp)];simp));have yf:=at1.fz ok hq0 j;have hwi:IntKind.i64.wrap (7-(i:Int))=(j:Int):=by rw [show (7:Int)-i=j by omega];exact IntWalk.i64_in _ (by omega)
   have hw8:IntKind.i64.wrap (8*(i:Int))=8*(i:Int):=IntWalk.i64_in _ (by omega);have h80:(0:Int)≤8*(i:Int):=by omega
   have hi0:(0:Int)≤(j:Int):=by omega
   have hi1:(j:Int)<8:=by omega
   have hi2:(i:Int)<8:=by omega
   have HH:=jh4 at0 at1 st ok;clear at0 at1 st ok;go_wp2_with fail;obtain ⟨at0,at1,st,ok⟩:=HH.out
   have hv:((n:Int) / 2 ^ (8*i) % 256)=((UInt8.ofNat (n / 256 ^ i % 256)).toNat:Int):=by
    rw [pow256,←Int.natCast_ediv,u8_nat]
   rw [hv];have h2:=at1.setN (i:=j) (by rw [zaf];simp;omega) (.int .u8 (UInt8.ofNat (n / 256 ^ i % 256)).toNat)
   rw [show (bC (List.replicate (j+1) 0++wordL i n)).set j (.int .u8 (UInt8.ofNat (n / 256 ^ i % 256)).toNat)=bC (List.replicate j 0++wordL (i+1) n) by
    rw [List.replicate_succ',List.append_assoc,bC_app,bC_app,List.set_append_right _ _ (by rw [zaf];simp)]
    simp [bC,wordL]] at h2
   refine ⟨⟨i+1,cr,by omega,by go_num,at0.offC _ _ _ (by omega),by rw [show 8-(i+1)=j by omega];exact h2,st.setCell (.inl (by simp)) _,ok.setCell _ _⟩,by simp [intOf];omega⟩
  ·have hi8:i=8:=by omega
   subst hi8;simp only [Nat.sub_self,List.replicate_zero,List.nil_append] at at1;obtain ⟨B,hB⟩:=jE (bC (wordL 8 n));have hBl:B.length=8:=by rw [←hB,zaf,zbr]
   have hB1:∀v∈B,v.oneCell'=true:=by rw [←hB];exact zaD _
   rw [hB] at at1;have ht0:wr.there w.heap.size 0 B.toArray.size:=at0.there ok hq0 (by simp [zaf,hBl]);have hi0:(prog.info? 319).map (·.size)=some B.length:=by rw [info8,hBl]
   have hi1:(prog.info? 319).map (·.size)=some B.toArray.size:=by rw [info8];simp [hBl]
   have hB2:=all_oneCell_toArray hB1;obtain ⟨S0,a2⟩:=at0.st ok hq0 (ty:=319) (us:=B) (by simp [zaf,hBl]) hi0 hB1;have HH:=jh9 a2 st ok hB at1 ht0 hi0 hi1 hB2;clear at0 at1 st ok a2 hB hBl hB1 ht0 hi0 hi1 hB2 S0;go_wp2_with (first | (refine wpList_load_mid rfl 319 _ rfl (w.heap.size+1) 0 rfl B _ HH.out.2.2.2.2.1.cells underlying319 rfl HH.out.2.2.2.2.2.2.1 ?_) | (refine wpList_store_mid rfl 319 _ _ rfl w.heap.size 0 B.toArray rfl rfl HH.out.2.2.2.2.2.1 HH.out.2.2.2.2.2.2.2.1 HH.out.2.2.2.2.2.2.2.2 ?_));refine bodyPost_ret (zad rfl _ _ w.heap.size 0 B _ rfl HH.out.1.cells underlying319 rfl HH.out.2.2.2.2.2.2.1) rfl ⟨by rw [←HH.out.2.2.2.1];rfl,_,Step.setCells (.inl (Nat.le_refl _)) _ _ _ HH.out.2.1,Ok.setCells _ _ _ HH.out.2.2.1⟩
end
structure Hdr where
 name:List UInt8
 height:Int
 time:Int
 prev:List UInt8
 vals:List UInt8
 next:List UInt8
 app:List UInt8
structure Hdr.Wf (h:Hdr):Prop where
 name:h.name.length≤1000000000
 height:IntKind.i64.has h.height
 time:IntKind.i64.has h.time
 prev:h.prev.length=32
 vals:h.vals.length=32
 next:h.next.length=32
 app:h.app.length=32
def zaz (h:Hdr):List Value:=.string ⟨h.name.toArray⟩::.int .i64 h.height::.int .i64 h.time::(bC h.prev++(bC h.vals++(bC h.next++bC h.app)))
theorem zaj {h:Hdr}(hw:h.Wf):(zaz h).length=131:=by
 obtain ⟨_,_,_,h1,h2,h3,h4⟩:=hw;simp [zaz,zaf,h1,h2,h3,h4]
theorem zaR (h:Hdr):∀v∈zaz h,v.oneCell'=true:=by
 intro v hv;simp only [zaz,List.mem_cons,List.mem_append] at hv
 rcases hv with rfl | rfl | rfl | hv | hv | hv | hv
 ·rfl
 ·rfl
 ·rfl
 all_goals exact zaD _ v hv
theorem zat:(prog.info? 53).map (·.size)=some 131:=by kernel_rfl
def zav (n:Int):Bool:=decide (1≤n)&&decide (n≤1073741824)
def timeB (n:Int):Bool:=decide (0≤n)&&decide (n≤1099511627776)
section
variable {c:Col}{w:World}
theorem iter_step (s:ByteArray) (pos:Nat):Step No c w c (w.iter s pos):=Step.refl.alloc _
theorem iter_ok (hok:Ok c w) (s:ByteArray) (pos:Nat):Ok c (w.iter s pos):=hok.alloc _
theorem rule1_any (hok:Ok c w) (h:Hdr) (hw:h.Wf) :
  Calls prog 195 #[.agg (zaz h).toArray] w fun r w'=>r=.returned (.bool (nameB h.name))∧∃c',Step No c w c' w'∧Ok c' w':=by
 have a1:=At.new0 hok (zaz h) 53;have o1:=hok.alloc (.cells (zaz h).toArray 53);have s1:Step No c w c (w.alloc (.cells (zaz h).toArray 53)):=Step.refl.alloc _;have y0:=a1.get (i:=0) (u:=.string ⟨h.name.toArray⟩) rfl;have N:=name_any h.name hw.name (w.alloc (.cells (zaz h).toArray 53));obtain ⟨B,hB⟩:=jE (zaz h);rw [hB] at a1 o1 s1 y0 N ⊢;have H:=jh2 o1 s1;clear a1 o1 s1 hok hB;go_enter func195,ntmps195;go_wp2_with fail;refine N.mono ?_;rintro e w1 ⟨rfl,hw1⟩;have HW:=jh1 hw1;clear hw1 N;go_wp2;go_ret;obtain ⟨o1,s1⟩:=H.out
 rcases HW.out with rfl | ⟨pos,rfl⟩
 ·exact ⟨rfl,c,s1,o1⟩
 ·exact ⟨rfl,c,s1.trans (iter_step _ _),iter_ok o1 _ _⟩
theorem rule2_any (hok:Ok c w) (h:Hdr) :
  Calls prog 196 #[.agg (zaz h).toArray] w fun r w'=>r=.returned (.bool (zav h.height))∧∃c',Step No c w c' w'∧Ok c' w':=by
 have a1:=At.new0 hok (zaz h) 53;have o1:=hok.alloc (.cells (zaz h).toArray 53);have s1:Step No c w c (w.alloc (.cells (zaz h).toArray 53)):=Step.refl.alloc _;have y0:=a1.get (i:=1) (u:=.int .i64 h.height) rfl;have hb:=jh1 (show zav h.height=(decide (1≤h.height)&&decide (h.height≤1073741824)) from rfl);obtain ⟨B,hB⟩:=jE (zaz h);rw [hB] at a1 o1 s1 y0 ⊢;have H:=jh2 s1 o1;clear a1 o1 s1 hok hB;by_cases h1:1≤h.height
 ·go_enter func196,ntmps196
  go_wp2;go_ret;exact ⟨by (rw [hb.out];simp [h1]),c,H.out⟩
 ·go_enter func196,ntmps196
  go_wp2;go_ret;exact ⟨by (rw [hb.out];simp;omega),c,H.out⟩
theorem rule3_any (hok:Ok c w) (h:Hdr) :
  Calls prog 197 #[.agg (zaz h).toArray] w fun r w'=>r=.returned (.bool (timeB h.time))∧∃c',Step No c w c' w'∧Ok c' w':=by
 have a1:=At.new0 hok (zaz h) 53;have o1:=hok.alloc (.cells (zaz h).toArray 53);have s1:Step No c w c (w.alloc (.cells (zaz h).toArray 53)):=Step.refl.alloc _;have y0:=a1.get (i:=2) (u:=.int .i64 h.time) rfl;have hb:=jh1 (show timeB h.time=(decide (0≤h.time)&&decide (h.time≤1099511627776)) from rfl);obtain ⟨B,hB⟩:=jE (zaz h);rw [hB] at a1 o1 s1 y0 ⊢;have H:=jh2 s1 o1;clear a1 o1 s1 hok hB;by_cases h1:0≤h.time
 ·go_enter func197,ntmps197
  go_wp2;go_ret;exact ⟨by (rw [hb.out];simp [h1]),c,H.out⟩
 ·go_enter func197,ntmps197
  go_wp2;go_ret;exact ⟨by (rw [hb.out];simp;omega),c,H.out⟩
end
def zaL (h:Hdr):Int:=if nameB h.name=false then 5 else if zav h.height=false then 3 else if timeB h.time=false then 3 else 0
theorem info_rule:(prog.info? 247).map (·.size)=some 2:=by kernel_rfl
section
variable {c:Col}{w:World}
theorem rules_any (w:World):Calls prog 170 #[] w fun r w'=>r=.returned (.slice (some ⟨w.heap.size,0,none⟩) 3 3)∧w'=w.alloc (.cells #[.func (.func 195) #[] #[],.int .i64 5,.func (.func 196) #[] #[],.int .i64 3,.func (.func 197) #[] #[],.int .i64 3] 247):=by
 go_enter func170,ntmps170;go_wp2;go_ret;exact ⟨rfl,rfl⟩
theorem check_any (hok:Ok c w) (h:Hdr) (hw:h.Wf) :
  Calls prog 141 #[.agg (zaz h).toArray] w fun r w'=>r=.returned (.int .i64 (zaL h))∧∃c',Step No c w c' w'∧Ok c' w':=by
 have a1:=At.new0 hok (zaz h) 53;have o1:=hok.alloc (.cells (zaz h).toArray 53);have s1:Step No c w c (w.alloc (.cells (zaz h).toArray 53)):=Step.refl.alloc _;have a2:=At.new0 o1 [.func (.func 195) #[] #[],.int .i64 5,.func (.func 196) #[] #[],.int .i64 3,.func (.func 197) #[] #[],.int .i64 3] 247;have s2:Step No c (w.alloc (.cells (zaz h).toArray 53)) c ((w.alloc (.cells (zaz h).toArray 53)).alloc (.cells #[.func (.func 195) #[] #[],.int .i64 5,.func (.func 196) #[] #[],.int .i64 3,.func (.func 197) #[] #[],.int .i64 3] 247)):=Step.refl.alloc _;have o2:=o1.alloc (.cells #[.func (.func 195) #[] #[],.int .i64 5,.func (.func 196) #[] #[],.int .i64 3,.func (.func 197) #[] #[],.int .i64 3] 247);have a12:=a1.keep s2 jI;rw [World.size_alloc] at a2;have RU:=rules_any (w.alloc (.cells (zaz h).toArray 53));have R1:=fun {c':Col} {w':World} (ho:Ok c' w')=>rule1_any ho h hw;have R2:=fun {c':Col} {w':World} (ho:Ok c' w')=>rule2_any ho h;have R3:=fun {c':Col} {w':World} (ho:Ok c' w')=>rule3_any ho h;have hl:=zaj hw;have hC:=jh1 (show zaL h=if nameB h.name=false then 5 else if zav h.height=false then 3 else if timeB h.time=false then 3 else 0 from rfl);obtain ⟨B,hB⟩:=jE (zaz h);rw [hB] at a1 o1 s1 a2 s2 o2 a12 RU hl R1 R2 R3 ⊢;have hi:Hid ((prog.info? 53).map (·.size)=some B.length):=jh1 (by rw [zat,hl]);obtain ⟨b1,hb1⟩:=jE w.heap.size;have S12:=s1.trans s2;have H0:=jh5 S12 o2 a12 a2 hb1;have HR:=jh3 @R1 @R2 @R3;clear a1 o1 s1 a2 s2 o2 a12 R1 R2 R3 hl hB hok S12 hb1;go_enter func141,ntmps141;go_wp2_with fail;refine RU.mono ?_;rintro e w1 ⟨rfl,rfl⟩;clear RU;go_wp2;go_loopw [7] (fun vi wr=>∃(i:Nat) (cr:Col),i≤3∧vi=.int .i64 i∧Step No c w cr wr∧Ok cr wr∧At cr wr w.heap.size 0 B∧At cr wr (w.heap.size+1) 0 [.func (.func 195) #[] #[],.int .i64 5,.func (.func 196) #[] #[],.int .i64 3,.func (.func 197) #[] #[],.int .i64 3]∧(0<i→nameB h.name=true)∧(1<i→zav h.height=true)∧(2<i→timeB h.time=true)) (fun vi _=>3-(intOf vi).toNat)
 case atStart=>exact ⟨0,c,by omega,rfl,H0.out.1,H0.out.2.1,H0.out.2.2.1,H0.out.2.2.2.1,by omega,by omega,by omega⟩
 case round=>
  obtain ⟨i,cr,hi3,rfl,st,ok,ah,ar,k1,k2,k3⟩:=hrel;have e0:=ar.get (i:=0) rfl;have e1:=ar.get (i:=1) rfl;have e2:=ar.get (i:=2) rfl;have e3:=ar.get (i:=3) rfl;have e4:=ar.get (i:=4) rfl;have e5:=ar.get (i:=5) rfl
  rcases (by omega:i=0∨i=1∨i=2∨i=3) with rfl | rfl | rfl | rfl
  ·obtain ⟨q,hq,hqc⟩:=ok.spare 0
   have hq0:q≠0:=by omega
   obtain ⟨az,oz,sz⟩:=zan ok [.nilFunc,.int .i64 0] 247 q;have hi2:Hid ((prog.info? 247).map (·.size)=some 2):=jh1 info_rule;obtain ⟨S0,a4⟩:=az.st oz hq0 (ty:=247) (us:=[.func (.func 195) #[] #[],.int .i64 5]) rfl hi2.out (by intro u hu;simp at hu;rcases hu with rfl | rfl <;> rfl);have ht:=jh1 (az.there (o:=0) (n:=([.func (.func 195) #[] #[],.int .i64 5]:List Value).toArray.size) oz hq0 (by simp));have hall:=jh1 (all_oneCell_toArray (cs:=[.func (.func 195) #[] #[],.int .i64 5]) (by intro u hu;simp at hu;rcases hu with rfl | rfl <;> rfl));have hi3:Hid ((prog.info? 247).map (·.size)=some ([.func (.func 195) #[] #[],.int .i64 5]:List Value).toArray.size):=jh1 info_rule;have sx:Step No cr wr (cr.put wr.heap.size q) ((wr.alloc (.cells #[.nilFunc,.int .i64 0] 247)).setCells wr.heap.size 0 [.func (.func 195) #[] #[],.int .i64 5]):=Step.setCells (.inl (Nat.le_refl _)) _ _ _ sz;have ox:Ok (cr.put wr.heap.size q) ((wr.alloc (.cells #[.nilFunc,.int .i64 0] 247)).setCells wr.heap.size 0 [.func (.func 195) #[] #[],.int .i64 5]):=Ok.setCells _ _ _ oz;have R:=(HR.out.1) ox;have ahx:=ah.keep sx jI;have arx:=ar.keep sx jI;have e6:=a4.get (i:=0) rfl;have e7:=a4.get (i:=1) rfl;have HX:=jh7 ahx arx (st.trans sx) k1 k2 k3 a4;have HA:=jh1 ahx.cells;obtain ⟨v,hv⟩:=jE (nameB h.name);rw [hv] at R;have HV:=jh1 hv;clear st ok ah ar k1 k2 k3 ahx arx sx hv az oz sz S0 a4 ox hqc;go_wp2_with (first | (refine wpList_load_mid rfl 53 _ rfl w.heap.size 0 rfl B _ HA.out underlying53 rfl hi.out ?_) | (refine wpList_store_mid rfl 247 _ _ rfl wr.heap.size 0 ([.func (.func 195) #[] #[],.int .i64 5]:List Value).toArray rfl rfl ht.out hi3.out hall.out ?_));refine R.mono ?_;rintro e w2 ⟨rfl,c2,s2,o2⟩;have P:=jh3 s2 o2 (HX.out.2.2.2.2.2.2.keep s2 jI);have e8:=P.out.2.2.get (i:=1) rfl;clear R s2 o2 e0 e1 e2 e3 e4 e5 e6 e7
   rcases v with _ | _
   ·go_wp2
    go_ret;obtain ⟨s2,o2,_⟩:=P.out;refine ⟨?_,c2,HX.out.2.2.1.trans s2,o2⟩;rw [hC.out,if_pos HV.out]
    rfl
   ·go_wp2
    go_roundw
    case rel=>
     obtain ⟨s2,o2,_⟩:=P.out;exact ⟨1,c2,by omega,by first | rfl | go_num,HX.out.2.2.1.trans s2,o2,HX.out.1.keep s2 jI,HX.out.2.1.keep s2 jI,fun _=>HV.out,fun h=>absurd h (by decide),fun h=>absurd h (by decide)⟩
    case measure=>simp [intOf]
  ·obtain ⟨q,hq,hqc⟩:=ok.spare 0
   have hq0:q≠0:=by omega
   obtain ⟨az,oz,sz⟩:=zan ok [.nilFunc,.int .i64 0] 247 q;have hi2:Hid ((prog.info? 247).map (·.size)=some 2):=jh1 info_rule;obtain ⟨S0,a4⟩:=az.st oz hq0 (ty:=247) (us:=[.func (.func 196) #[] #[],.int .i64 3]) rfl hi2.out (by intro u hu;simp at hu;rcases hu with rfl | rfl <;> rfl);have ht:=jh1 (az.there (o:=0) (n:=([.func (.func 196) #[] #[],.int .i64 3]:List Value).toArray.size) oz hq0 (by simp));have hall:=jh1 (all_oneCell_toArray (cs:=[.func (.func 196) #[] #[],.int .i64 3]) (by intro u hu;simp at hu;rcases hu with rfl | rfl <;> rfl));have hi3:Hid ((prog.info? 247).map (·.size)=some ([.func (.func 196) #[] #[],.int .i64 3]:List Value).toArray.size):=jh1 info_rule;have sx:Step No cr wr (cr.put wr.heap.size q) ((wr.alloc (.cells #[.nilFunc,.int .i64 0] 247)).setCells wr.heap.size 0 [.func (.func 196) #[] #[],.int .i64 3]):=Step.setCells (.inl (Nat.le_refl _)) _ _ _ sz;have ox:Ok (cr.put wr.heap.size q) ((wr.alloc (.cells #[.nilFunc,.int .i64 0] 247)).setCells wr.heap.size 0 [.func (.func 196) #[] #[],.int .i64 3]):=Ok.setCells _ _ _ oz;have R:=(HR.out.2.1) ox;have ahx:=ah.keep sx jI;have arx:=ar.keep sx jI;have e6:=a4.get (i:=0) rfl;have e7:=a4.get (i:=1) rfl;have HX:=jh7 ahx arx (st.trans sx) k1 k2 k3 a4;have HA:=jh1 ahx.cells;obtain ⟨v,hv⟩:=jE (zav h.height);rw [hv] at R;have HV:=jh1 hv;clear st ok ah ar k1 k2 k3 ahx arx sx hv az oz sz S0 a4 ox hqc;go_wp2_with (first | (refine wpList_load_mid rfl 53 _ rfl w.heap.size 0 rfl B _ HA.out underlying53 rfl hi.out ?_) | (refine wpList_store_mid rfl 247 _ _ rfl wr.heap.size 0 ([.func (.func 196) #[] #[],.int .i64 3]:List Value).toArray rfl rfl ht.out hi3.out hall.out ?_));refine R.mono ?_;rintro e w2 ⟨rfl,c2,s2,o2⟩;have P:=jh3 s2 o2 (HX.out.2.2.2.2.2.2.keep s2 jI);have e8:=P.out.2.2.get (i:=1) rfl;clear R s2 o2 e0 e1 e2 e3 e4 e5 e6 e7
   rcases v with _ | _
   ·go_wp2
    go_ret;obtain ⟨s2,o2,_⟩:=P.out;refine ⟨?_,c2,HX.out.2.2.1.trans s2,o2⟩;rw [hC.out,if_neg (by rw [HX.out.2.2.2.1 (by decide)];decide),if_pos HV.out]
    rfl
   ·go_wp2
    go_roundw
    case rel=>
     obtain ⟨s2,o2,_⟩:=P.out;exact ⟨2,c2,by omega,by first | rfl | go_num,HX.out.2.2.1.trans s2,o2,HX.out.1.keep s2 jI,HX.out.2.1.keep s2 jI,fun _=>HX.out.2.2.2.1 (by decide),fun _=>HV.out,fun h=>absurd h (by decide)⟩
    case measure=>simp [intOf]
  ·obtain ⟨q,hq,hqc⟩:=ok.spare 0
   have hq0:q≠0:=by omega
   obtain ⟨az,oz,sz⟩:=zan ok [.nilFunc,.int .i64 0] 247 q;have hi2:Hid ((prog.info? 247).map (·.size)=some 2):=jh1 info_rule;obtain ⟨S0,a4⟩:=az.st oz hq0 (ty:=247) (us:=[.func (.func 197) #[] #[],.int .i64 3]) rfl hi2.out (by intro u hu;simp at hu;rcases hu with rfl | rfl <;> rfl);have ht:=jh1 (az.there (o:=0) (n:=([.func (.func 197) #[] #[],.int .i64 3]:List Value).toArray.size) oz hq0 (by simp));have hall:=jh1 (all_oneCell_toArray (cs:=[.func (.func 197) #[] #[],.int .i64 3]) (by intro u hu;simp at hu;rcases hu with rfl | rfl <;> rfl));have hi3:Hid ((prog.info? 247).map (·.size)=some ([.func (.func 197) #[] #[],.int .i64 3]:List Value).toArray.size):=jh1 info_rule;have sx:Step No cr wr (cr.put wr.heap.size q) ((wr.alloc (.cells #[.nilFunc,.int .i64 0] 247)).setCells wr.heap.size 0 [.func (.func 197) #[] #[],.int .i64 3]):=Step.setCells (.inl (Nat.le_refl _)) _ _ _ sz;have ox:Ok (cr.put wr.heap.size q) ((wr.alloc (.cells #[.nilFunc,.int .i64 0] 247)).setCells wr.heap.size 0 [.func (.func 197) #[] #[],.int .i64 3]):=Ok.setCells _ _ _ oz;have R:=(HR.out.2.2) ox;have ahx:=ah.keep sx jI;have arx:=ar.keep sx jI;have e6:=a4.get (i:=0) rfl;have e7:=a4.get (i:=1) rfl;have HX:=jh7 ahx arx (st.trans sx) k1 k2 k3 a4;have HA:=jh1 ahx.cells;obtain ⟨v,hv⟩:=jE (timeB h.time);rw [hv] at R;have HV:=jh1 hv;clear st ok ah ar k1 k2 k3 ahx arx sx hv az oz sz S0 a4 ox hqc;go_wp2_with (first | (refine wpList_load_mid rfl 53 _ rfl w.heap.size 0 rfl B _ HA.out underlying53 rfl hi.out ?_) | (refine wpList_store_mid rfl 247 _ _ rfl wr.heap.size 0 ([.func (.func 197) #[] #[],.int .i64 3]:List Value).toArray rfl rfl ht.out hi3.out hall.out ?_));refine R.mono ?_;rintro e w2 ⟨rfl,c2,s2,o2⟩;have P:=jh3 s2 o2 (HX.out.2.2.2.2.2.2.keep s2 jI);have e8:=P.out.2.2.get (i:=1) rfl;clear R s2 o2 e0 e1 e2 e3 e4 e5 e6 e7
   rcases v with _ | _
   ·go_wp2
    go_ret;obtain ⟨s2,o2,_⟩:=P.out;refine ⟨?_,c2,HX.out.2.2.1.trans s2,o2⟩;rw [hC.out,if_neg (by rw [HX.out.2.2.2.1 (by decide)];decide),if_neg (by rw [HX.out.2.2.2.2.1 (by decide)];decide),if_pos HV.out]
    rfl
   ·go_wp2
    go_roundw
    case rel=>
     obtain ⟨s2,o2,_⟩:=P.out;exact ⟨3,c2,by omega,by first | rfl | go_num,HX.out.2.2.1.trans s2,o2,HX.out.1.keep s2 jI,HX.out.2.1.keep s2 jI,fun _=>HX.out.2.2.2.1 (by decide),fun _=>HX.out.2.2.2.2.1 (by decide),fun _=>HV.out⟩
    case measure=>simp [intOf]
  ·have P:=jh5 st ok k1 k2 k3
   clear st ok ah ar k1 k2 k3;go_wp2;go_ret;obtain ⟨st,ok,k1,k2,k3⟩:=P.out;refine ⟨?_,cr,st,ok⟩;rw [hC.out,if_neg (by rw [k1 (by decide)];decide),if_neg (by rw [k2 (by decide)];decide),if_neg (by rw [k3 (by decide)];decide)]
   rfl
end
structure IsWr (c:Col) (k kb:Nat) (w:World) (p:Nat) (lim:Int) (s:List UInt8×Int):Prop where
 row:∃bv,At c w p k [.int .i64 lim,bv,.int .i64 s.2,.bool true]∧Own zag 5 c kb 0 w bv s.1
theorem IsWr.keep {K:Nat→Prop}{c c':Col}{k kb:Nat}{w w':World}{p:Nat}{lim:Int}{s:List UInt8×Int}(h:IsWr c k kb w p lim s) (hs:Step K c w c' w') (hk:¬K k) (hb:¬K kb) (h0:¬K 0):IsWr c' k kb w' p lim s:=by
 obtain ⟨bv,a,o⟩:=h.row;exact ⟨bv,a.keep hs hk,o.keep hs hb h0⟩
theorem IsWr.kn {c c':Col}{k kb:Nat}{w w':World}{p:Nat}{lim:Int}{s:List UInt8×Int}(h:IsWr c k kb w p lim s) (hs:Step No c w c' w'):IsWr c' k kb w' p lim s:=h.keep hs jI jI jI
def putS (lim:Int) (s:List UInt8×Int) (may:Bool) (x:List UInt8):List UInt8×Int:=
 if s.2≠0 then s else if may=false then (s.1,3) else if lim<(s.1.length:Int)+x.length then (s.1,4) else (s.1++x,0)
section
variable {c:Col}{w:World}
theorem At.set2 {c:Col}{W:World}{b k:Nat}{v0 v1 v2 v3:Value}(h:At c W b k [v0,v1,v2,v3]) (u:Value):At c (W.setCell ⟨b,2,none⟩ u) b k [v0,v1,u,v3]:=h.setN (i:=2) (by simp) u
theorem At.set1 {c:Col}{W:World}{b k:Nat}{v0 v1 v2 v3:Value}(h:At c W b k [v0,v1,v2,v3]) (u:Value):At c (W.setCell ⟨b,1,none⟩ u) b k [v0,u,v2,v3]:=h.setN (i:=1) (by simp) u
theorem put_any (hok:Ok c w) {k kb:Nat}{p:Nat}{lim:Int}{s:List UInt8×Int}(h:IsWr c k kb w p lim s) (hk0:k≠0) (hb0:kb≠0) (hkb:kb≠k) (hlim:lim≤1048576) (hl0:(s.1.length:Int)≤lim)
  (may:Bool) {v:Value} {ls:List (List UInt8)} (hv:Sl TBs c 0 0 w v ls) (hn0:0<ls.length) (hn:ls.length≤1000) (ht:ls.flatten.length≤1000000000) :
  Calls prog 200 #[.pointer (some ⟨p,0,none⟩),.bool may,v] w fun r w'=>r=.returned (.int .i64 (putS lim s may ls.flatten).2) ∧
   ∃c',IsWr c' k kb w' p lim (putS lim s may ls.flatten)∧Step (Two k kb) c w c' w'∧Ok c' w':=by
 obtain ⟨bs,e⟩:=s;obtain ⟨bv,a,ow⟩:=h.row;obtain ⟨ba,bc,rfl,_⟩:=ow.sl.form;have y0:=a.get (i:=0) rfl;have y2:=a.get (i:=2) rfl;have y3:=a.get (i:=3) rfl;have C:=concat_any hok hv hn0 hn ht 0;have HA:=jh2 a ow;clear h a ow hv;obtain ⟨fl,hfl⟩:=jE ls.flatten;rw [hfl] at C ht ⊢;clear hfl;have fin:∀{c1 w1},Step No c w c1 w1→Ok c1 w1→IsWr c1 k kb w1 p lim (bs,e):=fun hs ho=>⟨_,(HA.out.1).keep hs jI,(HA.out.2).kn hs⟩;go_enter func200,ntmps200;go_wp2_with fail;refine C.mono ?_;rintro e1 w1 ⟨v1,rfl,c1,p1,s1,o1⟩;obtain ⟨va,vc,rfl,_⟩:=p1.sl.form;have a1:=HA.out.1.keep s1 jI;have ow1:=HA.out.2.kn s1;have x0:=a1.get (i:=0) rfl;have x1:=a1.get (i:=1) rfl;have x2:=a1.get (i:=2) rfl;have x2f:=a1.fz o1 hk0 2;have x1f:=a1.fz o1 hk0 1;clear C y0 y2 y3;have T1:=s1.ofNo (K:=Two k kb);have hk2:c1 p=k:=a1.col;have D1:∀n u,At c1 ((w1.drewN n).setCell ⟨p,2,none⟩ u) p k [.int .i64 lim,.slice ba bs.length bc,u,.bool true]:=fun n u=>(a1.keep (Step.rf.drewN (K:=No) n) jI).set2 u;have E1:∀n u,Own zag 5 c1 kb 0 ((w1.drewN n).setCell ⟨p,2,none⟩ u) (.slice ba bs.length bc) bs:=fun n u=>(ow1.kn (Step.rf.drewN n)).set (a:=⟨p,2,none⟩) (by show c1 p≠kb;omega) (by show c1 p≠0;omega) u;have F1:∀n u,Step (Two k kb) c w c1 ((w1.drewN n).setCell ⟨p,2,none⟩ u):=fun n u=>(T1.drewN n).setCell (.inr (.inl HA.out.1.col)) u;by_cases he:e=0
 ·subst he
  rcases may with _ | _
  ·have P1:=jh4 D1 E1 F1 o1
   clear a1 ow1 s1 o1 p1 D1 E1 F1 T1 hk2;go_wp2;go_ret;obtain ⟨D1,E1,F1,o1⟩:=P1.out;exact ⟨rfl,c1,⟨_,D1 0 _,E1 0 _⟩,F1 0 _,o1.setCell _ _⟩
  ·by_cases hlong:lim<(bs.length:Int)+fl.length
   ·have hp:putS lim (bs,0) true fl=(bs,4):=by simp [putS,hlong]
    have HP:=jh1 hp;have hw:IntKind.i64.wrap ((bs.length:Int)+fl.length)=(bs.length:Int)+fl.length:=IntWalk.i64_in _ (by omega);have P1:=jh4 D1 E1 F1 o1;clear a1 ow1 s1 o1 p1 D1 E1 F1 T1 hk2 hp;go_wp2_with fail;go_quiet (fail);go_wp2;go_ret;obtain ⟨D1,E1,F1,o1⟩:=P1.out;rw [HP.out];exact ⟨rfl,c1,⟨_,D1 _ _,E1 _ _⟩,F1 _ _,(o1.drewN _).setCell _ _⟩
   ·have hp:putS lim (bs,0) true fl=(bs++fl,0):=by simp [putS,hlong]
    have HP:=jh1 hp;have hw:IntKind.i64.wrap ((bs.length:Int)+fl.length)=(bs.length:Int)+fl.length:=IntWalk.i64_in _ (by omega);have hn1:bs.length+fl.length≤maxLen:=by simp only [maxLen];omega
    have hn2:(bs.length+fl.length)*1≤140737488355328:=by omega
    have hb1:0≠kb:=fun e=>hb0 e.symm;have hsl:=p1.sl;have P1:=jh3 a1 T1 hk2;clear a1 s1 D1 E1 F1 T1 hk2 hp p1;go_wp2_with fail;go_quiet (fail);go_wp2_with (at_builtin;refine zaq zag (o1.drewN _) rfl _ _ 26 rfl 5 underlying26 zbp rfl (by decide) rfl rfl (ow1.kn (Step.rf.drewN _)) (hsl.kn (Step.rf.drewN _)) hb1 hn1 hn2 ?_;rintro v6 w6 c6 b1 b2 b3 -;obtain ⟨va6,vc6,rfl,_⟩:=b1.sl.form;have a6:=(P1.out.1.keep (Step.rf.drewN (K:=No) _) jI).keep b2 (show ¬k=kb by omega);have z1:=a6.get (i:=1) rfl;have z2:=a6.get (i:=2) rfl;have z1f:=a6.fz b3 hk0 1;rw [show (bs++fl).length=bs.length+fl.length by simp] at b1 ⊢;have P6:=jh4 a6 b1 b2 b3;clear a6 b1 b2 b3 ow1 hsl);go_ret;obtain ⟨a6,b1,b2,b3⟩:=P6.out;obtain ⟨a1,T1,hk2⟩:=P1.out;rw [HP.out];have hc6:c6 p=k:=a6.col;exact ⟨rfl,c6,⟨_,a6.set1 _,b1.set (a:=⟨p,1,none⟩) (by show c6 p≠kb;omega) (by show c6 p≠0;omega) _⟩,((T1.drewN _).trans (b2.mono fun _ h=>.inr h)).setCell (.inr (.inl HA.out.1.col)) _,b3.setCell _ _⟩
 ·have hp:putS lim (bs,e) may fl=(bs,e):=by simp [putS,he]
  have HP:=jh1 hp;have P1:=jh4 a1 ow1 T1 o1;have he':(e==0)=false:=beq_eq_false_iff_ne.2 he;clear a1 ow1 s1 o1 p1 D1 E1 F1 T1 hk2 hp;go_wp2;go_ret;obtain ⟨a1,ow1,T1,o1⟩:=P1.out;rw [HP.out];exact ⟨rfl,c1,⟨_,a1,ow1⟩,T1,o1⟩
end
section
variable {c:Col}{w:World}
theorem Col.put_fresh (hok:Ok c w):c.put w.heap.size 0=c:=by
 funext b
 unfold Col.put
 split
 ·next h=>subst h;exact (hok.fresh _ (Nat.le_refl _)).symm
 ·rfl
def Rds {α:Type}(T:Ty α) (c:Col) (k2:Nat) (w:World):List (List Value)→List α→Prop
 | [],[]=>True
 | v::vs,x::xs=>T.rd c k2 w v x∧Rds T c k2 w vs xs
 | _,_=>False
theorem Rds.get {α:Type}{T:Ty α}{k2:Nat}:∀{vs:List (List Value)}{xs:List α},Rds T c k2 w vs xs→∀(i:Nat) x,xs[i]? = some x→∃v,vs[i]? = some v∧T.rd c k2 w v x
 | [],[],_,i,x,h=>by simp at h
 | [],_::_,h,_,_,_=>h.elim
 | _::_,[],h,_,_,_=>h.elim
 | v::vs,y::ys,h,0,x,hi=>by simp at hi;subst hi;exact ⟨v,rfl,h.1⟩
 | v::vs,y::ys,h,i+1,x,hi=>by
  obtain ⟨u,h1,h2⟩:=Rds.get h.2 i x (by simpa using hi);exact ⟨u,by simpa using h1,h2⟩
theorem Rds.len {α:Type}{T:Ty α}{k2:Nat}:∀{vs:List (List Value)}{xs:List α},Rds T c k2 w vs xs→vs.length=xs.length∧∀v∈vs,v.length=T.n
 | [],[],_=>⟨rfl,by simp⟩
 | [],_::_,h=>h.elim
 | _::_,[],h=>h.elim
 | v::vs,y::ys,h=>by
  obtain ⟨h1,h2⟩:=Rds.len h.2
  exact ⟨by simp [h1],fun u hu=>by
   rcases List.mem_cons.1 hu with rfl | hu
   ·exact T.len h.1
   ·exact h2 u hu⟩
theorem put_list {α:Type}{T:Ty α}(hok:Ok c w) (k2:Nat) {xss:List (List Value)}{l:List α}(hr:Rds T c k2 w xss l) {cs:Array Value}(hcs:xss.flatten.toArray=cs) {n:Nat}(hn:l.length=n) (hm:n≤1000) (e:TypeId) :
  Ok c (w.alloc (.cells cs e))∧Sl T c 0 k2 (w.alloc (.cells cs e)) (.slice (some ⟨w.heap.size,0,none⟩) n n) l∧Step No c w c (w.alloc (.cells cs e)):=by
 subst hcs hn;obtain ⟨a1,a2,a3⟩:=Own.new T e hok 0 k2 xss l hr.len.1 (by simp [maxLen];omega) hr.get hr.len.2;rw [Col.put_fresh hok] at a1 a2 a3;exact ⟨a2,a1.sl,a3⟩
end
section
variable {c:Col}{w:World}
theorem zbn (hok:Ok c w) (lim:Int) (h0:0≤lim) (h1:lim≤1048576) (k kb:Nat) :
  Calls prog 90 #[.int .i64 lim] w fun r w'=>r=.returned (.tuple #[.pointer (some ⟨w.heap.size,0,none⟩),.int .i64 0]) ∧
   ∃c',IsWr c' k kb w' w.heap.size lim ([],0)∧Step No c w c' w'∧Ok c' w':=by
 obtain ⟨a1,o1,s1⟩:=zan hok [.int .i64 lim,.slice none 0 0,.int .i64 0,.bool true] 204 k;have H:=jh3 a1 o1 s1;clear a1 o1 s1 hok;go_enter func90,ntmps90;go_wp2;go_ret2;obtain ⟨a1,o1,s1⟩:=H.out;exact ⟨rfl,_,⟨_,a1,Own.nil _ _ _ _ _ _⟩,s1,o1⟩
theorem put1 (hok:Ok c w) {k kb:Nat}{p:Nat}{lim:Int}{s:List UInt8×Int}(h:IsWr c k kb w p lim s) (hk0:k≠0) (hb0:kb≠0) (hkb:kb≠k) (hlim:lim≤1048576) (hl0:(s.1.length:Int)≤lim)
  {v:Value} {x:List UInt8} (hv:Sl zag c 0 0 w v x) (hx:x.length≤1000000000) :
  Calls prog 200 #[.pointer (some ⟨p,0,none⟩),.bool true,.slice (some ⟨w.heap.size,0,none⟩) 1 1] (w.alloc (.cells #[v] 26)) fun r w'=>r=.returned (.int .i64 (putS lim s true x).2) ∧
   ∃c',IsWr c' k kb w' p lim (putS lim s true x)∧Step (Two k kb) c w c' w'∧Ok c' w':=by
 obtain ⟨x1,x2,x3⟩:=zbE (T:=TBs) (x:=x) (vs:=[v]) (k2:=0) hok ⟨v,rfl,hv⟩ 26;refine (put_any x1 (h.kn x3) hk0 hb0 hkb hlim hl0 true x2 (by simp) (by simp) (by simpa using hx)).mono ?_;rintro e w' ⟨rfl,c',i,s',o⟩;rw [show [x].flatten=x by simp] at i ⊢;exact ⟨rfl,c',i,x3.ofNo.trans s',o⟩
theorem zae (n:Nat):(zay n).length≤9:=by
 have:=minF_len 8 n;simp [zay,minB];omega
theorem num_any (hok:Ok c w) {k kb:Nat}{p:Nat}{lim:Int}{s:List UInt8×Int}(h:IsWr c k kb w p lim s) (hk0:k≠0) (hb0:kb≠0) (hkb:kb≠k) (hlim:lim≤1048576) (hl0:(s.1.length:Int)≤lim)
  (n:Nat) (hn:n<9223372036854775808) :
  Calls prog 189 #[.pointer (some ⟨p,0,none⟩),.int .i64 n] w fun r w'=>r=.returned (.int .i64 (putS lim s true (zay n)).2) ∧
   ∃c',IsWr c' k kb w' p lim (putS lim s true (zay n))∧Step (Two k kb) c w c' w'∧Ok c' w':=by
 have N:=number_any hok n hn 0;have hm0:(0:Int)≤(n:Int):=by omega
 have hmx:max (n:Int) 0=(n:Int):=by omega
 have H:=jh1 h;clear h;go_enter func189,ntmps189;go_wp2_with fail;refine N.mono ?_;rintro e w1 ⟨v1,rfl,c1,p1,s1,o1⟩;obtain ⟨va,vc,rfl,_⟩:=p1.form;have P:=put1 o1 (H.out.kn s1) hk0 hb0 hkb hlim hl0 p1 (Nat.le_trans (zae n) (by omega));obtain ⟨nl,hnl⟩:=jE ((zay n).length);rw [hnl] at P ⊢;have S:=jh1 s1;clear N p1 s1 o1 hnl;go_wp2_with fail;refine P.mono ?_;rintro e w2 ⟨rfl,c2,i2,s2,o2⟩;have P2:=jh3 i2 s2 o2;clear P i2 s2 o2;go_wp2;go_ret;obtain ⟨i2,s2,o2⟩:=P2.out;exact ⟨rfl,c2,i2,S.out.ofNo.trans s2,o2⟩
theorem bytes_any (hok:Ok c w) {k kb:Nat}{p:Nat}{lim:Int}{s:List UInt8×Int}(h:IsWr c k kb w p lim s) (hk0:k≠0) (hb0:kb≠0) (hkb:kb≠k) (hlim:lim≤1048576) (hl0:(s.1.length:Int)≤lim)
  {v:Value} {x:List UInt8} (hv:Sl zag c 0 0 w v x) (hx:x.length≤100000000) :
  Calls prog 213 #[.pointer (some ⟨p,0,none⟩),v] w fun r w'=>r=.returned (.int .i64 (putS lim s true (zay x.length++x)).2) ∧
   ∃c',IsWr c' k kb w' p lim (putS lim s true (zay x.length++x))∧Step (Two k kb) c w c' w'∧Ok c' w':=by
 have N:=number_any hok x.length (by omega) 0;obtain ⟨va,vc,rfl,_⟩:=hv.form;have H:=jh2 h hv;clear h hv;go_enter func213,ntmps213;go_wp2_with fail;refine N.mono ?_;rintro e w1 ⟨v1,rfl,c1,p1,s1,o1⟩;obtain ⟨va1,vc1,rfl,_⟩:=p1.form;have h1:=H.out.1.kn s1;have hv1:=H.out.2.kn s1;have hln:=zae x.length;obtain ⟨nb,hnb⟩:=jE (zay x.length);rw [hnb] at p1 hln;obtain ⟨x1,x2,x3⟩:=put_list (T:=TBs) o1 0 (xss:=[[.slice va1 nb.length vc1],[.slice va x.length vc]]) (l:=[nb,x]) ⟨⟨_,rfl,by rw [hnb] at *;exact p1⟩,⟨_,rfl,hv1⟩,trivial⟩ (cs:=#[.slice va1 nb.length vc1,.slice va x.length vc]) rfl (n:=2) rfl (by omega) 26;have P:=put_any x1 (h1.kn x3) hk0 hb0 hkb hlim hl0 true x2 (by simp) (by simp) (by simp;omega);rw [show [nb,x].flatten=nb++x by simp] at P;have sx:=s1.trans x3;obtain ⟨nl,hnl⟩:=jE nb.length;rw [hnl] at P sx;have S:=jh2 sx hnb;rw [hnb,hnl];clear N p1 s1 o1 h1 hv1 x1 x2 x3 hnb hnl hln sx;go_wp2_with fail;refine P.mono ?_;rintro e w2 ⟨rfl,c2,i2,s2,o2⟩;have P2:=jh3 i2 s2 o2;clear P i2 s2 o2;go_wp2;go_ret;obtain ⟨i2,s2,o2⟩:=P2.out;obtain ⟨sx,hnb⟩:=S.out;rw [hnb];exact ⟨rfl,c2,i2,sx.ofNo.trans s2,o2⟩
theorem conv_any (hok:Ok c w) (l:List UInt8) (hl:l.length≤100000000) (e:TypeId) (k2:Nat) :
  Sl zag c 0 k2 (Go.Lib.bytesWorld w e ⟨l.toArray⟩) (.slice (some ⟨w.heap.size,0,none⟩) l.length (grownCap w l.length 0 e)) l∧Step No c w c (Go.Lib.bytesWorld w e ⟨l.toArray⟩)∧Ok c (Go.Lib.bytesWorld w e ⟨l.toArray⟩):=by
 have hsz:(Go.Lib.bytesWorld w e ⟨l.toArray⟩).heap.size=w.heap.size+1:=Go.Lib.bytesWorld_size _ _ _;have hst:Step No c w c (Go.Lib.bytesWorld w e ⟨l.toArray⟩):=⟨rfl,rfl,rfl,by omega,fun b hb _=>Go.Lib.bytesWorld_at_old w e _ b hb,fun _ _ _=>rfl⟩;refine ⟨.inr ⟨w.heap.size,0,_,rfl,grownCap_ge ..,grownCap_le_maxLen _ _ _ _ (by simp only [maxLen];omega),hok.fresh _ (Nat.le_refl _),by omega,fun i x hi=>⟨_,rfl,?_⟩⟩,hst,⟨fun b hb=>hok.fresh b (by omega),fun b o hc=>?_⟩⟩
 ·intro i' u hu
  have hi0:i'=0:=by have:=(List.getElem?_eq_some_iff.1 hu).1;simp at this;omega
  subst hi0;simp at hu;subst hu;have hil:=(List.getElem?_eq_some_iff.1 hi).1;have:=Go.Lib.bytesWorld_cell w e ⟨l.toArray⟩ i (by show i<l.toArray.size;simpa using hil);rw [show (0+i*zag.n+0)=i by simp [zag]];rw [this];simp [List.getD,hi]
 ·have hb:b<w.heap.size:=hok.lt hc
  rw [←hok.soft b o hc];exact World.frozen?_of_block (w:=w) (a:=⟨b,o,none⟩) (Go.Lib.bytesWorld_at_old w e _ b hb)
theorem text_any (hok:Ok c w) {k kb:Nat}{p:Nat}{lim:Int}{s:List UInt8×Int}(h:IsWr c k kb w p lim s) (hk0:k≠0) (hb0:kb≠0) (hkb:kb≠k) (hlim:lim≤1048576) (hl0:(s.1.length:Int)≤lim)
  (x:List UInt8) (hx:x.length≤100000000) :
  Calls prog 207 #[.pointer (some ⟨p,0,none⟩),.string ⟨x.toArray⟩] w fun r w'=>r=.returned (.int .i64 (putS lim s true (zay x.length++x)).2) ∧
   ∃c',IsWr c' k kb w' p lim (putS lim s true (zay x.length++x))∧Step (Two k kb) c w c' w'∧Ok c' w':=by
 obtain ⟨x1,x2,x3⟩:=conv_any hok x hx 5 0;have P:=bytes_any x3 (h.kn x2) hk0 hb0 hkb hlim hl0 x1 hx;have hr:=Go.Lib.run_convert_string_bytes (P:=prog) w 9 26 5 ⟨x.toArray⟩ underlying9 underlying26 underlying5;have hsz:(⟨x.toArray⟩:ByteArray).size=x.length:=by simp [ByteArray.size]
 rw [hsz] at hr;have S:=jh1 x2;clear x1 x2 x3 h hok hsz;go_enter func207,ntmps207;go_wp2_with fail;refine P.mono ?_;rintro e w2 ⟨rfl,c2,i2,s2,o2⟩;have P2:=jh3 i2 s2 o2;clear P i2 s2 o2;go_wp2;go_ret;obtain ⟨i2,s2,o2⟩:=P2.out;exact ⟨rfl,c2,i2,S.out.ofNo.trans s2,o2⟩
end
