/- ServerReplies, part 11: lemmas, each with its own conditions. -/
import Derived.Test.YtgcobbapaaihiaaGreatSz10
set_option linter.all false
set_option maxHeartbeats 12800000
set_option maxRecDepth 100000
open Go.Proofs.Tryz
namespace Go.Proofs.YtgcobbapaaihiaaGreat
open Go.RowKit
theorem zbm {P:Program}{t xT:TypeId}{fs:Array Field}(h:P.underlying t=some (.struct fs)) (v:Value) (w:World):(Instr.typeAssert (.iface t v) xT t true).run P w=.ok (.tuple #[v,.bool true]) w:=by
 simp [Instr.typeAssert,run_underlying h]
section
variable {c:Col}{w:World}
def mName (t:TypeInfo):String:=(t.methods.toList.map (·.name)).headD ""
theorem askMethod (n:Nat) (id h:Int) (W:World):(method (n+1) 205 (.agg #[.int .i64 id,.int .i64 h]) (mName Tryz.t205)).run prog W=.ok (241,.agg #[.int .i64 id,.int .i64 h]) W:=by kernel_rfl
theorem ofAsk_any (id h:Int) (w:World) :
  Calls prog 91 #[.iface 70 (.agg #[.int .i64 id,.int .i64 h])] w fun r w'=>r=.returned (.iface 205 (.agg #[.int .i64 id,.int .i64 h]))∧∃o,w'=w.alloc o:=by
 have hta:=fun W=>zbm (P:=prog) (xT:=20) underlying70 (.agg #[.int .i64 id,.int .i64 h]) W;go_enter func91,ntmps91;go_wp2;go_ret;exact ⟨rfl,_,rfl⟩
theorem bytesAsk_ok (hok:Ok c w) (id h:Int) (hid:idB id=true) (hh:zav h=true) (kx:Nat) :
  Calls prog 41 #[.iface 70 (.agg #[.int .i64 id,.int .i64 h])] w fun r w'=>∃v,r=.returned (.tuple #[v,.int .i64 0])∧∃c',Sl zag c' kx 0 w' v (encA id h)∧Step No c w c' w'∧Ok c' w':=by
 obtain ⟨k1,hk1,hk1c⟩:=hok.spare 0;obtain ⟨k2,hk2,hk2c⟩:=hok.spare k1;have k10:k1≠0:=by omega
 have k20:k2≠0:=by omega
 have k21:k2≠k1:=by omega
 have N:=zbn hok 65536 (by omega) (by omega) k1 k2;have HK:=jh4 hk1c hk2c hid hh;clear hok hk1c hk2c hid hh;go_enter func41,ntmps41;go_wp2_with fail;refine N.mono ?_;rintro e w1 ⟨rfl,c1,i1,s1,o1⟩;have O:=ofAsk_any id h w1;have X1:=jh3 i1 s1 o1;clear N i1 s1 o1;go_wp2_with fail;refine O.mono ?_;rintro e w2 ⟨rfl,o,rfl⟩;have A:=askWrite_ok (X1.out.2.2.alloc o) (X1.out.1.kn (Step.al o)) k10 k20 k21 id h HK.out.2.2.1 HK.out.2.2.2;have hm:=fun W=>askMethod 421 id h W;simp only [mName,Tryz.t205,List.map_cons,List.headD_cons] at hm;clear O;go_wp2_with fail;refine A.mono ?_;rintro e w3 ⟨rfl,c3,i3,s3,o3⟩;have D:=done_any o3 i3 rfl (by have:=zae 1;have:=zae id.toNat;have:=zae h.toNat;simp [encA];omega) kx;have X3:=jh1 ((X1.out.2.1.trans (Step.al o)).ofNo.trans s3);clear A i3 s3 o3 hm;go_wp2_with fail;refine D.mono ?_;rintro e w4 ⟨v,rfl,c4,sl4,s4,o4⟩;have X4:=jh3 sl4 (X3.out.trans s4.ofNo) o4;clear D sl4 s4 o4;go_wp2;go_ret2;obtain ⟨sl4,s4,o4⟩:=X4.out;exact ⟨v,rfl,c4,sl4,s4.own2 HK.out.1 HK.out.2.1,o4⟩
end
attribute [local go_sem] Oper.semAt_some
def errA (x:Int) (c:Col) (W:World) (ar:Array Value):Prop:=ar=#[.int .i64 x]
theorem errors_iter {c:Col}{w:World}{K:Nat→Prop}{B1 bx g k:Nat}{b:Blo}{vc vv:Value}(h1:At c w B1 0 [.slice (some ⟨g,0,none⟩) 3 3]) (hg:At c w g 0 (partsF bx)) (hx:At c w bx 0 (zau b vc vv)) (hb:b.At c k w vc vv) (hK:¬K k) (h0:¬K 0) :
  Iter prog 248 #[.pointer (some ⟨B1,0,none⟩)] K c w errA (partsE b):=by
 intro lb J Jx c0 W0 hst hok hJ hJx hY hJ0;have g1:=h1.keep hst h0;have y1:=g1.c0;refine callsIn_of_wp func248 rfl trivial ?_;simp only [ntmps248,List.size_toArray,List.length_cons,List.length_nil,Nat.reduceAdd,Nat.reduceSub,Array.replicate_succ,Array.replicate_zero,List.push_toArray,List.append_toArray,List.nil_append,List.cons_append]
 gi_wp2
 gi_loopw [7] (fun i wr=>∃(j:Nat) (cr:Col),j≤3∧i=.int .i64 j∧Step K c0 W0 cr wr∧Ok cr wr∧J ((partsE b).take j) cr wr) (fun i _=>3-(intOf i).toNat)
 case atStart=>exact ⟨0,c0,Nat.zero_le _,rfl,Step.refl,hok,by simpa using hJ0⟩
 case round=>
  obtain ⟨j,cr,hj,rfl,s1,o1,j1⟩:=hrel;have gr:=hg.keep (hst.trans s1) h0;have xr:=hx.keep (hst.trans s1) h0;have br:=hb.keep (hst.trans s1) hK
  rcases (by omega:j=0∨j=1∨j=2∨j=3) with rfl | rfl | rfl | rfl
  ·have C:=parts1_any o1 br xr
   have z:=gr.get (i:=0) rfl;have j1':J [] cr wr:=j1;have XX:=jh3 j1' s1 o1;clear j1 j1' s1 o1 gr xr br
   gi_wp2
   refine ⟨trivial,rfl,(callsIn_wide (n:=0)).2 (C.mono ?_)⟩;rintro e w2 ⟨rfl,c2,s2,o2⟩;have hpre:([]++[zaL b.h]) <+: partsE b:=⟨[zaJ b.vals,zaI b.cm],rfl⟩;have YA:=hY [] (zaL b.h) c2 w2 #[.int .i64 (zaL b.h)] hpre (hJ _ _ _ _ _ XX.out.1 s2 o2) o2 ((hst.trans XX.out.2.1).trans s2.ofNo) rfl;have X2:=jh1 ((XX.out.2.1).trans s2.ofNo);have HP:=jh1 hpre;obtain ⟨ev,hev⟩:=jE (zaL b.h);rw [hev] at YA ⊢;have HE:=jh1 hev;clear C s2 o2 XX hpre hev;obtain ⟨fn,tmps,assign,body,hy,hR⟩:=YA
   gi_wp2
   refine ⟨rfl,hR.mono ?_⟩;rintro e W3 ⟨c3,o3,s3,(⟨rfl,hJ3⟩ | ⟨rfl,hJx3⟩)⟩
   ·gi_wp2
    go_roundw
    case rel=>exact ⟨1,c3,by omega,by first | rfl | go_num,X2.out.trans s3,o3,by rw [←HE.out] at hJ3;exact hJ3⟩
    case measure=>simp [intOf]
   ·gi_wp2
    refine bodyPost_ret (results_none rfl _ _ _) rfl ?_;exact ⟨⟨_,rfl⟩,c3,o3,X2.out.trans s3,.inr ⟨_,HP.out,by rw [HE.out];exact hJx3⟩⟩
  ·have C:=parts2_any o1 br xr
   have z:=gr.get (i:=1) rfl;have j1':J [zaL b.h] cr wr:=j1;have XX:=jh3 j1' s1 o1;clear j1 j1' s1 o1 gr xr br
   gi_wp2
   refine ⟨trivial,rfl,(callsIn_wide (n:=0)).2 (C.mono ?_)⟩;rintro e w2 ⟨rfl,c2,s2,o2⟩;have hpre:([zaL b.h]++[zaJ b.vals]) <+: partsE b:=⟨[zaI b.cm],rfl⟩;have YA:=hY [zaL b.h] (zaJ b.vals) c2 w2 #[.int .i64 (zaJ b.vals)] hpre (hJ _ _ _ _ _ XX.out.1 s2 o2) o2 ((hst.trans XX.out.2.1).trans s2.ofNo) rfl;have X2:=jh1 ((XX.out.2.1).trans s2.ofNo);have HP:=jh1 hpre;obtain ⟨ev,hev⟩:=jE (zaJ b.vals);rw [hev] at YA ⊢;have HE:=jh1 hev;clear C s2 o2 XX hpre hev;obtain ⟨fn,tmps,assign,body,hy,hR⟩:=YA
   gi_wp2
   refine ⟨rfl,hR.mono ?_⟩;rintro e W3 ⟨c3,o3,s3,(⟨rfl,hJ3⟩ | ⟨rfl,hJx3⟩)⟩
   ·gi_wp2
    go_roundw
    case rel=>exact ⟨2,c3,by omega,by first | rfl | go_num,X2.out.trans s3,o3,by rw [←HE.out] at hJ3;exact hJ3⟩
    case measure=>simp [intOf]
   ·gi_wp2
    refine bodyPost_ret (results_none rfl _ _ _) rfl ?_;exact ⟨⟨_,rfl⟩,c3,o3,X2.out.trans s3,.inr ⟨_,HP.out,by rw [HE.out];exact hJx3⟩⟩
  ·have C:=parts3_any o1 br xr
   have z:=gr.get (i:=2) rfl;have j1':J [zaL b.h,zaJ b.vals] cr wr:=j1;have XX:=jh3 j1' s1 o1;clear j1 j1' s1 o1 gr xr br
   gi_wp2
   refine ⟨trivial,rfl,(callsIn_wide (n:=0)).2 (C.mono ?_)⟩;rintro e w2 ⟨rfl,c2,s2,o2⟩;have hpre:([zaL b.h,zaJ b.vals]++[zaI b.cm]) <+: partsE b:=⟨[],rfl⟩;have YA:=hY [zaL b.h,zaJ b.vals] (zaI b.cm) c2 w2 #[.int .i64 (zaI b.cm)] hpre (hJ _ _ _ _ _ XX.out.1 s2 o2) o2 ((hst.trans XX.out.2.1).trans s2.ofNo) rfl;have X2:=jh1 ((XX.out.2.1).trans s2.ofNo);have HP:=jh1 hpre;obtain ⟨ev,hev⟩:=jE (zaI b.cm);rw [hev] at YA ⊢;have HE:=jh1 hev;clear C s2 o2 XX hpre hev;obtain ⟨fn,tmps,assign,body,hy,hR⟩:=YA
   gi_wp2
   refine ⟨rfl,hR.mono ?_⟩;rintro e W3 ⟨c3,o3,s3,(⟨rfl,hJ3⟩ | ⟨rfl,hJx3⟩)⟩
   ·gi_wp2
    go_roundw
    case rel=>exact ⟨3,c3,by omega,by first | rfl | go_num,X2.out.trans s3,o3,by rw [←HE.out] at hJ3;exact hJ3⟩
    case measure=>simp [intOf]
   ·gi_wp2
    refine bodyPost_ret (results_none rfl _ _ _) rfl ?_;exact ⟨⟨_,rfl⟩,c3,o3,X2.out.trans s3,.inr ⟨_,HP.out,by rw [HE.out];exact hJx3⟩⟩
  ·have X2:=jh3 s1 o1 j1
   clear s1 o1 j1 gr xr br
   gi_wp2
   go_end0;exact ⟨⟨_,rfl⟩,cr,X2.out.2.1,X2.out.1,.inl X2.out.2.2⟩
end Go.Proofs.YtgcobbapaaihiaaGreat
namespace Go.Proofs.YtgcobbapaaihiaaGreat
open Go.RowKit Go.Shelf
attribute [local go_sem] Oper.semAt_some
theorem firstE_app:∀{l m:List Int},(∀e∈l,e=0)→firstE (l++m)=firstE m
 | [],_,_=>rfl
 | e::r,m,h=>by
  rw [List.cons_append,firstE,if_neg (by simp [h e (by simp)])];exact firstE_app fun x hx=>h x (by simp [hx])
section
variable {c:Col}{w:World}
theorem errors_any (hok:Ok c w) {v:Value}(hv:v.oneCell'=true) :
  Calls prog 245 #[v] w fun r w'=>∃B1,r=.returned (.func (.func 248) #[] #[.pointer (some ⟨B1,0,none⟩)])∧At c w' B1 0 [v]∧Step No c w c w'∧Ok c w':=by
 have a0:=At.new0 hok [v] 314;have o0:=hok.alloc (.cells [v].toArray 314);have s0:Step No c w c (w.alloc (.cells [v].toArray 314)):=Step.refl.alloc _;have X:=jh3 a0 s0 o0;have hmf:∀(fn:Fn) (first cap:Array Value) (w:World),(Instr.makeFunc fn first cap).run prog w=.ok (.func fn first cap) w:=fun _ _ _ _=>rfl;clear a0 o0 s0 hok
 cases v <;> simp [Value.oneCell'] at hv
 all_goals
  go_enter func245,ntmps245;go_wp2;go_ret;exact ⟨_,rfl,X.out⟩
theorem first_any (hok:Ok c w) {B1 bx g k:Nat}{b:Blo}{vc vv:Value}(h1:At c w B1 0 [.slice (some ⟨g,0,none⟩) 3 3]) (hg:At c w g 0 (partsF bx)) (hx:At c w bx 0 (zau b vc vv)) (hb:b.At c k w vc vv) :
  Calls prog 244 #[.func (.func 248) #[] #[.pointer (some ⟨B1,0,none⟩)]] w fun r w'=>r=.returned (.int .i64 (firstE (partsE b)))∧∃c',Step No c w c' w'∧Ok c' w':=by
 obtain ⟨kn,hkn,hknc⟩:=hok.spare k;obtain ⟨kl,hkl,hklc⟩:=hok.spare kn;obtain ⟨a1,o1,s1⟩:=zan hok [.int .i64 0] 34 kn;refine calls_of_wp_marks func244 rfl ?_;simp only [ntmps244,List.size_toArray,List.length_cons,List.length_nil,Nat.reduceAdd,Nat.reduceSub,Array.replicate_succ,Array.replicate_zero,List.push_toArray,List.append_toArray,List.nil_append,List.cons_append]
 have hkl0:∀b,(Col.put c w.heap.size kn) b≠kl:=by
  intro b;unfold Col.put;split
  ·omega
  ·exact hklc b
 obtain ⟨W,hW⟩:=jE (w.alloc (.cells #[.int .i64 0] 34));obtain ⟨rb,hrb⟩:=jE w.heap.size;obtain ⟨c1,hc1⟩:=jE (c.put w.heap.size kn);have a1':At c1 W rb kn [.int .i64 0]:=by rw [←hW,←hc1,←hrb];exact a1
 have o1':Ok c1 W:=by rw [←hW,←hc1];exact o1
 have s1':Step No c w c1 W:=by rw [←hW,←hc1];exact s1
 rw [hc1] at hkl0;have hI:=errors_iter (K:=And1 (One kn) kl) (h1.keep s1' jI) (hg.keep s1' jI) (hx.keep s1' jI) (hb.kn s1') (by rintro (h | h) <;> first | (have:k=kn:=h;omega) | omega) (by rintro (h | h) <;> first | (have:0=kn:=h;omega) | omega);have H:=jh4 a1' o1' s1' hI;clear a1 o1 s1 a1' o1' s1' hI h1 hg hx hb hc1;go_wp2_with fail
 (try rw [hW])
 (try rw [hrb])
 obtain ⟨a1,o1,s1,hI⟩:=H.out;clear hW hrb
 refine wp_range o1 rfl (enters_of func248 (by kernel_rfl) rfl) (K:=One kn) kl hkl0 (by omega) (by show ¬kl=kn;omega) hI ?_
  (fun pre c1 W1=>At c1 W1 rb kn [.int .i64 0]∧∀e∈pre,e=0) (fun j pre c1 W1=>j=.ret∧∃e:Int,At c1 W1 rb kn [.int .i64 e]∧firstE (partsE b)=e)
  (fun pre x a1 c1 W1=>At c1 W1 rb kn [.int .i64 0]∧(∀e∈pre,e=0)∧(pre++[x]) <+: partsE b ∧
   a1 = { tmps:=#[.func (.func 248) #[] #[.pointer (some ⟨B1,0,none⟩)],undef,.pointer (some ⟨rb,0,none⟩),.int .i64 x,.func (.func 248) #[] #[.pointer (some ⟨B1,0,none⟩)],.int .i64 x,undef,undef,undef],defers:=[] })
  ?_ ?_ ?_ ?_ ?assign ?body ?done ?stop
 ·rintro x c1 W1 _ rfl;rfl
 ·rintro pre c1 W1 c2 W2 ⟨h1,h2⟩ hs _
  exact ⟨h1.keep hs (by show ¬kn=kl;omega),h2⟩
 ·rintro j pre c1 W1 c2 W2 ⟨h0,e,h1,h2⟩ hs _
  exact ⟨h0,e,h1.keep hs (by show ¬kn=kl;omega),h2⟩
 ·rintro pre x a1 c1 W1 c2 W2 ⟨h1,h2,h3⟩ hs _
  exact ⟨h1.keep hs (by show ¬kn=kl;omega),h2,h3⟩
 ·exact ⟨a1,by simp⟩
 case assign=>
  rintro lp pre x c1 W1 _ hpre ⟨h1,h2⟩ ho hs rfl KK hK;simp only []
  gi_wp2
  exact hK _ _ _ ho Step.refl ⟨h1,h2,hpre,rfl⟩
 case body=>
  rintro lp pre x a1 c2 W2 ⟨h1,h2,hpre,rfl⟩ ho;have y0:=h1.c0;have yf:=h1.fz ho (by omega) 0;by_cases hx0:x=0
  ·have X:=jh2 h1 h2
   subst hx0
   gi_wp2
   exact ⟨c2,ho,Step.refl,X.out.1,fun e he=>by rcases List.mem_append.1 he with h | h;exact X.out.2 e h;simpa using h⟩
  ·have hxb:(x != 0)=true:=by rw [bne_iff_ne];exact hx0
   have X:=jh4 h1 h2 hpre hx0;clear hx0 h2 hpre
   gi_wp2
   obtain ⟨h1,h2,⟨suf,hsuf⟩,hx0⟩:=X.out;refine ⟨c2,ho.setCell _ _,Step.refl.setCell (.inr h1.col) _,by first | rfl | trivial,x,h1.set0,?_⟩;rw [←hsuf,List.append_assoc,firstE_app h2,List.cons_append,firstE,if_pos hx0]
 case done=>
  rintro D c' W' ⟨h1,h2⟩ ho hs hD hDs hDc;have yf:=h1.fz ho (by omega) 0;have y6:=h1.c0
  have hne:D≠rb:=by
   intro e;rw [e,h1.col] at hDc;omega
  have q1:Step (And1 (One kn) kl) c' W' c' (W'.setCell ⟨rb,0,none⟩ (.int .i64 0)):=Step.refl.setCell (.inr (.inl h1.col)) _;have q2:Step (And1 (One kn) kl) c' W' c' ((W'.setCell ⟨rb,0,none⟩ (.int .i64 0)).putObj D (.deferred none)):=q1.putObj (.inr (.inr hDc)) _
  have q3:At c' ((W'.setCell ⟨rb,0,none⟩ (.int .i64 0)).putObj D (.deferred none)) rb kn [.int .i64 0]:=
   h1.set0.keep ((Step.refl (K:=One kl)).putObj (.inr hDc) _) (by show ¬kn=kl;omega)
  have q4:Ok c' ((W'.setCell ⟨rb,0,none⟩ (.int .i64 0)).putObj D (.deferred none)):=(ho.setCell _ _).putObj _ (fun a ha=>frozen_def a ha);have q5:=q3.c0;have q6:(W'.setCell ⟨rb,0,none⟩ (.int .i64 0)).heap[D]? = some (.deferred (some [])):=(Below.heap_setCell _ _ _ _ hne).trans hD;have hf:firstE (partsE b)=0:=by have:=firstE_app (m:=[]) h2;rw [List.append_nil] at this;exact this
  go_wp2;refine leaveM q6 rfl (v:=.int .i64 0) (by simp [results,Tryz.results244,go_sem,q5]) ⟨by rw [hf],c',?_,q4⟩;refine ((s1.ofNo.trans hs).trans q2).drop fun b _ h=>?_
  rcases h with h | h
  ·exact hknc b h
  ·exact hklc b h
 case stop=>
  rintro D j pre c' W' hpre ⟨rfl,e,h1,h2⟩ ho hs hD hDs hDc;have q2:Step (And1 (One kn) kl) c' W' c' (W'.putObj D (.deferred none)):=Step.refl.putObj (.inr (.inr hDc)) _;have q3:At c' (W'.putObj D (.deferred none)) rb kn [.int .i64 e]:=h1.keep ((Step.refl (K:=One kl)).putObj (.inr hDc) _) (by show ¬kn=kl;omega);have q4:Ok c' (W'.putObj D (.deferred none)):=ho.putObj _ (fun a ha=>frozen_def a ha);have q5:=q3.c0;go_wp2;refine leaveM hD rfl (v:=.int .i64 e) (by simp [results,Tryz.results244,go_sem,q5]) ⟨by rw [h2],c',?_,q4⟩;refine ((s1.ofNo.trans hs).trans q2).drop fun b _ h=>?_
  rcases h with h | h
  ·exact hknc b h
  ·exact hklc b h
end
end Go.Proofs.YtgcobbapaaihiaaGreat
namespace Go.Proofs.YtgcobbapaaihiaaGreat
open Go.RowKit
theorem bytI:(prog.info? 26).map (·.size)=some 1:=by kernel_rfl
theorem index3 (a b d:Option Addr) (la ca lb cb ld cd:Nat) (W:World) :
  (Instr.index 316 (.agg #[.slice a la ca,.slice b lb cb,.slice d ld cd]) (.int .i64 0)).run prog W=.ok (.slice a la ca) W ∧
  (Instr.index 316 (.agg #[.slice a la ca,.slice b lb cb,.slice d ld cd]) (.int .i64 1)).run prog W=.ok (.slice b lb cb) W ∧
  (Instr.index 316 (.agg #[.slice a la ca,.slice b lb cb,.slice d ld cd]) (.int .i64 2)).run prog W=.ok (.slice d ld cd) W:=by
 have hs:(sizeOf 26).run prog W=.ok 1 W:=by
  cases hq:prog.info? 26 with
  | none=>have:=bytI;rw [hq] at this;cases this
  | some i=>
   have:i.size=1:=by have:=bytI;rw [hq] at this;simpa using this
   simp [sizeOf,typeInfo,hq,this]
 have hu:=run_underlying underlying316 W;have hu2:=run_underlying underlying26 W;refine ⟨?_,?_,?_⟩ <;> simp [Instr.index,asIntOf,hu,hu2,part,isAgg,hs,Value.cells]
def lpB (x:List UInt8):List UInt8:=zay x.length++x
def encB (b:Blo):List UInt8:=lpB (zbB b.h)++(lpB (encC b.cm)++lpB (encV b.vals))
def zbg (b:Blo):Int:=firstE (partsE b)
theorem checkB_ok {b:Blo}(h:zbg b=0):zaL b.h=0∧zaJ b.vals=0∧zaI b.cm=0:=by
 unfold zbg partsE at h;simp only [firstE] at h
 split at h
 ·next h1=>exact absurd h h1
 ·next h1=>
  split at h
  ·next h2=>exact absurd h h2
  ·next h2=>
   split at h
   ·next h3=>exact absurd h h3
   ·next h3=>exact ⟨Classical.byContradiction h1,Classical.byContradiction h2,Classical.byContradiction h3⟩
theorem encH_len {h:Hdr}(hw:h.Wf) (hc:zaL h=0):(zbB h).length≤190:=by
 have h0:=encH0_len hc;rw [←encH_eq];have h4:=flat_le (hashL h) 4;simp only [hashL,List.flatten_cons,List.flatten_nil,List.length_append,List.length_nil,hw.prev,hw.vals,hw.next,hw.app] at h4;simp only [hashL,List.length_append] at *;omega
theorem encC_len {x:Cmt}(hh:x.hash.length=32) (hc:zaI x=0):(encC x).length≤1200:=by
 have h0:=encC0_len hh;have h1:=cB_len x.votes;have:=(checkC_ok hc).2.2.1;rw [←encC_eq,List.length_append];omega
theorem encV_len {l:List Vld}(hl:∀x∈l,x.key.length=4) (hc:zaJ l=0):(encV l).length≤900:=by
 have h1:=vB_len hl;have:=(checkV_ok hc).2.1;have h2:=zae l.length;show (zay l.length++(l.map vB).flatten).length≤900;rw [List.length_append];omega
theorem encB_len {b:Blo}{c:Col}{k:Nat}{w:World}{vc vv:Value}(hb:b.At c k w vc vv) (hc:zbg b=0):(encB b).length≤2400:=by
 obtain ⟨h1,h2,h3⟩:=checkB_ok hc;have a:=encH_len hb.h h1;have d:=encC_len hb.hash h3;have e:=encV_len (fun x hx=>(hb.vals.val x hx).1) h2;have n1:=zae (zbB b.h).length;have n2:=zae (encC b.cm).length;have n3:=zae (encV b.vals).length;simp only [encB,lpB,List.length_append];omega
def partL (b:Blo):List (List UInt8):=[lpB (zbB b.h),lpB (encC b.cm),lpB (encV b.vals)]
theorem partL_all (b:Blo):((partL b).take 3).flatten=encB b:=by simp [partL,encB]
theorem partL_le (b:Blo) (i:Nat):((partL b).take i).flatten.length≤(encB b).length:=by
 have:=flat_le (partL b) i;rw [←partL_all];simpa [partL] using this
section
variable {c:Col}{w:World}
theorem encodeB_bad (hok:Ok c w) {b:Blo}{k:Nat}{vc vv:Value}(hb:b.At c k w vc vv) (hc:zbg b≠0) :
  Calls prog 243 #[.agg (zau b vc vv).toArray] w fun r w'=>r=.returned (.tuple #[.slice none 0 0,.int .i64 (zbg b)])∧∃c',Step No c w c' w'∧Ok c' w':=by
 have a0:=At.new0 hok (zau b vc vv) 59;have o0:=hok.alloc (.cells (zau b vc vv).toArray 59);have s0:Step No c w c (w.alloc (.cells (zau b vc vv).toArray 59)):=Step.refl.alloc _;have PT:=parts_any o0 (zau b vc vv);have hl:=zal hb.h hb.hash vc vv;obtain ⟨e0,he⟩:=jE (zbg b);obtain ⟨xb,hxb⟩:=jE w.heap.size;rw [hxb] at a0;obtain ⟨B,hB⟩:=jE (zau b vc vv);have hi:Hid ((prog.info? 59).map (·.size)=some B.length):=jh1 (by rw [zah,←hB,hl]);rw [he] at hc ⊢;rw [hB] at a0 o0 s0 PT ⊢;have hc2:(e0 != 0)=true:=by rw [bne_iff_ne];exact hc
 have X0:=jh5 a0.cells (hb.kn s0) s0 hB he;clear a0 o0 s0 hb hok hl hB he;go_enter func243,ntmps243;go_wp2_with (refine wpList_load_mid rfl 59 _ rfl xb 0 rfl B _ X0.out.1 underlying59 rfl hi.out ?_);refine PT.mono ?_;rintro e w1 ⟨bx,g,rfl,c1,a1,g1,s1,o1⟩;have ER:=errors_any o1 (v:=.slice (some ⟨g,0,none⟩) 3 3) rfl;have X1:=jh4 a1 g1 (X0.out.2.1.kn s1) (X0.out.2.2.1.trans s1);clear PT a1 g1 s1 o1;go_wp2_with fail;refine ER.mono ?_;rintro e w2 ⟨B1,rfl,a2,s2,o2⟩;have FX:=first_any o2 a2 (X1.out.2.1.keep s2 jI) (by rw [X0.out.2.2.2.1];exact X1.out.1.keep s2 jI) (X1.out.2.2.1.kn s2);rw [show firstE (partsE b)=e0 from X0.out.2.2.2.2] at FX;have X2:=jh1 (X1.out.2.2.2.trans s2);clear ER a2 s2 o2;go_wp2_with fail;refine FX.mono ?_;rintro e w3 ⟨rfl,c3,s3,o3⟩;have X3:=jh2 (X2.out.trans s3) o3;clear FX s3 o3;go_wp2;go_ret2;exact ⟨rfl,c3,X3.out⟩
theorem encodeB_ok (hok:Ok c w) {b:Blo}{k:Nat}{vc vv:Value}(hb:b.At c k w vc vv) (hc:zbg b=0) (ky:Nat) :
  Calls prog 243 #[.agg (zau b vc vv).toArray] w fun r w'=>∃v',r=.returned (.tuple #[v',.int .i64 0])∧∃c',Sl zag c' ky 0 w' v' (encB b)∧Step No c w c' w'∧Ok c' w':=by
 obtain ⟨q,hq,hqc⟩:=hok.top k;have hq0:q≠0:=by omega
 have n0:∀{x},x<q→¬Two q (q+1) x:=fun hx h=>by rcases h with h | h <;> omega
 have hlen:=encB_len hb hc;have hparts:=checkB_ok hc;have a0:=At.new0 hok (zau b vc vv) 59;have o0:=hok.alloc (.cells (zau b vc vv).toArray 59);have s0:Step No c w c (w.alloc (.cells (zau b vc vv).toArray 59)):=Step.refl.alloc _;have PT:=parts_any o0 (zau b vc vv);have hl:=zal hb.h hb.hash vc vv;obtain ⟨xb,hxb⟩:=jE w.heap.size;rw [hxb] at a0;have hhl:=zaj hb.h;have hcl:=zaS hb.hash vc;obtain ⟨hat1,hat2,hat3⟩:=zbl hb.h hb.hash a0.cells;obtain ⟨B,hB⟩:=jE (zau b vc vv);have hi:Hid ((prog.info? 59).map (·.size)=some B.length):=jh1 (by rw [zah,←hB,hl]);rw [hB] at a0 o0 s0 PT hat1 hat2 hat3 ⊢;obtain ⟨W0,hW0⟩:=jE (w.alloc (.cells B.toArray 59));rw [hW0] at a0 o0 s0 PT hat1 hat2 hat3;have X0:=jh5 a0 (hb.kn s0) s0 hB hc;have HP:=jh7 hparts hlen hhl hcl hat1 hat2 hat3;clear a0 o0 s0 hb hok hl hB hc hparts hlen hhl hcl hat1 hat2 hat3;go_enter func243,ntmps243;go_wp2_with (refine wpList_load_mid rfl 59 _ rfl xb 0 rfl B _ X0.out.1.cells underlying59 rfl hi.out ?_)
 (try rw [hW0])
 refine PT.mono ?_;rintro e w1 ⟨bx,g,rfl,c1,a1,g1,s1,o1⟩;have ER:=errors_any o1 (v:=.slice (some ⟨g,0,none⟩) 3 3) rfl;have X1:=jh4 a1 g1 (X0.out.2.1.kn s1) s1;clear PT a1 g1 s1 o1;go_wp2_with fail;refine ER.mono ?_;rintro e w2 ⟨B1,rfl,a2,s2,o2⟩;have FX:=first_any o2 a2 (X1.out.2.1.keep s2 jI) (by rw [X0.out.2.2.2.1];exact X1.out.1.keep s2 jI) (X1.out.2.2.1.kn s2);rw [show firstE (partsE b)=0 from X0.out.2.2.2.2] at FX;have X2:=jh1 (X1.out.2.2.2.trans s2);clear ER a2 s2 o2;go_wp2_with fail;refine FX.mono ?_;rintro e w3 ⟨rfl,c3,s3,o3⟩;have N:=zbn o3 65536 (by omega) (by omega) q (q+1);have X3:=jh1 (X2.out.trans s3);clear FX s3 o3 X1 X2;go_wp2_with fail;refine N.mono ?_;rintro e w4 ⟨rfl,c4,i4,s4,o4⟩;obtain ⟨p,hp⟩:=jE w3.heap.size;rw [hp] at i4 ⊢;have t4:=X3.out.trans s4;have EH:=encodeH_ok o4 b.h X0.out.2.1.h HP.out.1.1 0;have at4:=X0.out.1.keep t4 jI;have hH:zas w4 xb 0 (zaz b.h)∧(prog.info? 53).map (·.size)=some (zaz b.h).length:=⟨HP.out.2.2.2.2.1.kn t4 X0.out.1.lt,by rw [zat,HP.out.2.2.1]⟩;obtain ⟨BH,hBH⟩:=jE (zaz b.h);rw [hBH] at EH hH;have SH:=jh1 hH;have X4:=jh2 i4 t4;clear N i4 s4 o4 X3 hp at4 hH hBH t4;go_wp2_with (refine wpList_load_mid rfl 53 _ rfl xb 0 rfl BH _ SH.out.1 underlying53 rfl SH.out.2 ?_);refine EH.mono ?_;rintro e w5 ⟨v5,rfl,c5,p5,s5,o5⟩;obtain ⟨va5,vc5,rfl,_⟩:=p5.form;have t5:=X4.out.2.trans s5;have EC:=encodeC_ok o5 b.cm X0.out.2.1.hash (X0.out.2.1.votes.kn t5) HP.out.1.2.2 0;have hC:zas w5 xb 131 (cmC b.cm vc)∧(prog.info? 56).map (·.size)=some (cmC b.cm vc).length:=⟨by have:=HP.out.2.2.2.2.2.1.kn t5 X0.out.1.lt;rwa [Nat.zero_add] at this,by rw [zaw,HP.out.2.2.2.1]⟩;obtain ⟨BC,hBC⟩:=jE (cmC b.cm vc);rw [hBC] at EC hC;have SC:=jh1 hC;have X5:=jh3 (X4.out.1.kn s5) p5 t5;obtain ⟨lH,hlH⟩:=jE ((zbB b.h).length);have HlH:=jh1 hlH;rw [hlH];clear EH SH X4 p5 s5 o5 hC hBC t5 hlH;go_wp2_with (refine wpList_load_mid rfl 56 _ rfl xb 131 rfl BC _ SC.out.1 underlying56 rfl SC.out.2 ?_);refine EC.mono ?_;rintro e w6 ⟨v6,rfl,c6,p6,s6,o6⟩;obtain ⟨va6,vc6,rfl,_⟩:=p6.form;have t6:=X5.out.2.2.trans s6;have EV:=encodeV_ok o6 (X0.out.2.1.vals.kn t6) HP.out.1.2.1 0;have y6:w6.cell? ⟨xb,165,none⟩=some vv:=by have:=(t6.cell X0.out.1.lt jI).trans HP.out.2.2.2.2.2.2;rwa [Nat.zero_add] at this
 have X6:=jh4 (X5.out.1.kn s6) (X5.out.2.1.kn s6) p6 t6;obtain ⟨lC,hlC⟩:=jE ((encC b.cm).length);have HlC:=jh1 hlC;rw [hlC];clear EC SC X5 p6 s6 o6 t6 hlC;go_wp2_with fail;refine EV.mono ?_;rintro e w7 ⟨v7,rfl,c7,p7,s7,o7⟩;obtain ⟨va7,vc7,rfl,_⟩:=p7.form;have X7:=jh6 (X6.out.1.kn s7) (X6.out.2.1.kn s7) (X6.out.2.2.1.kn s7) p7 (X6.out.2.2.2.trans s7) o7;obtain ⟨lV,hlV⟩:=jE ((encV b.vals).length);have HlV:=jh1 hlV;rw [hlV];clear EV X6 p7 s7 o7 hlV y6;go_wp2_with fail
 have X8:RowKit.Hid (IsWr c7 q (q+1) w7 p 65536 ([],0)∧Sl zag c7 0 0 w7 (.slice va5 lH vc5) (zbB b.h)∧Sl zag c7 0 0 w7 (.slice va6 lC vc6) (encC b.cm)∧Sl zag c7 0 0 w7 (.slice va7 lV vc7) (encV b.vals)∧Step No c w c7 w7∧Ok c7 w7):=jh1 (by
  obtain ⟨a1,a2,a3,a4,a5,a6⟩:=X7.out;rw [HlH.out] at a2;rw [HlC.out] at a3;rw [HlV.out] at a4
  exact ⟨a1,a2,a3,a4,X0.out.2.2.1.trans a5,a6⟩)
 clear X7;go_loopw [48] (fun vi wr=>∃(i:Nat) (cr:Col),i≤3∧vi=.int .i64 i∧IsWr cr q (q+1) wr p 65536 (((partL b).take i).flatten,0)∧Sl zag cr 0 0 wr (.slice va5 lH vc5) (zbB b.h)∧Sl zag cr 0 0 wr (.slice va6 lC vc6) (encC b.cm)∧Sl zag cr 0 0 wr (.slice va7 lV vc7) (encV b.vals)∧Step (Two q (q+1)) c w cr wr∧Ok cr wr) (fun vi _=>3-(intOf vi).toNat)
 case atStart=>exact ⟨0,_,Nat.zero_le _,rfl,by simpa using X8.out.1,X8.out.2.1,X8.out.2.2.1,X8.out.2.2.2.1,X8.out.2.2.2.2.1.ofNo,X8.out.2.2.2.2.2⟩
 case round=>
  clear X8;obtain ⟨i,cr,hi3,rfl,iw,pH,pC,pV,st,ok⟩:=hrel
  rcases (by omega:i=0∨i=1∨i=2∨i=3) with rfl | rfl | rfl | rfl
  ·
   have hs:=HP.out.2.1;have hsum:(encB b).length=(lpB (zbB b.h)).length+((lpB (encC b.cm)).length+(lpB (encV b.vals)).length):=by simp only [encB,List.length_append]
   have hl1:(lpB (zbB b.h)).length=(zay (zbB b.h).length).length+(zbB b.h).length:=by simp only [lpB,List.length_append]
   have hfl:((partL b).take 0).flatten.length+(lpB (zbB b.h)).length≤2400:=by
    have e:((partL b).take 1).flatten=((partL b).take 0).flatten++lpB (zbB b.h):=by simp [partL]
    have h2:=partL_le b 1;rw [e,List.length_append] at h2;omega
   have BYy:=bytes_any ok iw hq0 (jz _) (by omega) (by omega) (by dsimp only;omega) pH (by omega);rw [zaB (by rw [List.length_append];omega)] at BYy;clear hs hsum hl1 hfl;have hix:=fun W=>(index3 va5 va6 va7 lH vc5 lC vc6 lV vc7 W).1;have XX:=jh4 pH pC pV st;clear iw pH pC pV st ok;go_wp2_with fail;refine BYy.mono ?_;rintro e w8 ⟨rfl,c8,i8,s8,o8⟩;obtain ⟨pH,pC,pV,st⟩:=XX.out;have X8:=jh6 i8 (pH.keep s8 (n0 (by omega)) (n0 (by omega))) (pC.keep s8 (n0 (by omega)) (n0 (by omega))) (pV.keep s8 (n0 (by omega)) (n0 (by omega))) (st.trans s8) o8;clear BYy i8 s8 o8 pH pC pV st XX;go_wp2;go_roundw
   case rel=>
    have e1:((partL b).take 1).flatten=((partL b).take 0).flatten++(zay (zbB b.h).length++zbB b.h):=by simp [partL,lpB]
    exact ⟨1,c8,by omega,by first | rfl | go_num,by rw [e1];exact X8.out.1,X8.out.2⟩
   case measure=>simp [intOf]
  ·
   have hs:=HP.out.2.1;have hsum:(encB b).length=(lpB (zbB b.h)).length+((lpB (encC b.cm)).length+(lpB (encV b.vals)).length):=by simp only [encB,List.length_append]
   have hl1:(lpB (encC b.cm)).length=(zay (encC b.cm).length).length+(encC b.cm).length:=by simp only [lpB,List.length_append]
   have hfl:((partL b).take 1).flatten.length+(lpB (encC b.cm)).length≤2400:=by
    have e:((partL b).take 2).flatten=((partL b).take 1).flatten++lpB (encC b.cm):=by simp [partL]
    have h2:=partL_le b 2;rw [e,List.length_append] at h2;omega
   have BYy:=bytes_any ok iw hq0 (jz _) (by omega) (by omega) (by dsimp only;omega) pC (by omega);rw [zaB (by rw [List.length_append];omega)] at BYy;clear hs hsum hl1 hfl;have hix:=fun W=>(index3 va5 va6 va7 lH vc5 lC vc6 lV vc7 W).2.1;have XX:=jh4 pH pC pV st;clear iw pH pC pV st ok;go_wp2_with fail;refine BYy.mono ?_;rintro e w8 ⟨rfl,c8,i8,s8,o8⟩;obtain ⟨pH,pC,pV,st⟩:=XX.out;have X8:=jh6 i8 (pH.keep s8 (n0 (by omega)) (n0 (by omega))) (pC.keep s8 (n0 (by omega)) (n0 (by omega))) (pV.keep s8 (n0 (by omega)) (n0 (by omega))) (st.trans s8) o8;clear BYy i8 s8 o8 pH pC pV st XX;go_wp2;go_roundw
   case rel=>
    have e1:((partL b).take 2).flatten=((partL b).take 1).flatten++(zay (encC b.cm).length++encC b.cm):=by simp [partL,lpB]
    exact ⟨2,c8,by omega,by first | rfl | go_num,by rw [e1];exact X8.out.1,X8.out.2⟩
   case measure=>simp [intOf]
  ·
   have hs:=HP.out.2.1;have hsum:(encB b).length=(lpB (zbB b.h)).length+((lpB (encC b.cm)).length+(lpB (encV b.vals)).length):=by simp only [encB,List.length_append]
   have hl1:(lpB (encV b.vals)).length=(zay (encV b.vals).length).length+(encV b.vals).length:=by simp only [lpB,List.length_append]
   have hfl:((partL b).take 2).flatten.length+(lpB (encV b.vals)).length≤2400:=by
    have e:((partL b).take 3).flatten=((partL b).take 2).flatten++lpB (encV b.vals):=by simp [partL]
    have h2:=partL_le b 3;rw [e,List.length_append] at h2;omega
   have BYy:=bytes_any ok iw hq0 (jz _) (by omega) (by omega) (by dsimp only;omega) pV (by omega);rw [zaB (by rw [List.length_append];omega)] at BYy;clear hs hsum hl1 hfl;have hix:=fun W=>(index3 va5 va6 va7 lH vc5 lC vc6 lV vc7 W).2.2;have XX:=jh4 pH pC pV st;clear iw pH pC pV st ok;go_wp2_with fail;refine BYy.mono ?_;rintro e w8 ⟨rfl,c8,i8,s8,o8⟩;obtain ⟨pH,pC,pV,st⟩:=XX.out;have X8:=jh6 i8 (pH.keep s8 (n0 (by omega)) (n0 (by omega))) (pC.keep s8 (n0 (by omega)) (n0 (by omega))) (pV.keep s8 (n0 (by omega)) (n0 (by omega))) (st.trans s8) o8;clear BYy i8 s8 o8 pH pC pV st XX;go_wp2;go_roundw
   case rel=>
    have e1:((partL b).take 3).flatten=((partL b).take 2).flatten++(zay (encV b.vals).length++encV b.vals):=by simp [partL,lpB]
    exact ⟨3,c8,by omega,by first | rfl | go_num,by rw [e1];exact X8.out.1,X8.out.2⟩
   case measure=>simp [intOf]
  ·rw [partL_all] at iw
   have D:=done_any ok iw rfl (by have:=HP.out.2.1;dsimp only;omega) ky;have X3:=jh1 (st.drop (K':=No) fun b _ e=>by have:=hqc b;rcases e with e | e <;> omega);clear iw pH pC pV st ok;go_wp2_with fail;refine D.mono ?_;rintro e1 w8 ⟨v',rfl,c8,p8,s8,o8⟩;have X8:=jh3 p8 (X3.out.trans s8) o8;clear D p8 s8 o8;go_wp2;go_ret2;exact ⟨v',rfl,c8,X8.out⟩
end
def ansC (id:Int) (B:List Value):List Value:=.int .i64 id::B
def encN (id:Int) (b:Blo):List UInt8:=zay 2++(zay id.toNat++lpB (encB b))
def ansE (id:Int) (b:Blo):Int:=if idB id=true then zbg b else 3
theorem ansE_ok {id:Int}{b:Blo}(h:ansE id b=0):idB id=true∧zbg b=0:=by
 unfold ansE at h;by_cases hi:idB id=true
 ·rw [if_pos hi] at h;exact ⟨hi,h⟩
 ·rw [if_neg hi] at h;cases h
theorem ansC_one {id:Int}{B:List Value}(h:∀v∈B,v.oneCell'=true):∀v∈ansC id B,v.oneCell'=true:=by
 intro v hv
 rcases List.mem_cons.1 hv with rfl | hv
 ·rfl
 ·exact h v hv
theorem ans_at {w:World}{bx:Nat}{id:Int}{B:List Value}(h:zas w bx 0 (ansC id B)):w.cell? ⟨bx,0,none⟩=some (.int .i64 id)∧zas w bx 1 B:=by
 have h0:zas w bx 0 ([.int .i64 id]++B):=h;exact ⟨h 0 _ rfl,(zam h0).2⟩
section
variable {c:Col}{w:World}
theorem ansWrite_any (hok:Ok c w) {kw kb p:Nat}(hi:IsWr c kw kb w p 65536 ([],0)) (hk0:kw≠0) (hb0:kb≠0) (hkb:kb≠kw) (id:Int) {b:Blo}{k:Nat}{vc vv:Value}(hb:b.At c k w vc vv) (hkw:¬Two kw kb k) :
  Calls prog 242 #[.agg (ansC id (zau b vc vv)).toArray,.pointer (some ⟨p,0,none⟩)] w fun r w'=>r=.returned (.int .i64 (ansE id b)) ∧
   ∃c',IsWr c' kw kb w' p 65536 (if ansE id b=0 then encN id b else [],0)∧Step (Two kw kb) c w c' w'∧Ok c' w':=by
 have a0:=At.new0 hok (ansC id (zau b vc vv)) 206;have o0:=hok.alloc (.cells (ansC id (zau b vc vv)).toArray 206);have s0:Step No c w c (w.alloc (.cells (ansC id (zau b vc vv)).toArray 206)):=Step.refl.alloc _;obtain ⟨xb,hxb⟩:=jE w.heap.size;rw [hxb] at a0;have hl:=zal hb.h hb.hash vc vv;obtain ⟨y0,yB⟩:=ans_at a0.cells;obtain ⟨X,hX⟩:=jE (ansC id (zau b vc vv));rw [hX] at a0 o0 s0 y0 yB ⊢;obtain ⟨W0,hW0⟩:=jE (w.alloc (.cells X.toArray 206));rw [hW0] at a0 o0 s0 y0 yB;have N1:=mnumber_any id W0;have n0:¬Two kw kb 0:=fun h=>by rcases h with h | h <;> omega
 by_cases hid:idB id=true
 ·rw [hid] at N1
  by_cases hc:zbg b=0
  ·have hE:ansE id b=0:=by unfold ansE;rw [if_pos hid,hc]
   rw [hE,if_pos rfl];have EB:=encodeB_ok o0 (hb.kn s0) hc 0;have hlen:=encB_len hb hc;simp only [idB,Bool.and_eq_true,decide_eq_true_eq] at hid;have e1:((id.toNat:Nat):Int)=id:=Int.toNat_of_nonneg (by omega);obtain ⟨B,hB⟩:=jE (zau b vc vv);rw [hB] at yB EB hl;have SL:=jh2 yB (show (prog.info? 59).map (·.size)=some B.length by rw [zah,hl]);have HL:=jh3 hlen hid e1;have X0:=jh3 (hi.kn s0) a0 s0;clear a0 o0 s0 hb hok hl hB hc hE hlen hid e1 yB hX hi;go_enter func242,ntmps242;go_wp2_with fail
   (try rw [hW0])
   refine N1.mono ?_;rintro e w1 ⟨rfl,rfl⟩;clear N1;go_wp2_with (refine wpList_load_mid rfl 59 _ rfl xb 1 rfl B _ SL.out.1 underlying59 rfl SL.out.2 ?_);refine EB.mono ?_;rintro e w2 ⟨v2,rfl,c2,p2,s2,o2⟩;obtain ⟨va,vd,rfl,_⟩:=p2.form;have NT:=num_any o2 (X0.out.1.kn s2) hk0 hb0 hkb (by omega) (by simp) 2 (by omega);rw [zaB (by have:=zae 2;simp;omega),List.nil_append] at NT;have z0:w2.cell? ⟨xb,0,none⟩=some (.int .i64 id):=(s2.cell X0.out.2.1.lt jI).trans y0;obtain ⟨lB,hlB⟩:=jE ((encB b).length);have HlB:=jh1 hlB;have X2:=jh3 p2 (X0.out.2.1.keep s2 jI) (X0.out.2.2.trans s2);rw [hlB];clear EB p2 s2 o2 hlB SL y0;go_wp2_with fail;refine NT.mono ?_;rintro e w3 ⟨rfl,c3,i3,s3,o3⟩;have NI:=num_any o3 i3 hk0 hb0 hkb (by omega) (by have:=zae 2;dsimp only;omega) id.toNat (by have:=HL.out.2.1;omega);rw [zaB (by have:=zae 2;have:=zae id.toNat;omega),HL.out.2.2] at NI;have z3:w3.cell? ⟨xb,0,none⟩=some (.int .i64 id):=(s3.cell X2.out.2.1.lt (by rw [X2.out.2.1.col];exact n0)).trans z0;have X3:=jh2 (X2.out.1.keep s3 n0 n0) (X2.out.2.2.ofNo.trans s3);clear NT i3 s3 o3 z0 X2;go_wp2_with fail;refine NI.mono ?_;rintro e w4 ⟨rfl,c4,i4,s4,o4⟩;have BY:=bytes_any o4 i4 hk0 hb0 hkb (by omega) (by have:=zae 2;have:=zae id.toNat;simp only [List.length_append];omega) (X3.out.1.keep s4 n0 n0) (by have:=HL.out.1;omega);rw [zaB (by have:=zae 2;have:=zae id.toNat;have:=HL.out.1;have:=zae (encB b).length;simp only [List.length_append];omega),HlB.out] at BY;have X4:=jh1 (X3.out.2.trans s4);clear NI i4 s4 o4 z3 X3;go_wp2_with fail;refine BY.mono ?_;rintro e w5 ⟨rfl,c5,i5,s5,o5⟩;have X5:=jh3 i5 (X4.out.trans s5) o5;clear BY i5 s5 o5;go_wp2;go_ret;obtain ⟨i5,s5,o5⟩:=X5.out;refine ⟨rfl,c5,?_,s5,o5⟩;rw [show encN id b=zay 2++zay id.toNat++(zay lB++encB b) by rw [encN,lpB,HlB.out];simp];exact i5
  ·have hE:ansE id b=zbg b:=by unfold ansE;rw [if_pos hid]
   rw [hE,if_neg hc];have EB:=encodeB_bad o0 (hb.kn s0) hc;obtain ⟨e0,he⟩:=jE (zbg b);rw [he] at EB hc ⊢;have hc2:(e0 != 0)=true:=by rw [bne_iff_ne];exact hc
   obtain ⟨B,hB⟩:=jE (zau b vc vv);rw [hB] at yB EB hl;have SL:=jh2 yB (show (prog.info? 59).map (·.size)=some B.length by rw [zah,hl]);have X0:=jh2 (hi.kn s0) s0;clear a0 o0 s0 hb hok hl hB hE yB hX hi he hc;go_enter func242,ntmps242;go_wp2_with fail
   (try rw [hW0])
   refine N1.mono ?_;rintro e w1 ⟨rfl,rfl⟩;clear N1;go_wp2_with (refine wpList_load_mid rfl 59 _ rfl xb 1 rfl B _ SL.out.1 underlying59 rfl SL.out.2 ?_);refine EB.mono ?_;rintro e w2 ⟨rfl,c2,s2,o2⟩;have X2:=jh3 (X0.out.1.kn s2) ((X0.out.2.trans s2).ofNo (K:=Two kw kb)) o2;clear EB s2 o2;go_wp2;go_ret;exact ⟨rfl,c2,X2.out⟩
 ·have hE:ansE id b=3:=by unfold ansE;rw [if_neg hid]
  rw [hE,if_neg (by decide)];have hid':idB id=false:=by simpa using hid
  rw [hid'] at N1;have X0:=jh3 (hi.kn s0) (s0.ofNo (K:=Two kw kb)) o0;clear a0 o0 s0 hb hok hl hE yB hX hi hid hid';go_enter func242,ntmps242;go_wp2_with fail
  (try rw [hW0])
  refine N1.mono ?_;rintro e w1 ⟨rfl,rfl⟩;clear N1;go_wp2;go_ret;exact ⟨rfl,c,X0.out⟩
end
section
variable {c:Col}{w:World}
theorem ask_ok (hok:Ok c w) (id h:Int) (hid:idB id=true) (hh:zav h=true) (kx:Nat) :
  Calls prog 40 #[.agg #[.int .i64 id,.int .i64 h]] w fun r w'=>∃v,r=.returned (.tuple #[v,.int .i64 0])∧∃c',Sl zag c' kx 0 w' v (encA id h)∧Step No c w c' w'∧Ok c' w':=by
 have s1:Step No c w c (w.alloc (.cells #[.int .i64 id,.int .i64 h] 70)):=Step.refl.alloc _;have B:=bytesAsk_ok (hok.alloc (.cells #[.int .i64 id,.int .i64 h] 70)) id h hid hh kx;have S:=jh1 s1;clear hok hid hh s1;go_enter func40,ntmps40;go_wp2_with fail;refine B.mono ?_;rintro e w1 ⟨v,rfl,c1,sl1,s1,o1⟩;have X:=jh3 sl1 (S.out.trans s1) o1;clear B sl1 s1 o1;go_wp2;go_ret2;exact ⟨v,rfl,c1,X.out⟩
end
