/- ServerReplies, part 22: lemmas, each with its own conditions. -/
import Derived.Test.YtgcobbapaaihiaaGreatSz21
import Derived.Great.BuildSlice
set_option linter.all false
set_option maxHeartbeats 12800000
set_option maxRecDepth 100000
open Go.Proofs.Tryz
namespace Go.Proofs.YtgcobbapaaihiaaGreat
open Go.RowKit
def NumOut (c:Col) (w:World) (k p:Nat) (bs:List UInt8) (a:Nat) (e f:Int) (r:Ending) (w':World):Prop:=
 ∃n:Nat,r=.returned (.int .i64 n)∧n≤9223372036854775807∧∃c' a' f',IsRd c' k w' p bs a' f'∧Step (One k) c w c' w'∧Ok c' w'∧((e=0∧numR bs a=some (n,a')∧f'=(0,f))∨(f'.1≠0∧n=0∧(e=0→numR bs a=none)))
section
variable {c:Col}{w:World}
theorem NumX_any (hok:Ok c w) {k p:Nat}{bs:List UInt8}{a:Nat}{e f:Int}(h:IsRd c k w p bs a (e,f)) (hk0:k≠0) :
  Calls prog 51 #[.pointer (some ⟨p,0,none⟩)] w (NumOut c w k p bs a e f):=by
 have R:Calls prog 96 #[.pointer (some ⟨p,0,none⟩),.func (.func 97) #[.pointer (some ⟨p,0,none⟩)] #[]] w (NumOut c w k p bs a e f):=by
  by_cases he:e=0
  ·subst he
   refine (readsI_any h hk0 (P:=fun v a' _ _=>∃n:Nat,n≤9223372036854775807∧numR bs a=some (n,a')∧v=.int .i64 n) (B:=numR bs a=none) ((rnumX_any hok h hk0 a).mono ?_) ?_).mono ?_
   ·rintro r w' ⟨c',a',i,s,o,(⟨n,hn,hN,rfl⟩ | ⟨hN,x⟩)⟩
    ·exact ⟨c',a',i,s,o,.inl ⟨_,rfl,n,hn,hN,rfl⟩⟩
    ·exact ⟨c',a',i,s,o,.inr ⟨hN,x⟩⟩
   ·rintro v a' c' w' ⟨n,_,_,rfl⟩;rfl
   ·rintro r w' ⟨v,rfl,c',a',f',i,s,o,(⟨rfl,n,hn,hN,rfl⟩ | ⟨hf,rfl,hN⟩)⟩
    ·exact ⟨n,rfl,hn,c',a',_,i,s,o,.inl ⟨rfl,hN,rfl⟩⟩
    ·exact ⟨0,rfl,by omega,c',a',f',i,s,o,.inr ⟨hf,rfl,fun _=>hN⟩⟩
  ·refine (readsI_idle hok h he _).mono ?_
   rintro r w' ⟨rfl,rfl⟩;exact ⟨0,rfl,by omega,c,a,_,h,Step.refl,hok,.inr ⟨he,rfl,fun h=>absurd h he⟩⟩
 have hmf:∀(fn:Fn) (first cap:Array Value) (w:World),(Instr.makeFunc fn first cap).run prog w=.ok (.func fn first cap) w:=fun _ _ _ _=>rfl;clear h hok;go_enter func51,ntmps51;go_wp2_with fail;refine R.mono ?_;rintro r w1 ⟨n,rfl,X⟩;have HX:=jh1 X;clear X R;go_wp2;go_ret;exact ⟨n,rfl,HX.out⟩
theorem WordX_any (hok:Ok c w) {k p:Nat}{bs:List UInt8}{a:Nat}{e f:Int}(h:IsRd c k w p bs a (e,f)) (hk0:k≠0) :
  Calls prog 142 #[.pointer (some ⟨p,0,none⟩)] w (ReadAny (fun v c w=>IsWord v 0 c w) c w k p bs):=by
 have s1:Step No c w c (w.alloc (.cells #[.pointer (some ⟨p,0,none⟩)] 112)):=Step.refl.alloc _;have a1:=At.new0 hok [.pointer (some ⟨p,0,none⟩)] 112;have o1:=hok.alloc (.cells #[.pointer (some ⟨p,0,none⟩)] 112)
 have R:Calls prog 171 #[.pointer (some ⟨p,0,none⟩),.func (.func 172) #[] #[.pointer (some ⟨w.heap.size,0,none⟩)]] (w.alloc (.cells #[.pointer (some ⟨p,0,none⟩)] 112)) (ReadAny (fun v c w=>IsWord v 0 c w) c w k p bs):=by
  by_cases he:e=0
  ·subst he
   refine (readsW_any (h.kn s1) hk0 _ (word1X_any o1 (h.kn s1) hk0 a1.c0 a) ?_).mono ?_
   ·rintro v a' c' w' ⟨n,_,rfl⟩;rfl
   ·rintro r w' ⟨v,rfl,c',a',f',i,s,o,(⟨_,n,hn,rfl⟩ | ⟨_,rfl,_⟩)⟩
    ·exact ⟨_,rfl,c',a',f',i,s1.ofNo.trans s,o,n,hn,rfl⟩
    ·exact ⟨_,rfl,c',a',f',i,s1.ofNo.trans s,o,0,by omega,rfl⟩
  ·refine (readsW_idle o1 (h.kn s1) he _).mono ?_
   rintro r w' ⟨rfl,rfl⟩;exact ⟨_,rfl,c,a,_,h.kn s1,s1.ofNo,o1,0,by omega,rfl⟩
 have hmf:∀(fn:Fn) (first cap:Array Value) (w:World),(Instr.makeFunc fn first cap).run prog w=.ok (.func fn first cap) w:=fun _ _ _ _=>rfl;have z1:=a1.c0;clear h hok s1 a1 o1;go_enter func142,ntmps142;go_wp2_with fail;refine R.mono ?_;rintro r w1 ⟨v,rfl,X⟩;have HX:=jh1 X;clear X R;go_wp2;go_ret;exact ⟨v,rfl,HX.out⟩
def IsBs (bs:List UInt8) (v:Value) (c:Col) (w:World):Prop:=∃l,l.length≤bs.length∧Sl zag c 0 0 w v l
theorem BytesX_any (hok:Ok c w) {k p:Nat}{bs:List UInt8}{a:Nat}{e f:Int}(h:IsRd c k w p bs a (e,f)) (hk0:k≠0) (most:Int) :
  Calls prog 57 #[.pointer (some ⟨p,0,none⟩),.int .i64 most] w (ReadAny (IsBs bs) c w k p bs):=by
 have s1:Step No c w c (w.alloc (.cells #[.pointer (some ⟨p,0,none⟩)] 112)):=Step.refl.alloc _;have a1:=At.new0 hok [.pointer (some ⟨p,0,none⟩)] 112;have o1:=hok.alloc (.cells #[.pointer (some ⟨p,0,none⟩)] 112);have s2:Step No c (w.alloc (.cells #[.pointer (some ⟨p,0,none⟩)] 112)) c ((w.alloc (.cells #[.pointer (some ⟨p,0,none⟩)] 112)).alloc (.cells #[.int .i64 most] 3)):=Step.refl.alloc _;have a2:=At.new0 o1 [.int .i64 most] 3;have a12:=a1.keep s2 jI;have o2:=o1.alloc (.cells #[.int .i64 most] 3);have i2:=(h.kn s1).kn s2;have s12:=s1.trans s2
 have R:Calls prog 99 #[.pointer (some ⟨p,0,none⟩),.func (.func 100) #[] #[.pointer (some ⟨w.heap.size,0,none⟩),.pointer (some ⟨w.heap.size+1,0,none⟩)]] ((w.alloc (.cells #[.pointer (some ⟨p,0,none⟩)] 112)).alloc (.cells #[.int .i64 most] 3)) (ReadAny (IsBs bs) c w k p bs):=by
  by_cases he:e=0
  ·subst he
   have B:=bytes1X_any o2 i2 hk0 most a12.c0 a2.c0 a12.col a2.col a12.lt a2.lt a;rw [World.size_alloc] at B;refine (readsB_any i2 hk0 _ _ B ?_).mono ?_
   ·rintro v a' c' w' ⟨l,_,hl⟩;exact sl_one hl
   ·rintro r w' ⟨v,rfl,c',a',f',i,s,o,(⟨_,l,hl,sl⟩ | ⟨_,rfl,_⟩)⟩
    ·exact ⟨_,rfl,c',a',f',i,s12.ofNo.trans s,o,l,hl,sl⟩
    ·exact ⟨_,rfl,c',a',f',i,s12.ofNo.trans s,o,[],by simp,Sl.nil _ _ _ _ _⟩
  ·refine (readsB_idle o2 i2 he _).mono ?_
   rintro r w' ⟨rfl,rfl⟩;exact ⟨_,rfl,c,a,_,i2,s12.ofNo,o2,[],by simp,Sl.nil _ _ _ _ _⟩
 have hmf:∀(fn:Fn) (first cap:Array Value) (w:World),(Instr.makeFunc fn first cap).run prog w=.ok (.func fn first cap) w:=fun _ _ _ _=>rfl;have z1:=a12.c0;clear h hok s1 a1 o1 s2 a2 a12 o2 i2 s12;go_enter func57,ntmps57;go_wp2_with fail;refine R.mono ?_;rintro r w1 ⟨v,rfl,X⟩;have HX:=jh1 X;clear X R;go_wp2;go_ret;exact ⟨v,rfl,HX.out⟩
def IsTx (bs:List UInt8) (v:Value) (_:Col) (_:World):Prop:=∃l:List UInt8,l.length≤bs.length∧v=.string ⟨l.toArray⟩
theorem TextX_any (hok:Ok c w) {k p:Nat}{bs:List UInt8}{a:Nat}{e f:Int}(h:IsRd c k w p bs a (e,f)) (hk0:k≠0) (most:Int) :
  Calls prog 138 #[.pointer (some ⟨p,0,none⟩),.int .i64 most] w (ReadAny (IsTx bs) c w k p bs):=by
 have R:=BytesX_any hok h hk0 most;clear h hok;go_enter func138,ntmps138;go_wp2_with fail;refine R.mono ?_;rintro r w1 ⟨v,rfl,c1,a1,f1,i1,s1,o1,l,hl,sl⟩;have hcv:=conv_sl (P:=prog) sl 26 9 5 underlying26 underlying5 underlying9;obtain ⟨va,vc,rfl,_⟩:=sl.form;have HX:=jh4 i1 s1 o1 hl;clear R i1 s1 o1 hl sl;go_wp2;go_ret;obtain ⟨i1,s1,o1,hl⟩:=HX.out;exact ⟨_,rfl,c1,a1,f1,i1,s1,o1,l,hl,rfl⟩
end
section
variable {c:Col}{w:World}
theorem HashX_any (hok:Ok c w) {k p:Nat}{bs:List UInt8}{a:Nat}{e f:Int}(h:IsRd c k w p bs a (e,f)) (hk0:k≠0) :
  Calls prog 140 #[.pointer (some ⟨p,0,none⟩)] w (ReadAny (fun v c w=>IsArr 32 v 0 c w) c w k p bs):=by
 have sp:Step No c w c (w.alloc (.cells #[.pointer (some ⟨p,0,none⟩)] 112)):=Step.refl.alloc _;have ap:=At.new0 hok [.pointer (some ⟨p,0,none⟩)] 112;have op:=hok.alloc (.cells #[.pointer (some ⟨p,0,none⟩)] 112);obtain ⟨q,hq,hqc⟩:=op.spare k;have hq0:q≠0:=by omega
 obtain ⟨a0,ok0,s00⟩:=zan op (bC (List.replicate 32 0)) 51 q;have h0:=(h.kn sp).kn s00;have ap0:=ap.keep s00 jI;rw [show (bC (List.replicate 32 0)).toArray=#[.int .u8 0,.int .u8 0,.int .u8 0,.int .u8 0,.int .u8 0,.int .u8 0,.int .u8 0,.int .u8 0,.int .u8 0,.int .u8 0,.int .u8 0,.int .u8 0,.int .u8 0,.int .u8 0,.int .u8 0,.int .u8 0,.int .u8 0,.int .u8 0,.int .u8 0,.int .u8 0,.int .u8 0,.int .u8 0,.int .u8 0,.int .u8 0,.int .u8 0,.int .u8 0,.int .u8 0,.int .u8 0,.int .u8 0,.int .u8 0,.int .u8 0,.int .u8 0] from rfl] at a0 ok0 s00 h0 ap0;obtain ⟨w0,hw0⟩:=jE ((w.alloc (.cells #[.pointer (some ⟨p,0,none⟩)] 112)).alloc (.cells #[.int .u8 0,.int .u8 0,.int .u8 0,.int .u8 0,.int .u8 0,.int .u8 0,.int .u8 0,.int .u8 0,.int .u8 0,.int .u8 0,.int .u8 0,.int .u8 0,.int .u8 0,.int .u8 0,.int .u8 0,.int .u8 0,.int .u8 0,.int .u8 0,.int .u8 0,.int .u8 0,.int .u8 0,.int .u8 0,.int .u8 0,.int .u8 0,.int .u8 0,.int .u8 0,.int .u8 0,.int .u8 0,.int .u8 0,.int .u8 0,.int .u8 0,.int .u8 0] 51));obtain ⟨c0,hc0⟩:=jE (c.put (w.alloc (.cells #[.pointer (some ⟨p,0,none⟩)] 112)).heap.size q);rw [hw0,hc0] at a0 ok0 s00 h0 ap0;rw [World.size_alloc] at a0;obtain ⟨b0,hbe⟩:=jE (w.heap.size+1);have hb0:w.heap.size≤b0:=by omega
 rw [hbe] at a0;have S00:=jh1 (sp.trans s00)
 have T:Calls prog 166 #[.pointer (some ⟨p,0,none⟩),.func (.func 167) #[] #[.pointer (some ⟨w.heap.size,0,none⟩)]] w0 (ReadAny (fun v c w=>IsArr 32 v 0 c w) c0 w0 k p bs):=by
  by_cases he:e=0
  ·subst he
   exact readsH_any ok0 h0 hk0 ap0.c0 ap0.lt
  ·refine (readsH_idle ok0 h0 he _).mono ?_
   rintro r w' ⟨hv,⟨v,rfl⟩,c',i,s,o⟩;exact ⟨v,rfl,c',a,_,i,s.ofNo,o,hv⟩
 have A0:=jh1 a0;have z1:=ap0.c0;have hmf:∀(fn:Fn) (first cap:Array Value) (w:World),(Instr.makeFunc fn first cap).run prog w=.ok (.func fn first cap) w:=fun _ _ _ _=>rfl;clear h hok sp ap op s00 a0 h0 ok0 hqc hc0 ap0;go_enter func140,ntmps140;go_wp2_with fail;refine T.mono ?_;rintro r w1 ⟨v,rfl,c1,a1',f1,i1,s1,o1,l,hl,rfl⟩;obtain ⟨B,hB⟩:=jE (bC l);rw [hB];have hB1:∀v∈B,v.oneCell'=true:=by rw [←hB];exact zaD _
 have hBl:B.length=32:=by rw [←hB,zaf,hl]
 have a1:=A0.out.keep s1 (show ¬q=k by omega);clear z1 T;have hi0:(prog.info? 51).map (·.size)=some B.length:=by rw [zai,hBl]
 have hi1:(prog.info? 51).map (·.size)=some B.toArray.size:=by rw [zai];simp [hBl]
 have ht0:=a1.there (o:=0) (n:=B.toArray.size) o1 hq0 (by simp [zaf,hBl]);obtain ⟨S0,a2⟩:=a1.st o1 hq0 (ty:=51) (us:=B) (by simp [zaf,hBl]) hi0 hB1;have s3:Step (One q) c1 w1 c1 (w1.setCells b0 0 B):=Step.setCells (.inr a1.col) _ _ _ Step.refl;have HX:=jh9 a2 ht0 hi1 (all_oneCell_toArray hB1) hi0 (i1.keep s3 (show ¬k=q by omega) (show ¬0=q by omega)) (Step.setCells (.inl hb0) B 0 _ (S00.out.ofNo.trans s1)) (Ok.setCells (b:=b0) B 0 _ o1) hB;clear a1 i1 s1 o1 hi0 hi1 ht0 S0 a2 s3 hB hB1 hBl;go_wp2_with (first | (refine wpList_store_mid rfl 51 _ _ rfl b0 0 B.toArray rfl rfl HX.out.2.1 HX.out.2.2.1 HX.out.2.2.2.1 ?_));obtain ⟨x1,_,_,_,x5,x6,x7,x8,x9⟩:=HX.out;refine bodyPost_ret (zad rfl _ _ b0 0 B _ rfl x1.cells underlying51 rfl x5) rfl ⟨_,rfl,c1,a1',f1,x6,x7,x8,l,hl,by rw [x9]⟩
theorem KeyX_any (hok:Ok c w) {k p:Nat}{bs:List UInt8}{a:Nat}{e f:Int}(h:IsRd c k w p bs a (e,f)) (hk0:k≠0) :
  Calls prog 144 #[.pointer (some ⟨p,0,none⟩)] w (ReadAny (fun v c w=>IsArr 4 v 0 c w) c w k p bs):=by
 have sp:Step No c w c (w.alloc (.cells #[.pointer (some ⟨p,0,none⟩)] 112)):=Step.refl.alloc _;have ap:=At.new0 hok [.pointer (some ⟨p,0,none⟩)] 112;have op:=hok.alloc (.cells #[.pointer (some ⟨p,0,none⟩)] 112);obtain ⟨q,hq,hqc⟩:=op.spare k;have hq0:q≠0:=by omega
 obtain ⟨a0,ok0,s00⟩:=zan op (bC (List.replicate 4 0)) 91 q;have h0:=(h.kn sp).kn s00;have ap0:=ap.keep s00 jI;rw [show (bC (List.replicate 4 0)).toArray=#[.int .u8 0,.int .u8 0,.int .u8 0,.int .u8 0] from rfl] at a0 ok0 s00 h0 ap0;obtain ⟨w0,hw0⟩:=jE ((w.alloc (.cells #[.pointer (some ⟨p,0,none⟩)] 112)).alloc (.cells #[.int .u8 0,.int .u8 0,.int .u8 0,.int .u8 0] 91));obtain ⟨c0,hc0⟩:=jE (c.put (w.alloc (.cells #[.pointer (some ⟨p,0,none⟩)] 112)).heap.size q);rw [hw0,hc0] at a0 ok0 s00 h0 ap0;rw [World.size_alloc] at a0;obtain ⟨b0,hbe⟩:=jE (w.heap.size+1);have hb0:w.heap.size≤b0:=by omega
 rw [hbe] at a0;have S00:=jh1 (sp.trans s00)
 have T:Calls prog 174 #[.pointer (some ⟨p,0,none⟩),.func (.func 175) #[] #[.pointer (some ⟨w.heap.size,0,none⟩)]] w0 (ReadAny (fun v c w=>IsArr 4 v 0 c w) c0 w0 k p bs):=by
  by_cases he:e=0
  ·subst he
   exact readsK_any ok0 h0 hk0 ap0.c0 ap0.lt
  ·refine (readsK_idle ok0 h0 he _).mono ?_
   rintro r w' ⟨hv,⟨v,rfl⟩,c',i,s,o⟩;exact ⟨v,rfl,c',a,_,i,s.ofNo,o,hv⟩
 have A0:=jh1 a0;have z1:=ap0.c0;have hmf:∀(fn:Fn) (first cap:Array Value) (w:World),(Instr.makeFunc fn first cap).run prog w=.ok (.func fn first cap) w:=fun _ _ _ _=>rfl;clear h hok sp ap op s00 a0 h0 ok0 hqc hc0 ap0;go_enter func144,ntmps144;go_wp2_with fail;refine T.mono ?_;rintro r w1 ⟨v,rfl,c1,a1',f1,i1,s1,o1,l,hl,rfl⟩;obtain ⟨B,hB⟩:=jE (bC l);rw [hB];have hB1:∀v∈B,v.oneCell'=true:=by rw [←hB];exact zaD _
 have hBl:B.length=4:=by rw [←hB,zaf,hl]
 have a1:=A0.out.keep s1 (show ¬q=k by omega);clear z1 T;have hi0:(prog.info? 91).map (·.size)=some B.length:=by rw [zaK,hBl]
 have hi1:(prog.info? 91).map (·.size)=some B.toArray.size:=by rw [zaK];simp [hBl]
 have ht0:=a1.there (o:=0) (n:=B.toArray.size) o1 hq0 (by simp [zaf,hBl]);obtain ⟨S0,a2⟩:=a1.st o1 hq0 (ty:=91) (us:=B) (by simp [zaf,hBl]) hi0 hB1;have s3:Step (One q) c1 w1 c1 (w1.setCells b0 0 B):=Step.setCells (.inr a1.col) _ _ _ Step.refl;have HX:=jh9 a2 ht0 hi1 (all_oneCell_toArray hB1) hi0 (i1.keep s3 (show ¬k=q by omega) (show ¬0=q by omega)) (Step.setCells (.inl hb0) B 0 _ (S00.out.ofNo.trans s1)) (Ok.setCells (b:=b0) B 0 _ o1) hB;clear a1 i1 s1 o1 hi0 hi1 ht0 S0 a2 s3 hB hB1 hBl;go_wp2_with (first | (refine wpList_store_mid rfl 91 _ _ rfl b0 0 B.toArray rfl rfl HX.out.2.1 HX.out.2.2.1 HX.out.2.2.2.1 ?_));obtain ⟨x1,_,_,_,x5,x6,x7,x8,x9⟩:=HX.out;refine bodyPost_ret (zad rfl _ _ b0 0 B _ rfl x1.cells underlying91 rfl x5) rfl ⟨_,rfl,c1,a1',f1,x6,x7,x8,l,hl,by rw [x9]⟩
end
theorem fill_one {L B:List Value}{n:Nat}(hL:L.length=n) (hB:B.length=n):Instr.fill (fun i=>some (i*n,n)) L.toArray [(0,.agg B.toArray)]=some B.toArray:=by
 subst hB;have e:=fill_at (place:=fun i=>some (i*B.length,B.length)) (L:=L) (B:=B) (i:=0) (off:=0) (v:=.agg B.toArray) (rest:=[]) (by simp) rfl (by omega);rw [e,Instr.fill,List.take_zero,List.nil_append,List.drop_eq_nil_of_le (by omega),List.append_nil]
section
variable {P:Program}
theorem run_bs1 {w:World}{t e:TypeId}{B:List Value}{n:Nat}(hu:P.underlying t=some (.slice e)) (hs:(P.info? e).map (·.size)=some n) (hz:((P.info? e).bind (·.zero)).isSome=true) (hB:B.length=n) (hp:0<n) (hsm:n≤1000) :
  (Instr.buildSlice t 1 #[(0,.agg B.toArray)]).run P w=.ok (.slice (some ⟨w.heap.size,0,none⟩) 1 1) (w.alloc (.cells B.toArray e)):=by
 cases hie:P.info? e with
 | none=>simp [hie] at hs
 | some ie=>
  simp only [hie,Option.map_some,Option.some.injEq,Option.bind_some] at hs hz;obtain ⟨z,hzz⟩:=Option.isSome_iff_exists.1 hz;refine run_buildSlice w t e 1 _ B.toArray ie z hu hie hzz (by rw [hs];omega) (by rw [hs];omega) ?_;rw [hs];have:=fill_one (L:=((List.range (1*n)).map (z.cells[· % z.cells.size]!))) (B:=B) (n:=n) (by simp) hB;rw [←this]
  congr 1
  apply Array.ext';rw [Array.toList_map,Array.toList_range]
theorem step_bs1 {ops:Array Oper}{o:Oper}{a:Act}{w:World}{K:Act→World→Prop}{Q:Exit→Act→World→Prop}{E:Prop}(hgd:o.guard=none) {dd:Option Tmp}(hdd:o.dst=dd) (t e:TypeId) (x:Operand) (ho:o.op=.buildSlice t 1 #[(0,x)])
  (hu:P.underlying t=some (.slice e)) {B:List Value} {n:Nat} (hs:(P.info? e).map (·.size)=some n) (hz:((P.info? e).bind (·.zero)).isSome=true) (hB:B.length=n) (hp:0<n) (hsm:n≤1000) (hx:a.eval x=.agg B.toArray)
  (h:K (a.put dd (.slice (some ⟨w.heap.size,0,none⟩) 1 1)) (w.alloc (.cells B.toArray e))):if Region.wanted o (yielded ops a.tmps)=true then Oper.wp P o a w K Q else E:=by
 subst hdd;rw [if_pos (by simp [Region.wanted,hgd])];have r:=run_bs1 (w:=w) hu hs hz hB hp hsm;unfold Oper.wp execOp;have e:(#[((0:Nat),x)].map fun (i,x)=>(i,a.eval x))=#[(0,.agg B.toArray)]:=by simp [hx]
 simp only [ho,e,Sem.run_bind,r,Result.andThen_ok];exact h
theorem wpList_bs1 {ops:Array Oper}{rest:List Oper}{o:Oper}{a:Act}{w:World}{Q:Exit→Act→World→Prop}(hgd:o.guard=none) (dd:Option Tmp) (hdd:o.dst=dd) (t e:TypeId) (x:Operand) (ho:o.op=.buildSlice t 1 #[(0,x)])
  (hu:P.underlying t=some (.slice e)) {B:List Value} {n:Nat} (hs:(P.info? e).map (·.size)=some n) (hz:((P.info? e).bind (·.zero)).isSome=true) (hB:B.length=n) (hp:0<n) (hsm:n≤1000) (hx:a.eval x=.agg B.toArray)
  (h:wpList P ops Q rest (a.put dd (.slice (some ⟨w.heap.size,0,none⟩) 1 1)) (w.alloc (.cells B.toArray e))):wpList P ops Q (o::rest) a w:=by
 refine wpList_plain hgd fun K hK=>?_;have:=step_bs1 (ops:=ops) (Q:=Q) (K:=K) (E:=False) hgd hdd t e x ho hu hs hz hB hp hsm hx (hK _ _ h);rw [if_pos (by simp [Region.wanted,hgd])] at this;exact this
end
section
variable {c:Col}{w:World}
theorem hashV_ok (hok:Ok c w) {kx kx2:Nat}{v:Value}{l:List Vld}(hv:Sl TVal c kx kx2 w v l) (hc:zaJ l=0) (h64:(encV l).length % 64≠0) (hlen:(encV l).length≤900000) :
  Calls prog 132 #[v] w fun r w'=>∃x:List UInt8,x.length=32∧r=.returned (.tuple #[.agg (bC x).toArray,.int .i64 0])∧∃c',Step No c w c' w'∧Ok c' w':=by
 obtain ⟨q,hq,hqc⟩:=hok.top 0;have hq0:q≠0:=by omega
 obtain ⟨W1,c1,hW1,a1,o1,s1⟩:=hnew hok q;obtain ⟨ob,hob⟩:=jE w.heap.size;rw [hob] at a1;have EN:=encodeV_ok o1 (hv.kn s1) hc 0;obtain ⟨va,vc,rfl,_⟩:=hv.form;have X1:=jh2 a1 s1;have HL:=jh2 h64 hlen;clear a1 o1 s1 hok hv hc h64 hlen;go_enter func132,ntmps132;go_wp2_with fail
 (try rw [hW1])
 (try rw [hob])
 refine EN.mono ?_;rintro e w2 ⟨v2,rfl,c2,p2,s2,o2⟩;have BS:=hsum_any o2 p2 (by have:=HL.out.2;omega) HL.out.1;obtain ⟨vb,vd,rfl,_⟩:=p2.form;have X2:=jh2 (X1.out.1.keep s2 jI) (X1.out.2.trans s2);obtain ⟨E,hE⟩:=jE (encV l);rw [hE] at BS ⊢;clear EN p2 s2 o2 hE;go_wp2_with fail;refine BS.mono ?_;rintro e w4 ⟨x,hx,rfl,c4,s4,o4⟩;obtain ⟨⟨t1,t2,t3⟩,⟨a7,i7⟩,s7,o7⟩:=hst o4 (X2.out.1.keep s4 jI) (by simp) hq0 hx
 have sall:Step No c w c4 (w4.setCells ob 0 (bC x)):=by
  have t2:=((X2.out.2.ofNo (K:=fun j=>q≤j)).trans s4.ofNo).trans (s7.mono (K':=fun j=>q≤j) fun j (e:j=q)=>by omega);exact t2.drop fun b _ e=>by have:=hqc b;omega
 obtain ⟨Y,hY⟩:=jE (bC x);rw [hY] at t1 t2 t3 a7 i7 sall o7;have X7:=jh9 t1 t2 t3 a7.cells i7 hY hx sall o7;rw [hY];clear t1 t2 t3 a7 i7 hY hx sall o7 s7 s4 o4 BS;go_wp2_with (refine wpList_store_mid rfl 51 _ _ rfl ob 0 Y.toArray rfl rfl X7.out.1 X7.out.2.1 X7.out.2.2.1 ?_);refine bodyPost_ret (results_cell_mid2 rfl _ _ ob 0 Y _ rfl X7.out.2.2.2.1 underlying51 rfl X7.out.2.2.2.2.1) rfl ⟨x,X7.out.2.2.2.2.2.2.1,by rw [X7.out.2.2.2.2.2.1];rfl,c4,X7.out.2.2.2.2.2.2.2⟩
end
theorem zero_hash32:∃Z,Z.length=32∧zaE prog 51 Z:=⟨zeroL 51,by kernel_rfl,by unfold zaE;kernel_rfl⟩
theorem Hdr.Wf.vals' {h:Hdr}(hw:h.Wf) {x:List UInt8}(hx:x.length=32):({ h with vals:=x }:Hdr).Wf:=⟨hw.name,hw.height,hw.time,hw.prev,hx,hw.next,hw.app⟩
section
variable {c:Col}{w:World}
theorem make_any (hok:Ok c w) (h:Hdr) (hw:h.Wf) (hch:zaL h=0) {kx:Nat}{v:Value}{l:List Vld}(hv:Sl TVal c kx 0 w v l) (hc:zaJ l=0) (h64:(encV l).length % 64≠0) (hlen:(encV l).length≤900000) (hl:l.length≤1000000000)
  (hh64:∀x:List UInt8,x.length=32→(1+(zbB { h with vals:=x }).length) % 64≠0∧(zbB { h with vals:=x }).length≤900000) :
  Calls prog 133 #[.agg (zaz h).toArray,v] w fun r w'=>∃(x y:List UInt8) (bv:Value),x.length=32∧y.length=32∧r=.returned (.tuple #[.agg (zau ⟨{ h with vals:=x },⟨h.height,y,[]⟩,l⟩ (.slice none 0 0) bv).toArray,.int .i64 0]) ∧
   ∃c',Blo.At ⟨{ h with vals:=x },⟨h.height,y,[]⟩,l⟩ c' 0 w' (.slice none 0 0) bv∧Step No c w c' w'∧Ok c' w':=by
 obtain ⟨q,hq,hqc⟩:=hok.top kx;have hq0:q≠0:=by omega
 obtain ⟨ah,oh,sh⟩:=zan hok (zaz h) 53 q;obtain ⟨ZB,hZB,zB⟩:=zaW;obtain ⟨ab,ob,sb⟩:=zan oh ZB 59 (q+1);rw [World.size_alloc] at ab ob sb;have HV:=hashV_ok ob ((hv.kn sh).kn sb) hc h64 hlen;obtain ⟨va,vn,rfl,_⟩:=hv.form;obtain ⟨hb,hhb⟩:=jE w.heap.size;rw [hhb] at ah oh sh ab ob sb HV;have hl0:=zaj hw;have X:=jh4 (ah.kn sb) ab (sh.trans sb) ((hv.kn sh).kn sb);have HH:=jh9 hw hch hl hh64 hqc zB hZB hc hl0;obtain ⟨B,hB⟩:=jE (zaz h);rw [hB] at HV X ⊢;have HB:=jh1 hB;clear hB;obtain ⟨W1,hW1⟩:=jE ((w.alloc (.cells B.toArray 53)).alloc (.cells ZB.toArray 59));rw [hW1] at HV;rw [hW1] at X;clear ah oh sh ab ob sb hv hok hw hch hc h64 hlen hl hh64 hqc zB hZB hl0;go_enter func133,ntmps133;go_wp2_with (refine zaa rfl (some 4) rfl 59 rfl HH.out.2.2.2.2.2.1 ?_)
 (try simp only [World.size_alloc])
 (try rw [hhb])
 (try rw [hW1])
 refine HV.mono ?_;rintro e w2 ⟨x,hx,rfl,c2,s2,o2⟩;obtain ⟨Z1,hZ1,z1⟩:=zero_hash32;have hYl:(bC x).length=32:=by rw [zaf,hx]
 obtain ⟨W3,c3,hW3,a3,o3,s3,t1,t2,t3,t4⟩:=stnew o2 hZ1 hYl (zaD x) zai (q:=q+2) (jz _);obtain ⟨xb,hxb⟩:=jE w2.heap.size;rw [hxb] at hW3 a3 t1;obtain ⟨hw,hch,hl,hh64,hqc,zB,hZB,hc,hl0⟩:=HH.out;have ah3:=(X.out.1.kn s2).kn s3;have eB:B=(.string ⟨h.name.toArray⟩::.int .i64 h.height::.int .i64 h.time::bC h.prev)++(bC h.vals++(bC h.next++bC h.app)):=by rw [←HB.out];simp [zaz]
 have eP:(.string ⟨h.name.toArray⟩::.int .i64 h.height::.int .i64 h.time::bC h.prev:List Value).length=35:=by simp [zaf,hw.prev]
 rw [eB] at ah3;obtain ⟨ah4,t5⟩:=ah3.seg o3 (by omega:q≠0) (us:=bC x) (by rw [hYl,zaf,hw.vals]);rw [eP] at ah4 t5;have eB':(.string ⟨h.name.toArray⟩::.int .i64 h.height::.int .i64 h.time::bC h.prev:List Value)++(bC x++(bC h.next++bC h.app))=zaz { h with vals:=x }:=by simp [zaz]
 rw [eB'] at ah4;have s4:Step (One q) c3 W3 c3 (W3.setCells hb 35 (bC x)):=Step.setCells (K:=One q) (.inr ah3.col) _ _ _ Step.refl;have o4:=Ok.setCells (b:=hb) (bC x) 35 _ o3;have ab4:=((X.out.2.1.kn s2).kn s3).keep s4 (show ¬q+1=q by omega);have sv4:=((X.out.2.2.2.kn s2).kn s3).keep s4 (show ¬kx=q by omega) (show ¬0=q by omega);have st4:Step (fun j=>q≤j) c w c3 (W3.setCells hb 35 (bC x)):=((((X.out.2.2.1.trans s2).trans s3).ofNo (K:=fun j=>q≤j)).trans (s4.mono fun j (e:j=q)=>by omega));obtain ⟨h64,hlen⟩:=hh64 x hx;have HS:=hashH_ok o4 { h with vals:=x } (hw.vals' hx) hch h64 hlen;have hl1:=zaj (hw.vals' hx);have hf0:(zaz { h with vals:=x })[1]? = some (.int .i64 h.height):=rfl;obtain ⟨Y,hY⟩:=jE (bC x);obtain ⟨B',hB'⟩:=jE (zaz { h with vals:=x });obtain ⟨W4,hW4⟩:=jE (W3.setCells hb 35 (bC x));rw [hW4] at ah4 ab4 sv4 st4 o4 HS;rw [hY] at hW3 a3 t1 t2 t3 t4 t5 hYl hW4 ⊢;rw [hB'] at ah4 HS hl1 hf0;have T:=jh11 z1 t1 t2 t3 a3.cells t4 (show W3.there hb 35 Y.toArray.size by simpa using t5) hW3 hW4 ah4.cells (show (prog.info? 53).map (·.size)=some B'.length by rw [zat,hl1]);have X4:=jh8 ah4 ab4 sv4 st4 hf0 hx hB' hl1;clear HV X s2 o2 hZ1 z1 hYl hW3 a3 o3 s3 t1 t2 t3 t4 t5 ah3 eB eP ah4 eB' s4 o4 ab4 sv4 st4 h64 hlen hl1 hf0 hY hB' hW4 hw hch hl hh64 hqc zB hZB hc hl0;go_wp2_with (first | (refine zaa rfl (some 6) rfl 51 rfl T.out.1 ?_;rw [hxb]) | (refine wpList_store_mid rfl 51 _ _ rfl xb 0 Y.toArray rfl rfl T.out.2.1 T.out.2.2.1 T.out.2.2.2.1 ?_;rw [T.out.2.2.2.2.2.2.2.1]) | (refine wpList_store_mid rfl 51 _ _ rfl hb 35 Y.toArray rfl rfl T.out.2.2.2.2.2.2.1 T.out.2.2.1 T.out.2.2.2.1 ?_;rw [T.out.2.2.2.2.2.2.2.2.1]) | (refine wpList_load_mid rfl 51 _ rfl xb 0 rfl Y _ T.out.2.2.2.2.1 underlying51 rfl T.out.2.2.2.2.2.1 ?_) | (refine wpList_load_mid rfl 53 _ rfl hb 0 rfl B' _ T.out.2.2.2.2.2.2.2.2.2.1 underlying53 rfl T.out.2.2.2.2.2.2.2.2.2.2 ?_));refine HS.mono ?_;rintro e w5 ⟨y,hy,rfl,c5,s5,o5⟩;obtain ⟨Z1,hZ1,z1⟩:=zero_hash32;have hYl:(bC y).length=32:=by rw [zaf,hy]
 obtain ⟨W6,c6,hW6,a6,o6,s6,t1,t2,t3,t4⟩:=stnew o5 hZ1 hYl (zaD y) zai (q:=q+3) (jz _);obtain ⟨yb,hyb⟩:=jE w5.heap.size;rw [hyb] at hW6 a6 t1;have ah6:=(X4.out.1.kn s5).kn s6;have ab6:=(X4.out.2.1.kn s5).kn s6;have sv6:=(X4.out.2.2.1.kn s5).kn s6;have st6:=(X4.out.2.2.2.1.trans s5.ofNo).trans s6.ofNo;have sd:Step No c6 W6 c6 W6.drew:=Step.rf.drewN 1;have od:Ok c6 W6.drew:=o6.drewN 1;have VC:=vclone_any od 0 (sv6.kn sd) HH.out.2.2.1;obtain ⟨Y2,hY2⟩:=jE (bC y);rw [hY2] at hW6 a6 t1 t2 t3 t4 hYl ⊢;have hld:(prog.info? 53).map (·.size)=some B'.length:=T.out.2.2.2.2.2.2.2.2.2.2
 have KN:∀{c2:Col} {w2:World},Step No c6 W6 c2 w2→(fun W:World=>(Instr.loadAt 53 (.pointer (some ⟨hb,0,none⟩))).run prog W=.ok (.agg B'.toArray) W∧W.cell? ⟨hb,1,none⟩=some (.int .i64 h.height)∧(Instr.loadAt 51 (.pointer (some ⟨yb,0,none⟩))).run prog W=.ok (.agg Y2.toArray) W) w2:=
  fun h2=>⟨(ah6.kn h2).ld (ty:=53) underlying53 rfl hld,(ah6.kn h2).get X4.out.2.2.2.2.1,(a6.kn h2).ld (ty:=51) underlying51 rfl t4⟩
 have KK:=KN sd;have hbc:=commit_built h.height hYl;have X6:=jh7 ab6 st6 sd hY2 hy X4.out.2.2.2.2.2 hYl;have T6:=jh5 z1 t1 t2 t3 hW6;clear HS X4 T s5 o5 hZ1 z1 a6 o6 s6 t1 t2 t3 t4 hW6 hYl ah6 ab6 sv6 st6 hY2 hy sd od;go_wp2_with (first | (refine zaa rfl (some 8) rfl 51 rfl T6.out.1 ?_;rw [hyb]) | (refine wpList_store_mid rfl 51 _ _ rfl yb 0 Y2.toArray rfl rfl T6.out.2.1 T6.out.2.2.1 T6.out.2.2.2.1 ?_;rw [T6.out.2.2.2.2]));refine zac (fun W=>(Instr.loadAt 53 (.pointer (some ⟨hb,0,none⟩))).run prog W=.ok (.agg B'.toArray) W∧W.cell? ⟨hb,1,none⟩=some (.int .i64 h.height)∧(Instr.loadAt 51 (.pointer (some ⟨yb,0,none⟩))).run prog W=.ok (.agg Y2.toArray) W) (fun i=>!([8,9]:List Nat).contains i) (by kernel_rfl) ?_;refine tk 0 _ 29 rfl rfl (Or.inl ⟨by rfl,fun W hW=>by obtain ⟨q0,q1,q2⟩:=hW;exact zaT 53 q0 (.tmp 2) rfl rfl⟩) KK ?_;refine tk3 1 _ 30 rfl rfl KK ?_;refine tk3 3 _ 32 rfl rfl KK ?_;refine tk3 4 _ 33 rfl rfl KK ?_;refine tk 5 _ 34 rfl rfl (Or.inl ⟨by rfl,fun W hW=>by obtain ⟨q0,q1,q2⟩:=hW;exact zaT 51 q2 (.tmp 8) rfl rfl⟩) KK ?_;refine tk 6 _ 35 rfl rfl (Or.inl ⟨by rfl,fun W hW=>by obtain ⟨q0,q1,q2⟩:=hW;exact zbq 56 hbc #[(0,.tmp 33),(1,.tmp 34)] rfl rfl⟩) KK ?_;refine zab.one (i:=2) (by kernel_rfl) rfl (fun KQ hK=>?_);go_simp;refine VC.mono ?_;rintro e w7 ⟨v7,c7,rfl,p7,s7,o7⟩;obtain ⟨xa,xn,rfl,_⟩:=p7.sl.form;have KK:=KN (X6.out.2.2.1.trans s7);have ab7:=(X6.out.1.kn X6.out.2.2.1).kn s7;obtain ⟨_,st6,sd,hY2,hy,⟨hx,hB',hl1⟩,hYl⟩:=X6.out;have hCl:(.int .i64 h.height::(Y2++[.slice none 0 0]):List Value).length=34:=by simp [hYl]
 have hbu:=block_built hl1 hCl (v:=.slice xa l.length xn) rfl rfl;have b7:Blo.At ⟨{ h with vals:=x },⟨h.height,y,[]⟩,l⟩ c7 0 w7 (.slice none 0 0) (.slice xa l.length xn):=⟨HH.out.1.vals' hx,hy,HH.out.1.height,Sl.nil _ _ _ _ _,p7.sl,by simp,HH.out.2.2.1⟩;have hU:B'++((.int .i64 h.height::(Y2++[.slice none 0 0]))++[.slice xa l.length xn])=zau ⟨{ h with vals:=x },⟨h.height,y,[]⟩,l⟩ (.slice none 0 0) (.slice xa l.length xn):=by rw [←hB',←hY2];rfl
 have hUl:=zal b7.h b7.hash (.slice none 0 0) (.slice xa l.length xn);have hU1:=zaF b7;rw [←hU] at hUl hU1;obtain ⟨U,hUU⟩:=jE (B'++((.int .i64 h.height::(Y2++[.slice none 0 0]))++[.slice xa l.length xn]));rw [hUU] at hbu hUl hU1 hU;have hq1:q+1≠0:=jz q;have hZB:=HH.out.2.2.2.2.2.2.1;have hi0:(prog.info? 59).map (·.size)=some U.length:=by rw [zah,hUl]
 have hi1:(prog.info? 59).map (·.size)=some U.toArray.size:=by rw [zah];simp [hUl]
 have ht0:=ab7.there (o:=0) (n:=U.toArray.size) o7 hq1 (by simp [hUl,hZB]);obtain ⟨_,a8⟩:=ab7.st o7 hq1 (ty:=59) (us:=U) (by rw [hUl,hZB]) hi0 hU1;have s8:Step (One (q+1)) c7 w7 c7 (w7.setCells (hb+1) 0 U):=Step.setCells (K:=One (q+1)) (.inr ab7.col) _ _ _ Step.refl;have b8:=b7.keep s8 (show ¬0=q+1 by omega);have o8:=Ok.setCells (b:=hb+1) U 0 _ o7;have hqc:=HH.out.2.2.2.2.1;have sAll:Step No c w c7 (w7.setCells (hb+1) 0 U):=((((st6.trans sd.ofNo).trans s7.ofNo).trans (s8.mono fun j (e:j=q+1)=>by omega))).drop fun b _ e=>by have:=hqc b;omega
 have FL:=jh11 ht0 hi1 (all_oneCell_toArray hU1) a8.cells hi0 b8 sAll o8 hU hx hy;clear p7 s7 o7 ab7 st6 sd hY2 hy hx hB' hl1 hYl hCl b7 hU hUl hU1 hUU hq1 hZB hi0 hi1 ht0 a8 s8 b8 o8 hqc sAll X6 VC KN;go_simp;refine hK.out _ _ (fun _=>KK) ?_;clear hK KQ
 (try simp only [jS])
 refine tk 7 _ 36 rfl rfl (Or.inl ⟨by rfl,fun W hW=>by obtain ⟨q0,q1,q2⟩:=hW;exact zbq 59 hbu #[(0,.tmp 29),(2,.tmp 31),(1,.tmp 35)] rfl rfl⟩) KK ?_;refine zab.one (i:=8) (by kernel_rfl) rfl (fun KQ hK=>?_);refine zar rfl 59 _ _ rfl (hb+1) 0 U.toArray rfl rfl FL.out.1 FL.out.2.1 FL.out.2.2.1 ?_;simp only [List.toList_toArray];refine hK.out _ _ (fun h=>absurd h (by decide)) ?_;clear hK KQ
 (try simp only [jS])
 refine zab.one (i:=9) (by kernel_rfl) rfl (fun KQ hK=>?_);go_simp;refine hK.out _ _ (fun h=>absurd h (by decide)) ?_;clear hK KQ
 (try simp only [jS])
 refine zab.done (by kernel_rfl) ?_ _;go_wp2_with fail;obtain ⟨_,_,_,f4,f5,f6,f7,f8,f9,f10,f11⟩:=FL.out;refine bodyPost_ret (zax rfl _ _ (hb+1) 0 U _ rfl f4 underlying59 rfl f5) rfl ⟨x,f10,y,f11,_,by rw [f9];rfl,c7,f6,f7,f8⟩
end
def zap:List UInt8:=List.replicate 32 0
def recC (vv:Value):List Value:=[.string ⟨#[97]⟩,.int .i64 3,.int .i64 10,.int .i64 10,vv,.slice none 0 0,.slice none 0 0,.int .i64 0,.int .u8 0]
def bdC (vv mp:Value) (H B:List Value) (sv:Value):List Value:=recC vv++(mp::(H++(B++[sv])))
def hdr0 (h:Int) (prev:List UInt8):Hdr:=⟨[97],h,10+(h-1)*10,prev,zap,zap,zap⟩
theorem header_fill (parts:List (Nat×Value)):prog.built 53 parts=Instr.fill ([(0,1),(1,1),(2,1),(3,32),(35,32),(67,32),(99,32)].toArray[·]?) (zeroL 53).toArray parts:=by kernel_rfl
theorem header_zl:(zeroL 53).length=131∧(zeroL 53).drop 35=bC zap++(bC zap++bC zap):=⟨by kernel_rfl,by kernel_rfl⟩
theorem header_built (h:Int) (prev:List UInt8) {t:Int}(ht:t=10+(h-1)*10) (hp:prev.length=32):prog.built 53 [(0,.string ⟨#[97]⟩),(1,.int .i64 h),(2,.int .i64 t),(3,.agg (bC prev).toArray)]=some (zaz (hdr0 h prev)).toArray:=by
 subst ht;rw [header_fill];obtain ⟨hz,hz2⟩:=header_zl;obtain ⟨Z,hZ⟩:=jE (zeroL 53);rw [hZ] at hz hz2 ⊢;have hpl:(bC prev).length=32:=by rw [zaf,hp]
 have e1:=zaP (place:=([(0,1),(1,1),(2,1),(3,32),(35,32),(67,32),(99,32)].toArray[·]?)) (Pf:=[]) (Z:=Z) (B:=[.string ⟨#[97]⟩]) (i:=0) (v:=.string ⟨#[97]⟩) (rest:=[(1,.int .i64 h),(2,.int .i64 (10+(h-1)*10)),(3,.agg (bC prev).toArray)]) rfl rfl (by simp [hz]);rw [List.nil_append] at e1;rw [e1];have e2:=zaP (place:=([(0,1),(1,1),(2,1),(3,32),(35,32),(67,32),(99,32)].toArray[·]?)) (Pf:=[]++[.string ⟨#[97]⟩]) (Z:=Z.drop 1) (B:=[.int .i64 h]) (i:=1) (v:=.int .i64 h) (rest:=[(2,.int .i64 (10+(h-1)*10)),(3,.agg (bC prev).toArray)]) rfl rfl (by simp [hz]);rw [List.length_singleton,e2];have e3:=zaP (place:=([(0,1),(1,1),(2,1),(3,32),(35,32),(67,32),(99,32)].toArray[·]?)) (Pf:=[]++[.string ⟨#[97]⟩]++[.int .i64 h]) (Z:=(Z.drop 1).drop 1) (B:=[.int .i64 (10+(h-1)*10)]) (i:=2) (v:=.int .i64 (10+(h-1)*10)) (rest:=[(3,.agg (bC prev).toArray)]) rfl rfl (by simp [hz]);rw [List.length_singleton,e3];have e4:=zaP (place:=([(0,1),(1,1),(2,1),(3,32),(35,32),(67,32),(99,32)].toArray[·]?)) (Pf:=[]++[.string ⟨#[97]⟩]++[.int .i64 h]++[.int .i64 (10+(h-1)*10)]) (Z:=((Z.drop 1).drop 1).drop 1) (B:=bC prev) (i:=3) (v:=.agg (bC prev).toArray) (rest:=[]) (by rw [hpl];rfl) rfl (by simp [hz,hpl]);rw [List.length_singleton,e4,Instr.fill,List.drop_drop,List.drop_drop,List.drop_drop,hpl,show (1+(1+(1+32)):Nat)=35 from rfl,hz2];simp [zaz,hdr0]
section
variable {c:Col}{w:World}
theorem at_built (hok:Ok c w) {bb kb:Nat}(hkb:kb≠0) {vv mp sv:Value}{H B:List Value}(hH:H.length=131) (hd:At c w bb kb (bdC vv mp H B sv)) (h:Int) (hh:1≤h∧h≤3) (prev:List UInt8) (hp:prev.length=32) :
  Calls prog 87 #[.pointer (some ⟨bb,0,none⟩),.int .i64 h,.agg (bC prev).toArray] w fun r w'=>r=.returned (.pointer (some ⟨bb,0,none⟩)) ∧
   ∃c',At c' w' bb kb (bdC vv mp (zaz (hdr0 h prev)) B sv)∧Step (One kb) c w c' w'∧Ok c' w':=by
 have hp2:(bC prev).length=32:=by rw [zaf,hp]
 have ap:=At.new0 hok (bC prev) 51;have op:=hok.alloc (.cells (bC prev).toArray 51);have sp:Step No c w c (w.alloc (.cells (bC prev).toArray 51)):=Step.refl.alloc _;obtain ⟨pb,hpb⟩:=jE w.heap.size;rw [hpb] at ap;obtain ⟨P,hP⟩:=jE (bC prev);have hbu:=fun t ht=>header_built h prev (t:=t) ht hp;rw [hP] at ap op sp hp2 hbu ⊢;obtain ⟨W0,hW0⟩:=jE (w.alloc (.cells P.toArray 51));rw [hW0] at ap op sp;have hd0:=hd.kn sp;have s1:Step No c W0 c W0.drew:=Step.rf.drewN 1;have o1:Ok c W0.drew:=op.drewN 1;have hd1:=hd0.kn s1
 have KK:(fun W:World=>W.cell? ⟨bb,0,none⟩=some (.string ⟨#[97]⟩)∧W.cell? ⟨bb,2,none⟩=some (.int .i64 10)∧W.cell? ⟨bb,3,none⟩=some (.int .i64 10)∧(Instr.loadAt 51 (.pointer (some ⟨pb,0,none⟩))).run prog W=.ok (.agg P.toArray) W) W0.drew:=
  ⟨hd1.get (i:=0) rfl,hd1.get (i:=2) rfl,hd1.get (i:=3) rfl,(ap.kn s1).ld (ty:=51) underlying51 rfl (by rw [zai,hp2])⟩
 have hw1:IntKind.i64.wrap (h-1)=h-1:=IntWalk.i64_in _ (by omega);have hw2:IntKind.i64.wrap ((h-1)*10)=(h-1)*10:=IntWalk.i64_in _ (by omega);have hw3:IntKind.i64.wrap (10+(h-1)*10)=10+(h-1)*10:=IntWalk.i64_in _ (by omega);have hbu:=hbu _ rfl;have hHl:(zaz (hdr0 h prev)).length=131:=by simp [zaz,hdr0,zaf,hp,zap]
 have hH1:=zaR (hdr0 h prev);obtain ⟨H',hH'⟩:=jE (zaz (hdr0 h prev));rw [hH'] at hbu hHl hH1 ⊢
 have hd1':At c W0.drew bb kb ((recC vv++[mp])++(H++(B++[sv]))):=by
  have e:bdC vv mp H B sv=(recC vv++[mp])++(H++(B++[sv])):=by simp [bdC]
  rw [←e];exact hd1
 obtain ⟨a2,t0⟩:=hd1'.seg o1 hkb (us:=H') (by omega);have e10:(recC vv++[mp]).length=10:=rfl;rw [e10] at a2 t0;have e2:(recC vv++[mp])++(H'++(B++[sv]))=bdC vv mp H' B sv:=by simp [bdC]
 rw [e2] at a2;have s2:Step (One kb) c W0.drew c (W0.drew.setCells bb 10 H'):=Step.setCells (K:=One kb) (.inr hd1.col) _ _ _ Step.refl;have o2:=Ok.setCells (b:=bb) H' 10 _ o1;have y7:(W0.drew.setCells bb 10 H').cell? ⟨bb,7,none⟩=some (.int .i64 0):=a2.get (i:=7) rfl;have FL:=jh6 (show W0.drew.there bb 10 H'.toArray.size by simpa using t0) (show (prog.info? 53).map (·.size)=some H'.toArray.size by rw [zat];simp [hHl]) (all_oneCell_toArray hH1) a2 (((sp.trans s1).ofNo (K:=One kb)).trans s2) o2;clear ap op sp hd hd0 s1 o1 hd1 hd1' a2 t0 s2 o2 hok hp hp2 hHl hH1 hP hH' hH e2 e10;go_enter func87,ntmps87;go_wp2_with fail
 (try rw [hW0])
 (try rw [hpb])
 refine zac (fun W=>W.cell? ⟨bb,0,none⟩=some (.string ⟨#[97]⟩)∧W.cell? ⟨bb,2,none⟩=some (.int .i64 10)∧W.cell? ⟨bb,3,none⟩=some (.int .i64 10)∧(Instr.loadAt 51 (.pointer (some ⟨pb,0,none⟩))).run prog W=.ok (.agg P.toArray) W) (fun i=>!([25]:List Nat).contains i) (by kernel_rfl) ?_;refine tk4 0 _ 7 rfl rfl KK ?_;refine tk4 1 _ 8 rfl rfl KK ?_;refine tk4 2 _ 9 rfl rfl KK ?_;refine tk4 3 _ 10 rfl rfl KK ?_;refine tk4 4 _ 11 rfl rfl KK ?_;refine tk4 5 _ 12 rfl rfl KK ?_;refine tk4 6 _ 13 rfl rfl KK ?_;refine tk4 7 _ 14 rfl rfl KK ?_;refine tk4 8 _ 15 rfl rfl KK ?_;refine tk4 9 _ 16 rfl rfl KK ?_;refine tk4 10 _ 17 rfl rfl KK ?_;refine tk4 11 _ 18 rfl rfl KK ?_;refine tk4 12 _ 19 rfl rfl KK ?_;refine tk4 13 _ 20 rfl rfl KK ?_;refine tk4 14 _ 21 rfl rfl KK ?_;refine tk4 15 _ 22 rfl rfl KK ?_;refine tk4 16 _ 23 rfl rfl KK ?_;refine tk4 17 _ 24 rfl rfl KK ?_;refine tk4 18 _ 25 rfl rfl KK ?_;refine tk4 19 _ 26 rfl rfl KK ?_;refine tk4 20 _ 27 rfl rfl KK ?_;refine tk 21 _ 28 rfl rfl (Or.inl ⟨by rfl,fun W hW=>by obtain ⟨q0,q1,q2,q3⟩:=hW;exact zaT 51 q3 (.tmp 5) rfl rfl⟩) KK ?_;refine tk 22 _ 29 rfl rfl (Or.inl ⟨by rfl,fun W hW=>by obtain ⟨q0,q1,q2,q3⟩:=hW;exact zbq 53 hbu #[(0,.tmp 12),(1,.tmp 13),(2,.tmp 27),(3,.tmp 28)] rfl rfl⟩) KK ?_;refine tk4 23 _ 30 rfl rfl KK ?_;refine tk4 24 _ 31 rfl rfl KK ?_;refine zab.one (i:=25) (by kernel_rfl) rfl (fun KQ hK=>?_);refine zar rfl 53 _ _ rfl bb 10 H'.toArray rfl rfl FL.out.1 FL.out.2.1 FL.out.2.2.1 ?_;simp only [List.toList_toArray];refine hK.out _ _ (fun h=>absurd h (by decide)) ?_;clear hK KQ
 (try simp only [jS])
 refine zab.done (by kernel_rfl) ?_ _;go_wp2;go_ret;exact ⟨rfl,c,FL.out.2.2.2.1,FL.out.2.2.2.2.1,FL.out.2.2.2.2.2⟩
end
