/- ServerReplies, part 45: lemmas, each with its own conditions. -/
import Derived.Test.YtgcobbapaaihiaaGreatSz44
import Derived.OpenShut
set_option linter.all false
set_option maxHeartbeats 12800000
set_option maxRecDepth 100000
open Go.Proofs.Tryz
namespace Go.Proofs.YtgcobbapaaihiaaGreat
open Go.RowKit
theorem zbu {P:Program}{ops:Array Oper}{rest:List Oper}{op:Oper}{a:Act}{w:World}{Q:Exit→Act→World→Prop}(hw:Region.wanted op (yielded ops a.tmps)=true) (ty:TypeId) (x:Operand) (ho:op.op=.load ty x)
  (b o:Nat) (hx:a.eval x=.pointer (some ⟨b,o,none⟩)) (cs:List Value) (d:TypeDesc) (hc:w.rangeAt b o cs)
  (hu:P.underlying ty=some d) (hd:d.isRow=true) (hi:(P.info? ty).map (·.size)=some cs.length)
  (h:wpList P ops Q rest (a.put op.dst (.agg cs.toArray)) w):wpList P ops Q (op::rest) a w:=
 wpList_step fun K hK=>by rw [if_pos hw];exact wp_load_mid ty x ho b o hx cs d hc hu hd hi (hK _ _ h)
theorem ld_keep {α:Type}{T:Ty α}{c:Col}{k k2:Nat}{w:World}{g off cap n:Nat}{l:List α}(h:Sl T c k k2 w (.slice (some ⟨g,off,none⟩) n cap) l) {ty:TypeId}{d:TypeDesc}(hu:prog.underlying ty=some d) (hd:d.isRow=true) (hi:(prog.info? ty).map (·.size)=some T.n) (h0:0<T.n) {j:Nat}{x:α}(hx:l[j]? = some x) :
  ∃vs,T.rd c k2 w vs x∧∀c' w',Step No c w c' w'→(Instr.loadAt ty (.pointer (some ⟨g,off+j*T.n,none⟩))).run prog w'=.ok (.agg vs.toArray) w':=by
 obtain ⟨vs,hr,hcs⟩:=h.at hx;have hl:=T.len hr;obtain ⟨u,hu0⟩:∃u,vs[0]? = some u:=⟨vs[0],by simp [hl,h0]⟩;have hb:g<w.heap.size:=World.block_lt_of_cell? w _ (hcs.get 0 hu0);exact ⟨vs,hr,fun c' w' s=>run_loadAt_mid w' g _ ty vs d (hcs.kn s hb) hu hd (by rw [hi,hl])⟩
theorem info_hash1:(prog.info? 51).map (·.size)=some 32:=by kernel_rfl
theorem sameCommit_any {c:Col}{w:World}(hok:Ok c w) {x:Cmt}(hh:x.hash.length=32) {k k2 k' k2':Nat}{vc vc':Value}(h:Sl TVot c k k2 w vc x.votes) (h':Sl TVot c k' k2' w vc' x.votes) :
  Calls prog 83 #[.agg (cmC x vc).toArray,.agg (cmC x vc').toArray] w fun r w'=>r=.returned (.bool true)∧Step No c w c w'∧Ok c w':=by
 obtain ⟨va,vn,rfl,_⟩:=h.form;obtain ⟨va',vn',rfl,_⟩:=h'.form;have a1:=At.new0 hok (cmC x (.slice va x.votes.length vn)) 56;have o1:=hok.alloc (.cells (cmC x (.slice va x.votes.length vn)).toArray 56);have s1:Step No c w c (w.alloc (.cells (cmC x (.slice va x.votes.length vn)).toArray 56)):=Step.refl.alloc _;have a2:=At.new0 o1 (cmC x (.slice va' x.votes.length vn')) 56;have o2:=o1.alloc (.cells (cmC x (.slice va' x.votes.length vn')).toArray 56);have s2:Step No c w c ((w.alloc (.cells (cmC x (.slice va x.votes.length vn)).toArray 56)).alloc (.cells (cmC x (.slice va' x.votes.length vn')).toArray 56)):=s1.alloc _;rw [World.size_alloc] at a2;have a1':=a1.keep (Step.refl.alloc (K:=No) (.cells (cmC x (.slice va' x.votes.length vn')).toArray 56)) jI;have hl:(bC x.hash).length=32:=by rw [zaf,hh]
 have y0:_:=a1'.get (i:=0) (u:=.int .i64 x.height) rfl;have z0:_:=a2.get (i:=0) (u:=.int .i64 x.height) rfl;have r1:=(zam (xs:=[.int .i64 x.height]) a1'.cells).2;have r2:=(zam (xs:=[.int .i64 x.height]) a2.cells).2;have y1:=(zam r1).2 0 _ rfl;have z1:=(zam r2).2 0 _ rfl;have hE:=fun W=>eqHash hh W;have SV:=sameVotes_any (h.kn s2) (h'.kn s2);obtain ⟨bx,hbx⟩:=jE w.heap.size;obtain ⟨H,hH⟩:=jE x.height;have RR:=jh5 (zam r1).1 (zam r2).1 s2 o2 (show (prog.info? 51).map (·.size)=some (bC x.hash).length by rw [info_hash1,hl]);simp only [hl,List.length_cons,List.length_nil,Nat.zero_add,Nat.add_zero,Nat.reduceAdd] at y1 z1;simp only [List.length_cons,List.length_nil,Nat.zero_add] at RR;obtain ⟨B1,hB1⟩:=jE (cmC x (.slice va x.votes.length vn));obtain ⟨B2,hB2⟩:=jE (cmC x (.slice va' x.votes.length vn'));obtain ⟨HH,hHH⟩:=jE (bC x.hash);rw [hHH] at RR hE;rw [hB1,hB2] at y0 z0 y1 z1 RR SV ⊢;rw [hbx] at y0 z0 y1 z1 RR;obtain ⟨W2,hW2⟩:=jE ((w.alloc (.cells B1.toArray 56)).alloc (.cells B2.toArray 56));rw [hW2] at y0 z0 y1 z1 RR SV;rw [hH] at y0 z0;clear a1 a2 a1' o1 o2 s1 s2 h h' hok r1 r2 hB1 hB2 hHH hH hl;go_enter func83,ntmps83;go_upto_region 1 with (fail)
 (try simp only [World.size_alloc])
 (try rw [hW2])
 (try rw [hbx])
 clear hW2;go_wp2_with (first | (refine zbu rfl 51 _ rfl bx 1 rfl HH _ RR.out.1 underlying51 rfl RR.out.2.2.2.2 ?_) | (refine zbu rfl 51 _ rfl (bx+1) 1 rfl HH _ RR.out.2.1 underlying51 rfl RR.out.2.2.2.2 ?_));refine SV.mono ?_;rintro e w3 ⟨rfl,n,rfl⟩;clear SV;go_wp2;go_ret;exact ⟨rfl,RR.out.2.2.1.drewN n,RR.out.2.2.2.1.drewN n⟩
theorem sameBlock_any {c:Col}{w:World}(hok:Ok c w) {b:Blo}{k k':Nat}{vc vc' vv vv':Value}(h:b.At c k w vc vv) (h':b.At c k' w vc' vv') :
  Calls prog 38 #[.agg (zau b vc vv).toArray,.agg (zau b vc' vv').toArray] w fun r w'=>r=.returned (.bool true)∧Step No c w c w'∧Ok c w':=by
 have a1:=At.new0 hok (zau b vc vv) 59;have o1:=hok.alloc (.cells (zau b vc vv).toArray 59);have s1:Step No c w c (w.alloc (.cells (zau b vc vv).toArray 59)):=Step.refl.alloc _;have a2:=At.new0 o1 (zau b vc' vv') 59;have o2:=o1.alloc (.cells (zau b vc' vv').toArray 59);have s2:Step No c w c ((w.alloc (.cells (zau b vc vv).toArray 59)).alloc (.cells (zau b vc' vv').toArray 59)):=s1.alloc _;rw [World.size_alloc] at a2;have a1':=a1.keep (Step.refl.alloc (K:=No) (.cells (zau b vc' vv').toArray 59)) jI;obtain ⟨p1,p2,p3⟩:=zbl h.h h.hash a1'.cells;obtain ⟨p1',p2',p3'⟩:=zbl h.h h.hash a2.cells;have hE:=fun W=>eqHdr h.h W;have SC:=sameCommit_any o2 h.hash (h.kn s2).votes (h'.kn s2).votes;have SVs:∀(w':World),Step No c ((w.alloc (.cells (zau b vc vv).toArray 59)).alloc (.cells (zau b vc' vv').toArray 59)) c w'→_:=fun w' s=>sameVals_any ((h.kn s2).kn s).vals ((h'.kn s2).kn s).vals;have e1:=zaj h.h;have e2:=zaS h.hash vc;have e2':=zaS h.hash vc';have RR:=jh10 p1 p1' p2 p2' s2 (show (prog.info? 53).map (·.size)=some (zaz b.h).length by rw [zat,e1]) (show (prog.info? 56).map (·.size)=some (cmC b.cm vc).length by rw [zaw,e2]) (show (prog.info? 56).map (·.size)=some (cmC b.cm vc').length by rw [zaw,e2']) (fun w' s=>(SVs w' s)) a1'.lt;obtain ⟨bx,hbx⟩:=jE w.heap.size;obtain ⟨va,vn,rfl,_⟩:=h.vals.form;obtain ⟨va',vn',rfl,_⟩:=h'.vals.form;simp only [Nat.zero_add] at p3 p3' RR;obtain ⟨B1,hB1⟩:=jE (zau b vc (.slice va b.vals.length vn));obtain ⟨B2,hB2⟩:=jE (zau b vc' (.slice va' b.vals.length vn'));obtain ⟨HH,hHH⟩:=jE (zaz b.h);obtain ⟨C1,hC1⟩:=jE (cmC b.cm vc);obtain ⟨C2,hC2⟩:=jE (cmC b.cm vc');rw [hHH] at RR hE;rw [hC1,hC2] at RR SC;rw [hB1,hB2] at p3 p3' RR SC ⊢;rw [hbx] at p3 p3' RR;obtain ⟨W2,hW2⟩:=jE ((w.alloc (.cells B1.toArray 59)).alloc (.cells B2.toArray 59));rw [hW2] at p3 p3' RR SC;clear a1 a2 a1' o1 o2 s1 s2 h h' hok hB1 hB2 hHH hC1 hC2 SVs p1 p2 p1' p2' e1 e2 e2';go_enter func38,ntmps38;go_upto_region 1 with (fail)
 (try simp only [World.size_alloc])
 (try rw [hW2])
 (try rw [hbx])
 clear hW2;go_wp2_with (first | (refine wpList_load_mid rfl 53 _ rfl bx 0 rfl HH _ RR.out.1 underlying53 rfl RR.out.2.2.2.2.2.1 ?_) | (refine wpList_load_mid rfl 53 _ rfl (bx+1) 0 rfl HH _ RR.out.2.1 underlying53 rfl RR.out.2.2.2.2.2.1 ?_) | (refine zbu rfl 56 _ rfl bx 131 rfl C1 _ RR.out.2.2.1 underlying56 rfl RR.out.2.2.2.2.2.2.1 ?_) | (refine zbu rfl 56 _ rfl (bx+1) 131 rfl C2 _ RR.out.2.2.2.1 underlying56 rfl RR.out.2.2.2.2.2.2.2.1 ?_));refine SC.mono ?_;rintro e w3 ⟨rfl,s3,o3⟩;have y3:=(s3.cell (World.block_lt_of_cell? W2 _ p3) jI).trans p3;have y3':=(s3.cell (World.block_lt_of_cell? W2 _ p3') jI).trans p3';have SV:=RR.out.2.2.2.2.2.2.2.2.1 w3 s3;have X:=jh2 (RR.out.2.2.2.2.1.trans s3) o3;clear SC s3 o3 p3 p3';go_wp2_with fail;refine SV.mono ?_;rintro e w4 ⟨rfl,n,rfl⟩;clear SV;go_wp2;go_ret;exact ⟨rfl,X.out.1.drewN n,X.out.2.drewN n⟩
theorem sameBlocks_any {c:Col}{w:World}(hok:Ok c w) {k k2 k' k2':Nat}{v v':Value}{l:List Blo}(h:Sl TBlo c k k2 w v l) (h':Sl TBlo c k' k2' w v' l) :
  Calls prog 21 #[v,v'] w fun r w'=>r=.returned (.bool true)∧Step No c w c w'∧Ok c w':=by
 have hm:=h.length_le;unfold maxLen at hm;obtain ⟨va,vn,rfl,_⟩:=h.form;obtain ⟨va',vn',rfl,_⟩:=h'.form;have H:=jh4 h h' (Step.rf (c:=c) (w:=w)) hok;clear h h' hok;go_enter func21,ntmps21;go_wp2;go_loopw [5,6] (fun s i wr=>∃j:Nat,j≤l.length∧i=.int .i64 j∧s=.bool true∧Step No c w c wr∧Ok c wr) (fun _ i _=>l.length-(intOf i).toNat)
 case atStart=>exact ⟨0,Nat.zero_le _,rfl,by simp,H.out.2.2⟩
 case round=>
  obtain ⟨j,hj,rfl,rfl,st,ok⟩:=hrel;by_cases hlt:j<l.length
  ·obtain ⟨x,hx⟩:∃x,l[j]? = some x:=⟨l[j],by simp [hlt]⟩
   obtain ⟨g,off,cap,e,hcap,hcm⟩:=H.out.1.some (by omega);injection e with e1 _ e2;subst e1 e2;obtain ⟨g',off',cap',e',hcap',hcm'⟩:=H.out.2.1.some (by omega);injection e' with e1' _ e2';subst e1' e2';obtain ⟨vs,⟨vc,vv,rfl,hb⟩,L⟩:=ld_keep (H.out.1.kn (st.drewN 1)) underlying59 rfl (by kernel_rfl) (by decide) hx;obtain ⟨vs',⟨vc',vv',rfl,hb'⟩,L'⟩:=ld_keep (H.out.2.1.kn (st.drewN 1)) underlying59 rfl (by kernel_rfl) (by decide) hx;have SB:=sameBlock_any (ok.drewN 1) hb hb';have X:=jh2 (st.drewN 1) (ok.drewN 1);obtain ⟨B,hB⟩:=jE ((zau x vc vv).toArray);obtain ⟨B',hB'⟩:=jE ((zau x vc' vv').toArray);rw [hB] at L SB;rw [hB'] at L' SB;simp only [TBlo] at L L';have KK:(fun W:World=>(Instr.loadAt 59 (.pointer (some ⟨g,off+j*166,none⟩))).run prog W=.ok (.agg B) W∧(Instr.loadAt 59 (.pointer (some ⟨g',off'+j*166,none⟩))).run prog W=.ok (.agg B') W) wr.drew:=⟨L _ _ Step.rf,L' _ _ Step.rf⟩;have LL:=jh2 L L';have hlt':(j:Int)<(l.length:Int):=by omega
   have hj0:(0:Int)≤(j:Int):=by omega
   clear L L' hx hB hB' hb hb' st ok;go_wp2_with fail;refine zac (fun W=>(Instr.loadAt 59 (.pointer (some ⟨g,off+j*166,none⟩))).run prog W=.ok (.agg B) W∧(Instr.loadAt 59 (.pointer (some ⟨g',off'+j*166,none⟩))).run prog W=.ok (.agg B') W) (fun _=>true) (by kernel_rfl) ?_;refine tk2 0 _ 21 rfl rfl KK ?_;refine tk2 1 _ 22 rfl rfl KK ?_;refine tk2 2 _ 23 rfl rfl KK ?_;refine tk 3 _ 24 rfl rfl (Or.inl ⟨by rfl,fun W hW=>by obtain ⟨q0,q1⟩:=hW;exact zaT 59 q0 (.tmp 23) rfl rfl⟩) KK ?_;refine tk2 4 _ 25 rfl rfl KK ?_;refine tk2 5 _ 26 rfl rfl KK ?_;refine tk2 6 _ 27 rfl rfl KK ?_;refine tk 7 _ 28 rfl rfl (Or.inl ⟨by rfl,fun W hW=>by obtain ⟨q0,q1⟩:=hW;exact zaT 59 q1 (.tmp 27) rfl rfl⟩) KK ?_;refine zab.one (i:=8) (by kernel_rfl) rfl (fun KQ hK=>?_);go_simp;refine SB.mono ?_;rintro e w3 ⟨rfl,s3,o3⟩;have X3:=jh2 (X.out.1.trans s3) o3;have KK:(fun W:World=>(Instr.loadAt 59 (.pointer (some ⟨g,off+j*166,none⟩))).run prog W=.ok (.agg B) W∧(Instr.loadAt 59 (.pointer (some ⟨g',off'+j*166,none⟩))).run prog W=.ok (.agg B') W) w3:=⟨LL.out.1 _ _ s3,LL.out.2 _ _ s3⟩;clear SB s3 o3;go_simp;refine hK.out _ _ (fun _=>KK) ?_;clear hK KQ
   (try simp only [jS])
   refine zab.one (i:=9) (by kernel_rfl) rfl (fun KQ hK=>?_);go_simp;refine hK.out _ _ (fun _=>KK) ?_;clear hK KQ
   (try simp only [jS])
   refine zab.done (by kernel_rfl) ?_ _;go_wp2;go_roundw
   case rel=>exact ⟨j+1,by omega,by go_num,by simp,X3.out⟩
   case measure=>simp [intOf];omega
  ·have X:=jh2 st ok
   clear st ok;go_wp2;go_ret;exact ⟨rfl,X.out⟩
theorem overBytes_any {c:Col}{w:World}(hok:Ok c w) {k:Nat}(hk0:k≠0) {v:Value}{n:Nat}(hv:BytesOf c k w v n) :
  Calls prog 19 #[v] w fun e w'=>e=.returned (.tuple #[])∧Step (One k) c w c w'∧Ok c w'∧zbo w w':=by
 obtain ⟨l,hl,hs⟩:=hv;have hm:=hs.length_le;unfold maxLen at hm;subst hl;have hv2:BytesOf c k w v l.length:=⟨l,rfl,hs⟩
 rcases hs with ⟨rfl,a0,cap0,rfl,_⟩ | ⟨b,off,cap,rfl,hlc,hcm,hgc,hgl,_⟩
 ·go_enter func19,ntmps19
  go_wp2;refine wp_loop_once ?_;go_wp2
  first | go_end0 | skip
  exact ⟨rfl,Step.refl,hok,zbo.refl _⟩
 ·obtain ⟨n,hn⟩:∃n,n=l.length:=⟨_,rfl⟩
  rw [←hn] at hv2 hm hlc ⊢;clear hn;go_enter func19,ntmps19;go_wp2;go_loopw [2] (fun i wr=>∃j:Nat,j≤n∧i=.int .i64 j∧Step (One k) c w c wr∧Ok c wr∧zbo w wr) (fun i _=>n-(intOf i).toNat)
  case atStart=>exact ⟨0,Nat.zero_le _,rfl,Step.refl,hok,zbo.refl _⟩
  case round=>
   obtain ⟨j,hj,rfl,h1,h2,h3⟩:=hrel;by_cases hlt:j<n
   ·obtain ⟨hb,hcb⟩:=hv2.cell hlt
    have hb':=h3 _ _ hb;have HB:=jh1 hb';obtain ⟨x,hx,x0,x1⟩:=hb';have hf:=h2.soft b (off+j) (by rw [hcb];exact hk0);clear hb;obtain ⟨y,hy⟩:=jE (bits BinOp.xor IntKind.u8 x 165)
    have hy0:0≤y∧y≤255:=by
     have hw:=wf_bits BinOp.xor IntKind.u8 x 165;rw [hy] at hw;have:IntKind.u8.min≤y∧y≤IntKind.u8.max:=by simpa [Lit.wf] using hw
     exact ⟨this.1,this.2⟩
    have HY:=jh1 hy0;clear hy0;go_wp2;refine ⟨⟨j+1,by omega,by go_num,?_,?_,?_⟩,by simp [intOf];omega⟩
    ·exact h1.setCell (a:=⟨b,off+j,none⟩) (.inr hcb) _
    ·exact h2.setCell _ _
    ·exact h3.trans (zbo.set HB.out HY.out.1 HY.out.2)
   ·go_wp2
    first | go_end0 | skip
    exact ⟨rfl,h1,h2,h3⟩
def four:List UInt8:=[201,202,203,204]
theorem put_four {c:Col}{w:World}(hok:Ok c w) (k2:Nat) (e:TypeId) :
  Sl zag c 0 k2 (w.alloc (.cells #[.int .u8 201,.int .u8 202,.int .u8 203,.int .u8 204] e)) (.slice (some ⟨w.heap.size,0,none⟩) 4 4) four:=by
 refine .inr ⟨w.heap.size,0,4,rfl,by decide,by simp [maxLen],hok.fresh _ (Nat.le_refl _),by simp,fun i x hx=>?_⟩;have hi:=(List.getElem?_eq_some_iff.1 hx).1;have hc:=cellsAt_new w [.int .u8 201,.int .u8 202,.int .u8 203,.int .u8 204] e (0,0);refine ⟨_,rfl,fun j u hu=>?_⟩;have hj:j=0:=by have:=(List.getElem?_eq_some_iff.1 hu).1;simp at this;omega
 subst hj;simp at hu;subst hu;simp only [four,List.length_cons,List.length_nil] at hi
 have:=hc i (.int .u8 x.toNat) (by
  rcases i with _ | _ | _ | _ | i
  ·simp [four] at hx;subst hx;rfl
  ·simp [four] at hx;subst hx;rfl
  ·simp [four] at hx;subst hx;rfl
  ·simp [four] at hx;subst hx;rfl
  ·omega)
 rw [show (0+i*zag.n+0)=0+i by show 0+i*1+0=0+i;omega];exact this
theorem Sl.front {α:Type}{T:Ty α}{c:Col}{k k2:Nat}{w:World}{b off n cap:Nat}{l m:List α}(h:Sl T c k k2 w (.slice (Option.some ⟨b,off,none⟩) n cap) (l++m)) (hm:m≠[]):Sl T c k k2 w (.slice (Option.some ⟨b,off,none⟩) l.length cap) l:=by
 rcases h with ⟨h,_⟩ | ⟨b',off',cap',hv,h1,h2,h3,h4,h5⟩
 ·simp at h;exact absurd h.2 hm
 ·cases hv
  refine .inr ⟨b,off,cap,rfl,by simp at h1;omega,h2,h3,h4,fun i x hx=>h5 i x ?_⟩;rw [List.getElem?_append_left (List.getElem?_eq_some_iff.1 hx).1];exact hx
theorem Sl.back {c:Col}{k k2:Nat}{w:World}{b off n cap:Nat}{l m:List UInt8}(h:Sl zag c k k2 w (.slice (Option.some ⟨b,off,none⟩) n cap) (l++m)) (hm:m≠[]):Sl zag c k k2 w (.slice (Option.some ⟨b,off+l.length,none⟩) m.length (cap-l.length)) m:=by
 rcases h with ⟨h,_⟩ | ⟨b',off',cap',hv,h1,h2,h3,h4,h5⟩
 ·simp at h;exact absurd h.2 hm
 ·cases hv
  refine .inr ⟨b,off+l.length,cap-l.length,rfl,by simp at h1;omega,by omega,h3,h4,fun i x hx=>?_⟩;have:=h5 (l.length+i) x (by rw [List.getElem?_append_right (by omega)];simpa using hx);obtain ⟨vs,a1,a2⟩:=this;refine ⟨vs,a1,?_⟩;rw [show off+l.length+i*zag.n=off+(l.length+i)*zag.n by show off+l.length+i*1=off+(l.length+i)*1;omega];exact a2
theorem lentBytes_any {c:Col}{w:World}(hok:Ok c w) {kx kx2:Nat}(k k2:Nat) {v:Value}{l:List UInt8}(hv:Sl zag c kx kx2 w v l) (hlen:l.length≤1000000000) :
  Calls prog 9 #[v] w fun e w'=>∃b off cap c',e=.returned (.slice (some ⟨b,off,none⟩) l.length cap)∧l.length+4≤cap∧cap≤maxLen ∧
   Sl zag c' k k2 w' (.slice (some ⟨b,off,none⟩) (l.length+4) cap) (l++four)∧Step No c w c' w'∧Ok c' w':=by
 have hx:=hv.any k2;obtain ⟨va,vc,rfl,hva⟩:=hv.form;clear hv hva;obtain ⟨q,hq,hqc⟩:=hok.spare k2;have hqk:k2≠q:=by omega
 have hq0:q≠0:=by omega
 obtain ⟨o1,o2,o3⟩:=Own.new0 zag 5 hok q k2;have hx':=hx.kn o3;have hml:([]:List UInt8).length+l.length≤maxLen:=by simp [maxLen];omega
 have hbl:(([]:List UInt8).length+l.length)*1≤140737488355328:=by simp;omega
 have hml2:Hid (([]++l:List UInt8).length+four.length≤maxLen):=by show _≤_;simp [maxLen,four];omega
 have hbl2:Hid ((([]++l:List UInt8).length+four.length)*1≤140737488355328):=by show _≤_;simp [four];omega
 have hpos:Hid (0<([]++l++four).length):=by show _<_;simp [four]
 clear hx;go_enter func9,ntmps9
 go_wp2_with (at_builtin;first
  | (refine zaq zag o2 rfl _ _ 26 rfl 5 underlying26 zbp rfl (by decide) rfl rfl o1 hx' hqk hml hbl ?_;intro v1 w1 c1 a1 a2 a3 _;obtain ⟨v1a,v1c,rfl,_⟩:=a1.sl.form)
  | (refine zaq zag (a3.alloc _) rfl _ _ 26 rfl 5 underlying26 zbp rfl (by decide) rfl rfl (a1.kn (Step.al _)) (put_four a3 k2 5) hqk hml2.out hbl2.out ?_;intro v2 w2 c2 b1 b2 b3 _;skip))
 obtain ⟨vb,vo,vcap,rfl,g1,g2⟩:=b1.sl.some hpos.out;have B1:=jh1 b1;have B2:=jh1 b2;have B3:=jh1 b3;have g1':l.length≤vcap:=by simp at g1;omega
 have g1'':l.length+4≤vcap:=by simpa [four] using g1
 clear b1 b2 b3 g1;have j0:(0:Int)≤(l.length:Int):=by omega
 have j1:(l.length:Int)≤(vcap:Int):=by omega
 go_simp;go_wp2;go_ret;exact ⟨vb,vo,vcap,c2.turn q k,rfl,g1'',g2,by simpa [four] using B1.out.sl.turn hqk,(((o3.ofNo.trans a2).trans ((Step.al _).ofNo.trans B2.out)).turn rfl).own hqc,B3.out.turn hq0⟩
theorem keptBytes_any {c:Col}{w:World}(hok:Ok c w) {kx kx2 k k2:Nat}{v:Value}{l:List UInt8}(hv:Sl zag c kx kx2 w v l) {b off cap:Nat}(hcap:l.length+4≤cap) (hcm:cap≤maxLen)
  (hl:Sl zag c k k2 w (.slice (some ⟨b,off,none⟩) (l.length+4) cap) (l++four)) :
  Calls prog 20 #[.slice (some ⟨b,off,none⟩) l.length cap,v] w fun e w'=>e=.returned (.bool true)∧Step No c w c w'∧Ok c w':=by
 unfold maxLen at hcm;obtain ⟨n4,hn4⟩:∃n4,n4=l.length+4:=⟨_,rfl⟩;have i7:four.length=n4-l.length:=by simp only [four,List.length_cons,List.length_nil];omega
 have x1:∀{c':Col} {W:World},Step No c w c' W→(convert 26 9 v).run prog W=.ok (.string ⟨l.toArray⟩) W:=fun s=>conv_sl (hv.kn s) 26 9 5 underlying26 underlying5 underlying9;have x2:∀{c':Col} {W:World},Step No c w c' W→(convert 26 9 (.slice (some ⟨b,off,none⟩) l.length cap)).run prog W=.ok (.string ⟨l.toArray⟩) W:=fun s=>conv_sl ((hl.front (by decide)).kn s) 26 9 5 underlying26 underlying5 underlying9;have x3:∀{c':Col} {W:World},Step No c w c' W→(convert 26 9 (.slice (some ⟨b,off+l.length,none⟩) (n4-l.length) (cap-l.length))).run prog W=.ok (.string ⟨four.toArray⟩) W:=fun s=>conv_sl (i7▸((hl.back (by decide)).kn s)) 26 9 5 underlying26 underlying5 underlying9;clear i7
 have x4:∀W:World,(convert 26 9 (.slice (some ⟨W.heap.size,0,none⟩) 4 4)).run prog (W.alloc (.cells #[.int .u8 201,.int .u8 202,.int .u8 203,.int .u8 204] 5))=.ok (.string ⟨four.toArray⟩) (W.alloc (.cells #[.int .u8 201,.int .u8 202,.int .u8 203,.int .u8 204] 5)):=fun W=>
  conv_sl (put_four (c:=fun _=>0) ⟨fun _ _=>rfl,fun _ _ h=>absurd rfl h⟩ 0 5) 26 9 5 underlying26 underlying5 underlying9
 obtain ⟨va,vc,rfl,hva⟩:=hv.form;have X:=jh4 hok (@x1) (@x2) (@x3);have i0:(0:Int)≤(l.length:Int):=by omega
 have i1:(0:Int)≤(cap:Int):=by omega
 have i2:(cap:Int)≤(cap:Int):=Int.le_refl _;have i3:(l.length:Int)≤(n4:Int):=by omega
 have i4:(n4:Int)≤(cap:Int):=by omega
 have i5:IntKind.i64.wrap ((l.length:Int)+4)=(n4:Int):=(IntWalk.i64_in _ (by omega)).trans (by omega);have i10:cap≠l.length:=by omega
 have i8:n4≤cap:=by omega
 have i9:l.length≤n4:=by omega
 have i6:decide ((n4:Int)≤(cap:Int))=true:=by simpa using i4
 clear hv hva hl hok x1 x2 x3 hn4 hcap hcm;go_enter func20,ntmps20;go_wp2_with fail;go_simp;go_wp2_with fail;have x5:(convert 26 9 (.slice (some ⟨w.heap.size,0,none⟩) 4 4)).run prog (w.alloc (.cells #[.int .u8 201,.int .u8 202,.int .u8 203,.int .u8 204] 5)).drew=.ok (.string ⟨four.toArray⟩) (w.alloc (.cells #[.int .u8 201,.int .u8 202,.int .u8 203,.int .u8 204] 5)).drew:=x4 w.drew;have K0:∀W,Step No c w c W→(fun W=>(convert 26 9 (.slice va l.length vc)).run prog W=.ok (.string ⟨l.toArray⟩) W∧(convert 26 9 (.slice (some ⟨b,off,none⟩) l.length cap)).run prog W=.ok (.string ⟨l.toArray⟩) W∧(convert 26 9 (.slice (some ⟨b,off+l.length,none⟩) (n4-l.length) (cap-l.length))).run prog W=.ok (.string ⟨four.toArray⟩) W) W:=fun W s=>⟨X.out.2.1 s,X.out.2.2.1 s,X.out.2.2.2 s⟩;have K1:=K0 w.drew Step.rf.drew;have K2:=K0 (w.drew.alloc (.cells #[.int .u8 201,.int .u8 202,.int .u8 203,.int .u8 204] 5)) (Step.rf.drew.alloc _);have OK:=jh2 ((Step.rf (c:=c) (w:=w)).drew.alloc (.cells #[.int .u8 201,.int .u8 202,.int .u8 203,.int .u8 204] 5)) (X.out.1.drew.alloc (.cells #[.int .u8 201,.int .u8 202,.int .u8 203,.int .u8 204] 5));clear K0 X x4;refine zac (fun W=>(convert 26 9 (.slice va l.length vc)).run prog W=.ok (.string ⟨l.toArray⟩) W∧(convert 26 9 (.slice (some ⟨b,off,none⟩) l.length cap)).run prog W=.ok (.string ⟨l.toArray⟩) W∧(convert 26 9 (.slice (some ⟨b,off+l.length,none⟩) (n4-l.length) (cap-l.length))).run prog W=.ok (.string ⟨four.toArray⟩) W) (fun _=>true) (by kernel_rfl) ?_;refine tk3 0 _ 10 rfl rfl K1 ?_;refine tk3 1 _ 11 rfl rfl K1 ?_;refine tk3 2 _ 12 rfl rfl K1 ?_;refine tk3 3 _ 13 rfl rfl K1 ?_;refine tk3 4 _ 14 rfl rfl K1 ?_;refine tk3 5 _ 15 rfl rfl K1 ?_;refine tk3 6 _ 16 rfl rfl K1 ?_;refine tk3 7 _ 17 rfl rfl K1 ?_;refine tk3 8 _ 18 rfl rfl K1 ?_;refine tk3 9 _ 19 rfl rfl K1 ?_;refine tk3 10 _ 20 rfl rfl K1 ?_;refine tk3 11 _ 21 rfl rfl K1 ?_;refine tk3 12 _ 22 rfl rfl K1 ?_;refine tk3 13 _ 23 rfl rfl K1 ?_;refine tk3 14 _ 24 rfl rfl K1 ?_;refine tk3 15 _ 25 rfl rfl K1 ?_;refine tk3 16 _ 26 rfl rfl K1 ?_;refine tk3 17 _ 27 rfl rfl K1 ?_;refine tk3 18 _ 28 rfl rfl K1 ?_;refine tk3 19 _ 29 rfl rfl K1 ?_;refine tk3 20 _ 30 rfl rfl K1 ?_;refine tk3 21 _ 31 rfl rfl K1 ?_;refine tk3 22 _ 32 rfl rfl K1 ?_;refine tk3 23 _ 33 rfl rfl K1 ?_;refine tk3 24 _ 34 rfl rfl K1 ?_;refine tk3 25 _ 35 rfl rfl K1 ?_;refine tk3 26 _ 36 rfl rfl K1 ?_;refine tk3 27 _ 37 rfl rfl K1 ?_;refine tk3 28 _ 38 rfl rfl K1 ?_;refine zab.one (i:=29) (by kernel_rfl) rfl (fun KQ hK=>?_);go_simp;refine hK.out _ _ (fun _=>K2) ?_;clear hK KQ
 (try simp only [jS])
 refine zab.one (i:=30) (by kernel_rfl) rfl (fun KQ hK=>?_);go_simp;refine hK.out _ _ (fun _=>K2) ?_;clear hK KQ
 (try simp only [jS])
 refine tk3 31 _ 41 rfl rfl K2 ?_;refine tk3 32 _ 42 rfl rfl K2 ?_;refine zab.one (i:=33) (by kernel_rfl) rfl (fun KQ hK=>?_);go_simp;refine hK.out _ _ (fun _=>K2) ?_;clear hK KQ
 (try simp only [jS])
 refine zab.done (by kernel_rfl) ?_ _;clear K1 K2;go_wp2;go_ret;exact ⟨rfl,OK.out.1,OK.out.2⟩
structure Srv.Raw (s:Srv) (c:Col) (k:Nat) (w:World) (vc vo vm:Value):Prop where
 chain:Sl TBlR c k k w vc s.chain
 other:Sl TBlR c k k w vo s.other
 moods:Sl (TInt .i64) c k k w vm s.moods
 delay:IntKind.i64.has s.delay
 slow:IntKind.i64.has s.slow
def shortS (s:Srv):Prop:=(s.chain.length≤12∧∀b∈s.chain,shortB b)∧(s.other.length≤12∧∀b∈s.other,shortB b)∧s.moods.length≤70
theorem Srv.Raw.at {s:Srv}{c:Col}{k:Nat}{w:World}{vc vo vm:Value}(h:s.Raw c k w vc vo vm) (hs:shortS s):s.At c k w vc vo vm:=
 ⟨raw_sl h.chain hs.1.2,raw_sl h.other hs.2.1.2,h.moods,by have:=hs.1.1;omega,by have:=hs.2.1.1;omega,by have:=hs.2.2;omega,h.delay,h.slow⟩
section
variable {c:Col}{w:World}
theorem long29_any (hok:Ok c w) {s:Srv}{k:Nat}{vc vo vm:Value}(hs:s.Raw c k w vc vo vm) :
  Calls prog 6 #[.agg #[vc,vo,vm,.int .i64 s.delay,.int .i64 s.slow]] w fun r w'=>isBf (shortS s) r∧∃c',Step No c w c' w'∧Ok c' w':=by
 obtain ⟨vca,vcc,rfl,_⟩:=hs.chain.form;obtain ⟨voa,voc,rfl,_⟩:=hs.other.form;obtain ⟨vma,vmc,rfl,_⟩:=hs.moods.form;have a0:=At.new0 hok [.slice vca s.chain.length vcc,.slice voa s.other.length voc,.slice vma s.moods.length vmc,.int .i64 s.delay,.int .i64 s.slow] 25;have s0:Step No c w c (w.alloc (.cells #[.slice vca s.chain.length vcc,.slice voa s.other.length voc,.slice vma s.moods.length vmc,.int .i64 s.delay,.int .i64 s.slow] 25)):=Step.refl.alloc _;have o0:=hok.alloc (.cells #[.slice vca s.chain.length vcc,.slice voa s.other.length voc,.slice vma s.moods.length vmc,.int .i64 s.delay,.int .i64 s.slow] 25);have LB:=longBlocks_any o0 (hs.chain.kn s0) 12;have ho:=hs.other.kn s0;obtain ⟨bx,hbx⟩:=jE w.heap.size;rw [hbx] at a0;obtain ⟨W0,hW0⟩:=jE (w.alloc (.cells #[.slice vca s.chain.length vcc,.slice voa s.other.length voc,.slice vma s.moods.length vmc,.int .i64 s.delay,.int .i64 s.slow] 25));have hW0':w.alloc (.cells ([Value.slice vca s.chain.length vcc,.slice voa s.other.length voc,.slice vma s.moods.length vmc,.int .i64 s.delay,.int .i64 s.slow]:List Value).toArray 25)=W0:=hW0;rw [hW0] at LB s0 o0 ho;rw [hW0'] at a0;have y0:=a0.get (i:=0) rfl;have X:=jh3 s0 ho a0;obtain ⟨n3,h3⟩:=jE s.moods.length;have H3:=jh1 h3;clear s0 o0 hs hok hW0' ho a0 h3;go_enter func6,ntmps6;go_wp2_with fail
 (try rw [hW0])
 (try rw [hbx])
 refine LB.mono ?_;rintro e w1 ⟨⟨t,rfl,ht⟩,c1,s1,o1⟩;obtain ⟨s0,ho,a0⟩:=X.out;have a1:=a0.kn s1;have y1:=a1.get (i:=1) rfl
 cases t with
 | true=>
  have X2:=jh2 (s0.trans s1) o1;clear LB s0 s1 o1 ho a0 a1;go_wp2;go_ret;exact ⟨isBf.yes _,c1,X2.out⟩
 | false=>
  have HT:=jh1 (ht rfl);clear ht;have LB2:=longBlocks_any o1 (ho.kn s1) 12;have X2:=jh2 (s0.trans s1) a1;clear LB s0 s1 o1 ho a0 a1;go_wp2_with fail;refine LB2.mono ?_;rintro e w2 ⟨⟨t,rfl,ht⟩,c2,s2,o2⟩;have a2:=X2.out.2.kn s2;have y2:=a2.get (i:=2) rfl;have X3:=jh2 (X2.out.1.trans s2) o2;clear LB2 s2 o2 a2 y0 y1
  cases t with
  | true=>
   go_wp2;go_ret;exact ⟨isBf.yes _,c2,X3.out⟩
  | false=>
   have HT2:=jh1 (ht rfl);clear ht;rw [H3.out] at y2;go_wp2;go_ret;have h3:=H3.out;refine ⟨⟨decide ((70:Int)<(n3:Int)),rfl,fun h=>?_⟩,c2,X3.out⟩;have h7:=of_decide_eq_false h;exact ⟨⟨by have:=HT.out.1;omega,HT.out.2⟩,⟨by have:=HT2.out.1;omega,HT2.out.2⟩,by omega⟩
end
section
variable {c:Col}{w:World}
theorem cpblos_any (hok:Ok c w) {kx:Nat}{v:Value}{l:List Blo}(hl:Sl TBlo c kx kx w v l) (hn:l.length≤1000) :
  Calls prog 31 #[v] w fun e w'=>∃v' c',e=.returned v'∧Sl TBlo c' 0 0 w' v' l∧Step No c w c' w'∧Ok c' w':=by
 obtain ⟨q,hq,hqc⟩:=hok.spare kx;have hq0:q≠0:=by omega
 have hqz:0≠q:=by omega
 have hqk:¬One q kx:=fun e=>absurd e (by show ¬kx=q;omega);have hqn:¬One q 0:=fun e=>absurd e (by show ¬0=q;omega);obtain ⟨va,vn,rfl,_⟩:=hl.form;have X:=jh3 hok hl hqc;obtain ⟨n,hn2⟩:=jE l.length;rw [hn2] at hn X ⊢;have HN:=jh1 hn2;clear hok hl hn2 hqc;go_enter func31,ntmps31;go_wp2;go_loopw [3,4] (fun u i wr=>∃(j:Nat) (cr:Col),j≤n∧i=.int .i64 j∧Own TBlo 59 cr q 0 wr u (l.take j)∧Step (One q) c w cr wr∧Ok cr wr) (fun _ i _=>n-(intOf i).toNat)
 case atStart=>exact ⟨0,c,Nat.zero_le _,rfl,Own.nil _ _ _ _ _ _,Step.refl,X.out.1⟩
 case round=>
  obtain ⟨j,cr,hj,rfl,ho,s1,o1⟩:=hrel;by_cases hjn:j<n
  ·have hi:∃b,l[j]? = some b:=⟨l[j]'(by rw [HN.out];exact hjn),by simp⟩
   obtain ⟨b,hi⟩:=hi
   obtain ⟨g,off,hga⟩:∃g off,va=some ⟨g,off,none⟩:=by
    obtain ⟨g,off,cap,e,_⟩:=X.out.2.1.some (by rw [HN.out];omega);injection e with e1;exact ⟨g,off,e1⟩
   subst hga;obtain ⟨vs,⟨uc,uv,rfl,hb⟩,hcs⟩:=(X.out.2.1.keep s1 hqk hqk).at hi;have CB:=cpblo_any o1 hb;have hbl:=zal hb.h hb.hash uc uv;obtain ⟨B,hB⟩:=jE (zau b uc uv);rw [hB] at CB hcs hbl;have hLl:(l.take j).length=j:=by rw [List.length_take,HN.out];omega
   obtain ⟨ua,un,hu,_⟩:=ho.sl.form;rw [hLl] at hu;subst hu;have hLl2:=jh1 hLl;clear hLl;have T:=jh5 hcs (show (prog.info? 59).map (·.size)=some B.length by rw [zah,hbl]) s1 ho hi;have hjn2:(j:Int)<(n:Int):=by omega
   clear hcs hbl hb hB hi s1 o1 ho;go_wp2_with (refine wpList_load_mid rfl 59 _ rfl g (off+j*166) rfl B _ T.out.1 underlying59 rfl T.out.2.1 ?_);refine CB.mono ?_;rintro e w2 ⟨vc,vv,c2,rfl,b2,s2,o2⟩;obtain ⟨x1,x2,x3⟩:=zbE (T:=TBlo) (x:=b) (vs:=zau b vc vv) (k2:=0) o2 ⟨vc,vv,rfl,b2⟩ 59;have hbl:=zal b2.h b2.hash vc vv;have OL:=(T.out.2.2.2.1.kn s2).kn x3;have sT:=(T.out.2.2.1.trans s2.ofNo).trans x3.ofNo;obtain ⟨zz,bz,i1,i2,i3⟩:=infoBlk;have hLl:=hLl2.out;have hm1:(l.take j).length + [b].length≤maxLen:=by rw [hLl];simp [maxLen];omega
   have hm2:((l.take j).length + [b].length)*bz≤140737488355328:=by
    rw [hLl];have:(j + [b].length)*bz≤1001*1000:=Nat.mul_le_mul (by simp;omega) i3;omega
   have isz:(prog.info? 59).map (·.size)=some 166:=zah;have izz:((prog.info? 59).bind (·.zero)).isSome=true:=by kernel_rfl
   have hw:IntKind.i64.wrap ((j:Int)+1)=((j+1:Nat):Int):=by rw [IntWalk.i64_in _ (by omega)];rfl
   obtain ⟨U,hU⟩:=jE (zau b vc vv);rw [hU] at x1 x2 x3 hbl OL sT ⊢;have TL:=jh3 isz izz hbl;have X2:=jh1 sT;clear CB s2 o2 b2 hU isz izz hbl x3 sT hLl;go_wp2_with (first | (refine wpList_bs1 rfl (some 17) rfl 22 59 (.tmp 16) rfl underlying22 TL.out.1 TL.out.2.1 TL.out.2.2 (by decide) (by decide) rfl ?_) | (at_builtin;refine zaq TBlo (z:=zz) (bytes:=bz) x1 rfl _ _ 22 rfl 59 underlying22 i1 i2 (by decide) rfl rfl OL x2 hqz hm1 hm2 ?_;rintro v7 w7 c7 b1 b2 b3 -));go_roundw
   case rel=>
    refine ⟨j+1,c7,by omega,by first | rfl | go_num,?_,X2.out.trans b2,b3⟩;have hlt:j<l.length:=by rw [HN.out];exact hjn
    have hlj:l[j]=b:=by
     have:=T.out.2.2.2.2;rw [List.getElem?_eq_getElem hlt] at this;injection this
    rw [List.take_succ_eq_append_getElem hlt,hlj];exact b1
   case measure=>simp [intOf];omega
  ·have hjn2:¬(j:Int)<(n:Int):=by omega
   have hjl:l.take j=l:=List.take_of_length_le (by rw [HN.out];omega);rw [hjl] at ho;have X2:=jh3 ho s1 o1;clear s1 o1 ho;go_wp2;go_ret;obtain ⟨ho,s1,o1⟩:=X2.out;exact ⟨_,rfl,cr.turn q 0,(ho.turn hqz).sl,(Step.turn s1 rfl).own X.out.2.2,o1.turn hq0⟩
end
section
variable {c:Col}{w:World}
theorem copied29_any (hok:Ok c w) {s:Srv}{vc vo vm:Value}(hs:s.At c 0 w vc vo vm) (h1:s.chain.length≤1000) (h2:s.other.length≤1000) :
  Calls prog 8 #[.agg #[vc,vo,vm,.int .i64 s.delay,.int .i64 s.slow]] w fun e w'=>∃vc' vo' vm' c',e=.returned (.agg #[vc',vo',vm',.int .i64 s.delay,.int .i64 s.slow])∧s.At c' 0 w' vc' vo' vm'∧Step No c w c' w'∧Ok c' w':=by
 obtain ⟨q,hq,hqc⟩:=hok.spare 0;have hq0:q≠0:=by omega
 have hqn:¬One q 0:=fun e=>absurd e (by show ¬0=q;omega);obtain ⟨vca,vcc,rfl,_⟩:=hs.chain.form;obtain ⟨voa,voc,rfl,_⟩:=hs.other.form;obtain ⟨vma,vmc,rfl,_⟩:=hs.moods.form;obtain ⟨a1,p1,s1⟩:=zan hok [.slice vca s.chain.length vcc,.slice voa s.other.length voc,.slice vma s.moods.length vmc,.int .i64 s.delay,.int .i64 s.slow] 25 q;obtain ⟨a2,p2,s2⟩:=zan p1 [.slice none 0 0,.slice none 0 0,.slice none 0 0,.int .i64 0,.int .i64 0] 25 q;rw [World.size_alloc] at a2 p2 s2;have a1':=a1.kn s2;have hs2:=(hs.kn s1).kn s2;have CB:=cpblos_any p2 hs2.chain h1;obtain ⟨bx,hbx⟩:=jE w.heap.size;rw [hbx] at a1' a2 p2 s2 s1 hs2 CB;obtain ⟨W2,hW2⟩:=jE ((w.alloc (.cells #[.slice vca s.chain.length vcc,.slice voa s.other.length voc,.slice vma s.moods.length vmc,.int .i64 s.delay,.int .i64 s.slow] 25)).alloc (.cells #[.slice none 0 0,.slice none 0 0,.slice none 0 0,.int .i64 0,.int .i64 0] 25));have hW2':(w.alloc (.cells ([.slice vca s.chain.length vcc,.slice voa s.other.length voc,.slice vma s.moods.length vmc,.int .i64 s.delay,.int .i64 s.slow]:List Value).toArray 25)).alloc (.cells ([.slice none 0 0,.slice none 0 0,.slice none 0 0,.int .i64 0,.int .i64 0]:List Value).toArray 25)=W2:=hW2;rw [hW2'] at a1' a2 p2 s2 hs2 CB;have y0:=a1'.get (i:=0) rfl;have X:=jh5 a1' a2 (s1.trans s2) hs2 hW2;have HB:=jh1 hs;clear hok a1 p1 s1 a2 p2 s2 a1' hs2 hW2' hW2 hs;go_enter func8,ntmps8;go_wp2_with fail;rw [X.out.2.2.2.2];refine CB.mono ?_;rintro e w3 ⟨v3,c3,rfl,sl3,s3,o3⟩;obtain ⟨aa,ab,ac,hs2,_⟩:=X.out;have a3:=aa.kn s3;have f3:=a3.fz o3 hq0 0;have y3:=a3.get (i:=0) rfl;have a4:=a3.setN (i:=0) (by simp) v3;have st4:Step (One q) c3 w3 c3 (w3.setCell ⟨bx,0,none⟩ v3):=(Step.refl (K:=One q)).setCell (a:=⟨bx,0,none⟩) (.inr a3.col) _;have hs4:=(hs2.kn s3).keep st4 hqn;have sl4:=sl3.keep st4 hqn hqn;have ab4:=(ab.kn s3).offC bx 0 v3 (by omega);have o4:Ok c3 (w3.setCell ⟨bx,0,none⟩ v3):=o3.setCell _ _;have s4:Step (One q) c w c3 (w3.setCell ⟨bx,0,none⟩ v3):=(ac.trans s3).ofNo.trans st4;have CB2:=cpblos_any o4 hs4.other h2;have y4:=a4.get (i:=1) rfl;obtain ⟨W4,hW4⟩:=jE (w3.setCell ⟨bx,0,none⟩ v3);rw [hW4] at a4 hs4 sl4 ab4 o4 s4 CB2 y4;obtain ⟨v3a,v3n,rfl,_⟩:=sl3.form;have X4:=jh6 a4 ab4 s4 hs4 sl4 hW4;clear X CB aa ab ac hs2 a3 a4 st4 hs4 sl4 ab4 o4 s4 sl3 s3 o3;go_wp2_with fail;refine CB2.mono ?_;rintro e w5 ⟨v5,c5,rfl,sl5,s5,o5⟩;obtain ⟨aa,ab,ac,hs4,sl4,_⟩:=X4.out;have a5:=aa.kn s5;have f5:=a5.fz o5 hq0 1;have y5:=a5.get (i:=1) rfl;have a6:=a5.setN (i:=1) (by simp) v5;have st6:Step (One q) c5 w5 c5 (w5.setCell ⟨bx,1,none⟩ v5):=(Step.refl (K:=One q)).setCell (a:=⟨bx,1,none⟩) (.inr a5.col) _;have hs6:=(hs4.kn s5).keep st6 hqn;have sl6:=(sl4.kn s5).keep st6 hqn hqn;have tl6:=sl5.keep st6 hqn hqn;have ab6:=(ab.kn s5).offC bx 1 v5 (by omega);have o6:Ok c5 (w5.setCell ⟨bx,1,none⟩ v5):=o5.setCell _ _;have s6:Step (One q) c w c5 (w5.setCell ⟨bx,1,none⟩ v5):=(ac.trans s5.ofNo).trans st6;have CB3:=cpints_any o6 hs6.moods hs6.nmoods;have y6:=a6.get (i:=2) rfl;obtain ⟨W6,hW6⟩:=jE (w5.setCell ⟨bx,1,none⟩ v5);rw [hW6] at a6 hs6 sl6 tl6 ab6 o6 s6 CB3 y6;obtain ⟨v5a,v5n,rfl,_⟩:=sl5.form;have X6:=jh7 a6 ab6 s6 hs6 sl6 tl6 hW6;clear X4 CB2 aa ab ac hs4 sl4 a5 a6 st6 hs6 sl6 tl6 ab6 o6 s6 sl5 s5 o5 f3 y3 hW4 y4;go_wp2_with fail;refine CB3.mono ?_;rintro e w7 ⟨v7,c7,rfl,sl7,s7,o7⟩;obtain ⟨aa,ab,ac,hs6,sl6,tl6,_⟩:=X6.out;have a7:=aa.kn s7;have f7:=a7.fz o7 hq0 2;have y7:=a7.get (i:=2) rfl;have a8:=a7.setN (i:=2) (by simp) v7;have st8:Step (One q) c7 w7 c7 (w7.setCell ⟨bx,2,none⟩ v7):=(Step.refl (K:=One q)).setCell (a:=⟨bx,2,none⟩) (.inr a7.col) _;have sl8:=(sl6.kn s7).keep st8 hqn hqn;have tl8:=(tl6.kn s7).keep st8 hqn hqn;have ul8:=sl7.keep st8 hqn hqn;have ab8:=(ab.kn s7).offC bx 2 v7 (by omega);have o8:Ok c7 (w7.setCell ⟨bx,2,none⟩ v7):=o7.setCell _ _;have s8:Step (One q) c w c7 (w7.setCell ⟨bx,2,none⟩ v7):=(ac.trans s7.ofNo).trans st8;obtain ⟨v7a,v7n,rfl,_⟩:=sl7.form;have hl8:([Value.slice v3a s.chain.length v3n,.slice v5a s.other.length v5n,.slice v7a s.moods.length v7n,.int .i64 s.delay,.int .i64 s.slow]:List Value).length=5:=rfl
 have h18:∀u∈([Value.slice v3a s.chain.length v3n,.slice v5a s.other.length v5n,.slice v7a s.moods.length v7n,.int .i64 s.delay,.int .i64 s.slow]:List Value),u.oneCell'=true:=by
  intro u hu;simp only [List.mem_cons,List.not_mem_nil,or_false] at hu
  rcases hu with rfl | rfl | rfl | rfl | rfl <;> rfl
 have hi8:(prog.info? 25).map (·.size)=some 5:=by kernel_rfl
 obtain ⟨C,hC⟩:∃C,[Value.slice v3a s.chain.length v3n,.slice v5a s.other.length v5n,.slice v7a s.moods.length v7n,.int .i64 s.delay,.int .i64 s.slow]=C:=⟨_,rfl⟩;have a8':At c7 (w7.setCell ⟨bx,2,none⟩ (.slice v7a s.moods.length v7n)) bx q C:=by rw [←hC];exact a8
 rw [hC] at hl8 h18;have hi0:(prog.info? 25).map (·.size)=some C.length:=by rw [hi8,hl8]
 have hi1:(prog.info? 25).map (·.size)=some C.toArray.size:=by rw [hi8];simp [hl8]
 have ht8:=ab8.there (o:=0) (n:=C.toArray.size) o8 hq0 (by simp [hl8]);have a9:=(ab8.st o8 hq0 (ty:=25) (us:=C) (by rw [hl8];rfl) hi0 h18).2;have st9:Step (One q) c7 (w7.setCell ⟨bx,2,none⟩ (.slice v7a s.moods.length v7n)) c7 ((w7.setCell ⟨bx,2,none⟩ (.slice v7a s.moods.length v7n)).setCells (bx+1) 0 C):=Step.setCells (.inr ab8.col) _ _ _ Step.refl;have X8:=jh12 a8'.cells hi0 ht8 hi1 (all_oneCell_toArray h18) a9.cells (sl8.keep st9 hqn hqn) (tl8.keep st9 hqn hqn) (ul8.keep st9 hqn hqn) (s8.trans st9) (Ok.setCells (b:=bx+1) C 0 _ o8) hC;clear X6 CB3 aa ab ac hs6 sl6 tl6 a7 a8 a8' st8 sl8 tl8 ul8 ab8 o8 s8 sl7 s7 o7 f5 y5 y6 hW6 hl8 h18 hi8 hC hi0 hi1 ht8 a9 st9;go_wp2_with (first | (refine wpList_load_mid rfl 25 _ rfl bx 0 rfl C _ X8.out.1 underlying25 rfl X8.out.2.1 ?_) | (refine wpList_store_mid rfl 25 _ _ rfl (bx+1) 0 C.toArray rfl rfl X8.out.2.2.1 X8.out.2.2.2.1 X8.out.2.2.2.2.1 ?_));obtain ⟨_,hi0,_,_,_,hc9,sl9,tl9,ul9,s9,o9,hC⟩:=X8.out;have hs:=HB.out;exact bodyPost_ret (zad rfl _ _ (bx+1) 0 C _ rfl hc9 underlying25 rfl hi0) rfl ⟨_,_,_,c7,by rw [←hC],⟨sl9,tl9,ul9,hs.nchain,hs.nother,hs.nmoods,hs.delay,hs.slow⟩,s9.own hqc,o9⟩
end
