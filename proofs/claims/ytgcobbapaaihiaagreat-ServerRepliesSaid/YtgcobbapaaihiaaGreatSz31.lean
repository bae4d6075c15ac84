/- ServerReplies, part 31: lemmas, each with its own conditions. -/
import Derived.Test.YtgcobbapaaihiaaGreatSz30
set_option linter.all false
set_option maxHeartbeats 12800000
set_option maxRecDepth 100000
open Go.Proofs.Tryz
namespace Go.Proofs.YtgcobbapaaihiaaGreat
open Go.RowKit
attribute [local go_sem] Oper.semAt_some
theorem wpList_build_of {P:Program}{ops:Array Oper}{rest:List Oper}{o:Oper}{a:Act}{w:World}{Q:Exit→Act→World→Prop}(hg:o.guard=none) (dst:Option Tmp) (hdst:o.dst=dst) (ty:TypeId) (parts:Array (Nat×Operand)) (ho:o.op=.build ty parts) (cells:List Value)
  {ps:List (Nat×Value)} (hps:(parts.map fun (i,x)=>(i,a.eval x)).toList=ps) (hb:P.built ty ps=some cells.toArray) (h:wpList P ops Q rest (a.put dst (.agg cells.toArray)) w):wpList P ops Q (o::rest) a w:=by
 subst hps;exact zbC hg dst hdst ty parts ho cells hb h
theorem wp_capE {P:Program}{Q:Exit→Act→World→Prop}{cd:Code}{a:Act}{w:World}(h:∀A,A=a→cd.wp P Q A w):cd.wp P Q a w:=h a rfl
theorem region_roundE {P:Program}{Q:Exit→Act→World→Prop}{id:Nat}{a:Act}{w:World}{lp:Nat}{l:List Oper}(hd:noDefers l.toArray=true) (hq:¬LetsOut Q)
  (h:wpList P l.toArray Q l a w):(Code.region id l.toArray false).wpIn (Fence.wide.inRound lp) 0 P Q a w:=by
 refine wpIn_region (zbt (noDefers_spec hd) hq lp _ _ _ ?_);rw [List.range_eq_range',←Array.length_toList,wpOps_eq_wpList l.toArray.toList 0 (by simp)];simpa using h
section
variable {c:Col}{w:World}
theorem sets_any (hok:Ok c w) {R:List Value}(e:Nat) :
  Calls prog 86 #[.agg R.toArray,.pointer (some ⟨e,0,none⟩)] w fun r w'=>∃B1 B2,r=.returned (.func (.func 130) #[] #[.pointer (some ⟨B1,0,none⟩),.pointer (some ⟨B2,0,none⟩)])∧∃c',At c' w' B1 0 R∧Step No c w c' w'∧Ok c' w':=by
 have a0:=At.new0 hok R 97;have s0:Step No c w c (w.alloc (.cells R.toArray 97)):=Step.refl.alloc _;have o0:=hok.alloc (.cells R.toArray 97);have s1:Step No c (w.alloc (.cells R.toArray 97)) c ((w.alloc (.cells R.toArray 97)).alloc (.cells #[.pointer (some ⟨e,0,none⟩)] 142)):=Step.refl.alloc _;have X:=jh3 (a0.kn s1) (s0.trans s1) (o0.alloc (.cells #[.pointer (some ⟨e,0,none⟩)] 142));clear a0 s0 o0 s1 hok;go_enter func86,ntmps86;go_wp2;go_ret;exact ⟨_,_,rfl,c,X.out⟩
def TV:Ty Value where
 n:=1
 rd:=fun _ _ _ vs x=>vs=[x]∧x.oneCell'=true
 len:=by rintro _ _ _ _ _ ⟨rfl,_⟩;rfl
 one:=by rintro _ _ _ _ _ ⟨rfl,h⟩ u hu;simp at hu;subst hu;exact h
 keep:=by rintro _ _ _ _ _ _ _ _ _ _ h;exact h
 turn:=by rintro _ _ _ _ _ _ h;exact h
theorem infoSet:(prog.info? 57).map (fun i=>(i.zero,i.size,i.bytes))=some (some (.slice none 0 0),1,24):=by kernel_rfl
theorem zero_hashZ:zaE prog 51 (bC zap):=by unfold zaE;kernel_rfl
theorem bd_fill (parts:List (Nat×Value)):prog.built 146 parts=Instr.fill ([(0,9),(9,1),(10,131),(141,166),(307,1)].toArray[·]?) (zeroL 146).toArray parts:=by kernel_rfl
theorem bd_zl:(zeroL 146).length=308∧(zeroL 146).drop 307=[.slice none 0 0]:=⟨by kernel_rfl,by kernel_rfl⟩
theorem bd_built (vv mp:Value) (hmp:mp.cells=#[mp]):∃H B,H.length=131∧B.length=166∧prog.built 146 [(0,.agg (recC vv).toArray),(1,mp)]=some (bdC vv mp H B (.slice none 0 0)).toArray:=by
 rw [bd_fill];obtain ⟨hz,hz2⟩:=bd_zl;obtain ⟨Z,hZ⟩:=jE (zeroL 146);rw [hZ] at hz hz2 ⊢;refine ⟨(Z.drop 10).take 131,(Z.drop 141).take 166,by simp [hz],by simp [hz],?_⟩;have e1:=zaP (place:=([(0,9),(9,1),(10,131),(141,166),(307,1)].toArray[·]?)) (Pf:=[]) (Z:=Z) (B:=recC vv) (i:=0) (v:=.agg (recC vv).toArray) (rest:=[(1,mp)]) rfl rfl (by rw [hz];show 9≤308;omega);rw [List.nil_append] at e1;have e2:=zaP (place:=([(0,9),(9,1),(10,131),(141,166),(307,1)].toArray[·]?)) (Pf:=[]++recC vv) (Z:=Z.drop (recC vv).length) (B:=[mp]) (i:=1) (v:=mp) (rest:=[]) rfl (by rw [hmp]) (by simp [hz,recC]);rw [e1,e2,Instr.fill];refine congrArg (fun l:List Value=>some (List.toArray l)) ?_
 have d1:Z.drop 10=(Z.drop 10).take 131++((Z.drop 141).take 166++[.slice none 0 0]):=by
  have h1:Z.drop 141=(Z.drop 141).take 166++Z.drop 307:=by
   have:=(List.take_append_drop 166 (Z.drop 141)).symm
   rwa [List.drop_drop] at this
  have h2:Z.drop 10=(Z.drop 10).take 131++Z.drop 141:=by
   have:=(List.take_append_drop 131 (Z.drop 10)).symm
   rwa [List.drop_drop] at this
  rw [hz2] at h1;rw [←h1,←h2]
 have hr:(recC vv).length=9:=rfl;rw [hr,List.length_singleton,List.drop_drop,show 9+1=10 from rfl,d1];simp [bdC,hz]
theorem bd_blo {c:Col}{w:World}{bb kb:Nat}{vv mp sv:Value}{H U:List Value}(hH:H.length=131) (hU:U.length=166) (hd:At c w bb kb (bdC vv mp H U sv)):zas w bb 141 U∧w.cell? ⟨bb,307,none⟩=some sv:=by
 have h0:=hd.cells;have e:bdC vv mp H U sv=(recC vv++(mp::H))++(U++[sv]):=by simp [bdC]
 have el:(recC vv++(mp::H)).length=141:=by simp [recC,hH]
 rw [e] at h0;have h1:=(zam h0).2;rw [el,Nat.zero_add] at h1;obtain ⟨h2,h3⟩:=zam h1;rw [hU] at h3;exact ⟨h2,h3 0 _ rfl⟩
def Fit (h:Int) (b:Blo):Prop:=∃p z x y:List UInt8,p.length=32∧z.length=32∧x.length=32∧y.length=32∧b=blo3 h p z x y
def FitL (j:Nat) (L:List Blo):Prop:=L.length=j∧∀(i:Nat) b,L[i]? = some b→Fit (i+1:Nat) b
theorem hash_at {c:Col}{w:World}{xb k:Nat}{b:Blo}{vc bv:Value}(h:zas w xb 0 (zau b vc bv)) (hb:b.At c k w vc bv):zas w xb 132 (bC b.cm.hash):=by
 have h1:=(zbl hb.h hb.hash h).2.1;rw [Nat.zero_add] at h1;have h2:=(zam (xs:=[.int .i64 b.cm.height]) (ys:=bC b.cm.hash++[vc]) h1).2;exact (zam h2).1
theorem FitL.snoc {j n:Nat}{L:List Blo}{b:Blo}(h:FitL j L) (hn:j+1=n) (hb:Fit (n:Int) b):FitL n (L++[b]):=by
 obtain ⟨h1,h2⟩:=h;refine ⟨by simp [h1,hn],fun i b' hi=>?_⟩;by_cases hl:i<L.length
 ·rw [List.getElem?_append_left hl] at hi
  exact h2 i b' hi
 ·rw [List.getElem?_append_right (by omega)] at hi
  have:i-L.length=0:=by
   have:=(List.getElem?_eq_some_iff.1 hi).1;simp at this;omega
  rw [this] at hi;simp at hi;subst hi;have:i=j:=by omega
  rw [this,hn];exact hb
theorem infoBlk:∃z b,(prog.info? 59).map (fun i=>(i.zero,i.size,i.bytes))=some (some z,166,b)∧z.cells.size=166∧b≤1000:=⟨.agg (zeroL 59).toArray,248,by kernel_rfl,by kernel_rfl,by decide⟩
theorem row4 {c:Col}{k:Nat}{w:World}{g off gn:Nat}{v:Value}(h:Sl TV c k 0 w (.slice (some ⟨g,off,none⟩) 4 gn) [v,v,v,v]) {i:Nat}(hi:i<4):w.cell? ⟨g,off+i,none⟩=some v:=by
 obtain ⟨vs,⟨rfl,_⟩,hc⟩:=h.at (j:=i) (show [v,v,v,v][i]? = some v by rcases (by omega:i=0∨i=1∨i=2∨i=3) with rfl | rfl | rfl | rfl <;> rfl);have:=hc 0 v rfl;simpa [TV] using this
theorem newAtS {c:Col}{W:World}(hok:Ok c W) (vs:List Value) (e:TypeId) (k:Nat):∃nb c',nb=W.heap.size∧(∀xb,some nb=some xb→At c' (W.alloc (.cells vs.toArray e)) xb k vs)∧Ok c' (W.alloc (.cells vs.toArray e))∧Step No c W c' (W.alloc (.cells vs.toArray e)):=by
 obtain ⟨a,o,s⟩:=zan hok vs e k;exact ⟨_,_,rfl,fun xb h=>by cases h;exact a,o,s⟩
structure BI (q rb ab bb mb pb:Nat) (va:Option Addr) (vn:Nat) (c:Col) (W:World) (j:Nat) (out:Value):Prop where
 bd:∃H B sv sl,H.length=131∧B.length=166∧At c W bb (q+4) (bdC (.slice va 1 vn) (.map (some mb)) H B sv)∧Own TSig 202 c (q+5) 0 W sv sl∧sl.length=j
 away:Away c 0 W mb
 prev:∃prev:List UInt8,prev.length=32∧At c W pb (q+6) (bC prev)
 out:∃L,FitL j L∧Own TBlo 59 c (q+7) 0 W out L
 vals:Sl TVal c 0 0 W (.slice va 1 vn) l1
 all:∃g off gn,At c W ab (q+1) [.slice (some ⟨g,off,none⟩) 4 gn]∧Sl TV c (q+3) 0 W (.slice (some ⟨g,off,none⟩) 4 gn) [.slice va 1 vn,.slice va 1 vn,.slice va 1 vn,.slice va 1 vn]
 rcp:At c W rb 0 (recC (.slice va 1 vn))
theorem build_any (hok:Ok c w) {vv:Value}(hv:Sl TVal c 0 0 w vv l1) :
  Calls prog 39 #[.agg (recC vv).toArray] w fun r w'=>∃v sv:Value,r=.returned (.tuple #[v,sv,.int .i64 0])∧∃c' L,FitL 3 L∧Sl TBlo c' 0 0 w' v L∧Step No c w c' w'∧Ok c' w':=by
 obtain ⟨ka,hka,hkac⟩:=hok.spare 0;obtain ⟨q,hq,hqc⟩:=hok.top ka;obtain ⟨va,vn,rfl,_⟩:=hv.form;have a0:=At.new0 hok (recC (.slice va l1.length vn)) 97;have s0:Step No c w c (w.alloc (.cells (recC (.slice va l1.length vn)).toArray 97)):=Step.refl.alloc _;have o0:=hok.alloc (.cells (recC (.slice va l1.length vn)).toArray 97);have MY:=may_rec o0 (hv.kn s0);obtain ⟨rb,hrb⟩:=jE w.heap.size;rw [hrb] at a0;have X:=jh4 a0 s0 (hv.kn s0) hqc;obtain ⟨R,hR⟩:=jE (recC (.slice va l1.length vn));have hRl:(prog.info? 97).map (·.size)=some R.length:=by rw [←hR];kernel_rfl
 rw [hR] at X MY ⊢;obtain ⟨W0,hW0⟩:=jE (w.alloc (.cells R.toArray 97));rw [hW0] at X MY;have HR:=jh2 hR hRl;have ld0:=jh1 X.out.1.cells;clear a0 s0 o0 hok hv hR hRl hqc hkac;refine calls_of_wp_marks func39 rfl ?_;simp only [ntmps39,List.size_toArray,List.length_cons,List.length_nil,Nat.reduceAdd,Nat.reduceSub,Array.replicate_succ,Array.replicate_zero,List.push_toArray,List.append_toArray,List.nil_append,List.cons_append];go_wp2_with (first | (refine wpList_load_mid rfl 97 _ rfl rb 0 rfl R _ ld0.out underlying97 rfl HR.out.2 ?_));refine MY.mono ?_;rintro e w1 ⟨rfl,c1,s1,o1⟩;obtain ⟨a0,s0,sv,hqc⟩:=X.out;obtain ⟨aa,oa,sa⟩:=zan o1 [.slice none 0 0] 138 (q+1);have ae:=Step.refl.alloc (K:=No) (c:=c1.put w1.heap.size (q+1)) (w:=w1.alloc (.cells [Value.slice none 0 0].toArray 138)) (.cells #[.int .i64 0] 34);have oe:=oa.alloc (.cells #[.int .i64 0] 34);obtain ⟨ab,hab⟩:=jE w1.heap.size;rw [hab] at aa oa sa ae oe;obtain ⟨c2,hc2⟩:=jE (c1.put ab (q+1));have sAE:=sa.trans ae;have aa2:=aa.kn ae;obtain ⟨W2,hW2⟩:=jE ((w1.alloc (.cells [Value.slice none 0 0].toArray 138)).alloc (.cells #[.int .i64 0] 34));rw [hc2,hW2] at oe sAE aa2;have st2:Step No c W0 c2 W2:=s1.trans sAE;have SS:=sets_any oe (R:=R) (ab+1);have X2:=jh5 (a0.kn st2) (sv.kn st2) (s0.trans st2) aa2 hqc;have ld2:=jh1 (a0.kn st2).cells;clear X MY a0 s0 sv hqc s1 o1 aa oa sa ae oe sAE aa2 st2 ld0 hc2;have hW2':(w1.alloc (.cells #[.slice none 0 0] 138)).alloc (.cells #[.int .i64 0] 34)=W2:=hW2;go_wp2_with (first | (refine wpList_load_mid rfl 97 _ rfl rb 0 rfl R _ (by first | exact ld2.out | (rw [hW2'];exact ld2.out)) underlying97 rfl HR.out.2 ?_))
 (try rw [hW2'])
 (try simp only [World.size_alloc])
 (try rw [hab])
 refine SS.mono ?_;rintro e w3 ⟨B1,B2,rfl,c3,aB,s3,o3⟩;obtain ⟨a0,sv,st,aa,hqc⟩:=X2.out;obtain ⟨kl,hkl,hklc⟩:=o3.spare (q+20);have hll:l1.length=1:=rfl;have hIt:=sets_iter (K:=And1 (Two (q+1) (q+3)) kl) (B1:=B1) (B2:=B2) (va:=va) (vn:=vn) (c:=c3) (w:=w3) (by rw [show recC (.slice va 1 vn)=R from HR.out.1];exact aB) (by rintro ((h | h) | h) <;> omega);have aa3:=aa.kn s3;have X3:=jh5 (a0.kn s3) (sv.kn s3) (st.trans s3) o3 hqc;have H:=jh3 o3 aa3 hIt;clear SS X2 a0 sv st aa hqc aB s3 o3 aa3 hIt ld2 hW2 hW2';go_wp2_with fail;obtain ⟨o3,aa3,hIt⟩:=H.out;refine wp_capE (fun F hF=>?_)
 refine wp_range (a:=F) o3 (by rw [hF];rfl) (enters_of func130 (by kernel_rfl) rfl) (K:=Two (q+1) (q+3)) kl hklc (by omega) (by rintro (h | h) <;> omega) hIt ?_
  (fun pre c1 W1=>∃xa xn,At c1 W1 ab (q+1) [.slice xa pre.length xn]∧Own TV 57 c1 (q+3) 0 W1 (.slice xa pre.length xn) (pre.map fun _=>Value.slice va 1 vn)) (fun _ _ _ _=>False)
  (fun pre x a1 c1 W1=>(pre++[x]) <+: hs4∧(∃xa xn,At c1 W1 ab (q+1) [.slice xa pre.length xn]∧Own TV 57 c1 (q+3) 0 W1 (.slice xa pre.length xn) (pre.map fun _=>Value.slice va 1 vn)) ∧
   a1 = { tmps:=((F.tmps.setIfInBounds 24 (.int .i64 x)).setIfInBounds 25 (.slice va 1 vn)).setIfInBounds 9 (.slice va 1 vn),defers:=[] })
  ?_ ?_ ?_ ?_ ?assign ?body ?done ?stop
 ·rintro x c1 W1 _ rfl;rfl
 ·rintro pre c1 W1 c2 W2 ⟨xa,xn,h1,h2⟩ hs _
  exact ⟨xa,xn,h1.keep hs (show ¬q+1=kl by omega),h2.keep hs (show ¬q+3=kl by omega) (show ¬0=kl by omega)⟩
 ·rintro _ _ _ _ _ _ h;exact h.elim
 ·rintro pre x a1 c1 W1 c2 W2 ⟨hp,⟨xa,xn,h1,h2⟩,ha⟩ hs _
  exact ⟨hp,⟨xa,xn,h1.keep hs (show ¬q+1=kl by omega),h2.keep hs (show ¬q+3=kl by omega) (show ¬0=kl by omega)⟩,ha⟩
 ·exact ⟨none,0,aa3,Own.nil _ _ _ _ _ _⟩
 case assign=>
  rintro lp pre x c1 W1 _ hpre h1 ho hs rfl KK hK;simp only [];subst hF;have fin:=hK { tmps:=_,defers:=[] } c1 W1 ho Step.refl ⟨hpre,h1,rfl⟩;clear hK;simp only [List.setIfInBounds_toArray,List.set_cons_zero,List.set_cons_succ] at fin ⊢
  gi_wp2
  exact fin
 case body=>
  rintro lp pre x a1 c2 W2 ⟨hpre,⟨xa,xn,h1,h2⟩,rfl⟩ ho;subst hF;obtain ⟨x1,x2,x3⟩:=zbE (T:=TV) (x:=.slice va 1 vn) (vs:=[.slice va 1 vn]) (k2:=0) ho ⟨rfl,rfl⟩ 57;have h2':=h2.kn x3;have y0:=h1.c0;have hq0:0≠q+3:=by omega
  have hpl:pre.length≤4:=by have:=hpre.length_le;simp [hs4] at this;omega
  have hm1:(pre.map fun _=>Value.slice va 1 vn).length + [Value.slice va 1 vn].length≤maxLen:=by simp [maxLen];omega
  have hm2:((pre.map fun _=>Value.slice va 1 vn).length + [Value.slice va 1 vn].length)*24≤140737488355328:=by simp;omega
  have X:=jh2 h1 x3;simp only [List.setIfInBounds_toArray,List.set_cons_zero,List.set_cons_succ];clear h2 h1 hpre;refine wpIn_block ?_;refine region_roundE (by kernel_rfl) (fun ⟨_,_,h⟩=>h) ?_;go_wp2_with (at_builtin;refine zaq TV x1 rfl _ _ 138 rfl 57 underlying138 infoSet rfl (by decide) rfl rfl h2' x2 hq0 hm1 hm2 ?_;rintro v' w' c' b1 b2 b3 -;obtain ⟨va',vc',rfl,_⟩:=b1.sl.form;rw [show ((pre.map fun _=>Value.slice va 1 vn)++[Value.slice va 1 vn]).length=pre.length+1 by simp] at b1;have g3:=(X.out.1.kn X.out.2).keep b2 (show ¬q+1=q+3 by omega);have y0:=g3.c0;have yf:=g3.fz b3 (by omega) 0;have Y:=jh4 b1 b2 b3 g3;clear b1 b2 b3 g3);obtain ⟨b1,b2,b3,g3⟩:=Y.out;have sT:Step (Two (q+1) (q+3)) c2 W2 c' (w'.setCell ⟨ab,0,none⟩ (.slice va' (pre.length+1) vc')):=(X.out.2.ofNo.trans (b2.mono fun _ h=>.inr h)).setCell (a:=⟨ab,0,none⟩) (.inr (.inl X.out.1.col)) _;have hne1:c' ab≠q+3:=by rw [g3.col];omega
  have hne0:c' ab≠0:=by rw [g3.col];omega
  have b5:=b1.set (a:=⟨ab,0,none⟩) hne1 hne0 (.slice va' (pre.length+1) vc');refine ⟨c',b3.setCell _ _,sT,va',vc',?_,?_⟩
  ·rw [show (pre++[x]).length=pre.length+1 by simp]
   exact g3.set0
  ·rw [show (pre++[x]).length=pre.length+1 by simp,List.map_append]
   exact b5
 case done=>
  rintro D c5 W5 ⟨xa,xn,h1,h2⟩ ho hs hD hDs hDc;subst hF;obtain ⟨a0,sv,st,_,hqc⟩:=X3.out;have n0:¬And1 (Two (q+1) (q+3)) kl 0:=by rintro ((h | h) | h) <;> omega
  have a5:=a0.keep hs n0;have sv5:=sv.keep hs n0 n0;have st5:Step (fun j=>q<j) c w c5 W5:=st.ofNo.trans (hs.mono fun j h=>by rcases h with (h | h) | h <;> omega);obtain ⟨H,B,hH,hB,hbd⟩:=bd_built (.slice va 1 vn) (.map (some W5.heap.size)) rfl;have M1:∀W,(Instr.makeMap 144 none).run prog W=.ok (.map (some W.heap.size)) (W.alloc (.map #[] 0)):=fun W=>by simp [Instr.makeMap,newObj,go_sem];rfl
  have am:=Away.new ho;have om:=ho.alloc (.map #[] 0);have sm:Step No c5 W5 c5 (W5.alloc (.map #[] 0)):=Step.refl.alloc _;obtain ⟨ab9,ob9,sb9⟩:=zan om (bdC (.slice va 1 vn) (.map (some W5.heap.size)) H B (.slice none 0 0)) 146 (q+4);rw [World.size_alloc] at ab9 ob9 sb9;obtain ⟨mb,hmb⟩:=jE W5.heap.size;rw [hmb] at ab9 ob9 sb9 am hbd;have hRe:recC (.slice va 1 vn)=R:=HR.out.1;rw [hRe] at hbd;obtain ⟨BD,hBD⟩:=jE (bdC (.slice va 1 vn) (.map (some mb)) H B (.slice none 0 0));rw [hBD] at ab9 ob9 sb9 hbd;have XD:=jh18 h1 h2 ho hD hDs hDc a5 sv5 st5 am sm ab9 ob9 sb9 hH hB hBD hqc;have ld5:=jh1 a5.cells;have y6:=a5;rw [←hRe] at y6;have y6:=(y6.kn (sm.trans sb9)).get (i:=6) rfl;clear X3 a0 sv st hqc h1 h2 ho hs hD hDs hDc n0 a5 sv5 st5 am om sm ab9 ob9 sb9 hH hB hBD hIt aa3 o3;go_wp2_with (first | (refine wpList_load_mid rfl 97 _ rfl rb 0 rfl R _ ld5.out underlying97 rfl HR.out.2 ?_) | (refine wpList_build_of rfl (some 32) rfl 146 #[(0,.tmp 30),(1,.tmp 31)] rfl BD (ps:=[(0,.agg R.toArray),(1,.map (some mb))]) (by first | rfl | (simp [Act.eval,hmb];done) | (rw [←hmb];rfl)) hbd ?_));obtain ⟨h1,h2,ho,hD,hDs,hDc,a5,sv5,st5,am,sm,ab9,ob9,sb9,hH,hB,hBD,hqc⟩:=XD.out;have s59:=sm.trans sb9;obtain ⟨W9,hW9⟩:=jE ((W5.alloc (.map #[] 0)).alloc (.cells BD.toArray 146));obtain ⟨c9,hc9⟩:=jE (c5.put (mb+1) (q+4));have am9:=am.kn sb9;rw [hW9,hc9] at s59 ab9 ob9;rw [hW9,hc9] at am9;rw [hW9] at y6 ⊢;obtain ⟨ap,op,sp⟩:=zan ob9 (bC zap) 51 (q+6);obtain ⟨pb,hpb⟩:=jE W9.heap.size;rw [hpb] at ap op sp;obtain ⟨W10,hW10⟩:=jE (W9.alloc (.cells (bC zap).toArray 51));obtain ⟨c10,hc10⟩:=jE (c9.put pb (q+6));rw [hW10,hc10] at ap op sp;have s510:Step No c5 W5 c10 W10:=s59.trans sp;have hll:hs4.length=4:=rfl;obtain ⟨g,off,cap,hxa,hcap,hcm⟩:=h2.sl.some (show 0<(hs4.map fun _=>Value.slice va 1 vn).length by rw [List.length_map];decide)
  have hBI:BI q rb ab (mb+1) mb pb va vn c10 W10 0 (.slice none 0 0):=by
   injection hxa with e1 e2 e3;subst e1 e3;refine ⟨⟨H,B,.slice none 0 0,[],hH,hB,by rw [hBD];exact ab9.kn sp,Own.nil _ _ _ _ _ _,rfl⟩,am9.kn sp,⟨zap,rfl,ap⟩,⟨[],⟨rfl,by simp⟩,Own.nil _ _ _ _ _ _⟩,sv5.kn s510,⟨g,off,xn,h1.kn s510,h2.sl.kn s510⟩,?_⟩;rw [show recC (.slice va 1 vn)=R from HR.out.1];exact a5.kn s510
  have hD10:W10.heap[D]? = some (.deferred (some [])):=by
   have hlt:D<W5.heap.size:=(Array.getElem?_eq_some_iff.1 hD).1;exact (s510.block D hlt jI).trans hD
  have hDc10:c10 D=kl:=by
   have hlt:D<W5.heap.size:=(Array.getElem?_eq_some_iff.1 hD).1;exact (s510.col D hlt jI).trans hDc
  have XM:=jh6 hBI hD10 hDc10 (st5.trans s510.ofNo) op hqc;clear XD h1 h2 ho hD hDs hDc a5 sv5 st5 am sm ab9 ob9 sb9 hH hB hBD hqc s59 am9 hc9 hc10 ap op sp s510 hBI hD10 hDc10 hW9 hbd M1 ld5 hRe;refine wp_loop_once ?_;go_wp2_with (refine zaa rfl (some 14) rfl 51 rfl zero_hashZ ?_)
  (try rw [hW10])
  (try rw [hpb])
  obtain ⟨hBI,hD10,hDc10,st10,op,hqc⟩:=XM.out;have HB:=jh4 hBI hD10 hDc10 op;have HQ:=jh2 st10 hqc;clear XM hBI hD10 hDc10 st10 op hqc hpb hW10 hll y6;go_loopw [13,15] (fun out hv wr=>∃(j:Nat) (cr:Col),j≤3∧hv=.int .i64 (j+1:Nat)∧BI q rb ab (mb+1) mb pb va vn cr wr j out∧wr.heap[D]? = some (.deferred (some []))∧cr D=kl∧Step (fun i=>q+3<i∧i<q+20) c10 W10 cr wr∧Ok cr wr) (fun _ hv _=>4-(intOf hv).toNat)
  case atStart=>exact ⟨0,c10,by omega,rfl,HB.out.1,HB.out.2.1,HB.out.2.2.1,Step.refl,HB.out.2.2.2⟩
  case round=>
   obtain ⟨j,cr,hj,rfl,hBI,hDr,hDc,st,ok⟩:=hrel;have yr:=hBI.rcp.get (i:=1) rfl;by_cases h3:j=3
   ·subst h3
    obtain ⟨⟨H3,U3,sv,sl,hH3,hU3,D3,OS3,_⟩,_,_,⟨L,hL,OL⟩,_,_,_⟩:=hBI;have KK:(fun W:World=>W.cell? ⟨mb+1,307,none⟩=some sv) wr.drew:=(bd_blo hH3 hU3 (D3.kn (Step.rf.drewN 1))).2;have XE:=jh6 hL OL st ok hDr hDc;clear hL OL st ok hDr hDc D3 OS3 hH3 hU3 hj;go_wp2_with fail;refine wp_region_noPanic ?_;refine zac (fun W=>W.cell? ⟨mb+1,307,none⟩=some sv) (fun _=>true) (by kernel_rfl) ?_;refine tk1 0 _ 106 rfl rfl KK ?_;refine tk1 1 _ 107 rfl rfl KK ?_;refine tk1 2 _ 108 rfl rfl KK ?_;refine tk1 3 _ 109 rfl rfl KK ?_;refine tk1 4 _ 110 rfl rfl KK ?_;refine zab.one (i:=5) (by kernel_rfl) rfl (fun KQ hK=>?_);go_simp;refine hK.out _ _ (fun _=>KK) ?_;clear hK KQ
    (try simp only [jS])
    refine zab.one (i:=6) (by kernel_rfl) rfl (fun KQ hK=>?_);go_simp;refine hK.out _ _ (fun _=>KK) ?_;clear hK KQ
    (try simp only [jS])
    refine zab.one (i:=7) (by kernel_rfl) rfl (fun KQ hK=>?_);go_simp;refine hK.out _ _ (fun _=>KK) ?_;clear hK KQ
    (try simp only [jS])
    refine zab.done (by kernel_rfl) (zaU ?_) _;go_wp2_with fail;obtain ⟨hL,OL,st,ok,hDr,hDc⟩:=XE.out;have q2:Step (One kl) cr wr cr (wr.drew.putObj D (.deferred none)):=((Step.refl (K:=One kl)).drewN 1).putObj (.inr hDc) _;have q4:Ok cr (wr.drew.putObj D (.deferred none)):=(ok.drewN 1).putObj _ (fun a ha=>frozen_def a ha);have OL2:=OL.keep q2 (show ¬q+7=kl by omega) (show ¬0=kl by omega);have sl2:=(OL2.turn (k:=0) (show 0≠q+7 by omega)).sl;have stF:Step (fun i=>q<i) c w (cr.turn (q+7) 0) (wr.drew.putObj D (.deferred none)):=((HQ.out.1.trans (st.mono fun i h=>by omega)).trans (q2.mono fun i (h:i=kl)=>by omega)).turn (show q<q+7 by omega);refine leaveM hDr rfl (v:=.tuple #[u13,sv,.int .i64 0]) (by simp [results,Tryz.results39,go_sem]) ⟨_,_,rfl,cr.turn (q+7) 0,L,hL,sl2,stF.drop fun b _ h=>by have:=HQ.out.2 b;omega,q4.turn (by omega)⟩
   ·obtain ⟨n,hn⟩:=jE (j+1)
    obtain ⟨⟨H,B,sv,sl,hH,hB,D,OS,hsl⟩,AW,⟨prev,hp,AP⟩,⟨L,hL,OL⟩,VS,⟨g,off,gn,AA,RA⟩,AR⟩:=hBI;have hnI:1≤(n:Int)∧(n:Int)≤3:=by omega
    have KN:∀{c2:Col} {w2:World},Step (Two (q+4) (q+5)) cr wr c2 w2→(fun W:World=>(Instr.loadAt 51 (.pointer (some ⟨pb,0,none⟩))).run prog W=.ok (.agg (bC prev).toArray) W∧W.cell? ⟨ab,0,none⟩=some (.slice (some ⟨g,off,none⟩) 4 gn)∧W.cell? ⟨g,off+j,none⟩=some (.slice va 1 vn)∧W.cell? ⟨g,off+n,none⟩=some (.slice va 1 vn)) w2:=fun h2=>by
     have n1:¬Two (q+4) (q+5) (q+6):=by rintro (h | h) <;> omega
     have n2:¬Two (q+4) (q+5) (q+1):=by rintro (h | h) <;> omega
     have n3:¬Two (q+4) (q+5) (q+3):=by rintro (h | h) <;> omega
     have n0:¬Two (q+4) (q+5) 0:=by rintro (h | h) <;> omega
     have RA2:=RA.keep h2 n3 n0;refine ⟨(AP.keep h2 n1).ld (ty:=51) underlying51 rfl (by rw [zai,zaf,hp]),(AA.keep h2 n2).c0,?_,?_⟩
     ·exact row4 RA2 (by omega)
     ·exact row4 RA2 (by omega)
    have stt:Step (Two (q+4) (q+5)) cr wr cr wr.drew:=(Step.refl (K:=Two (q+4) (q+5))).drewN 1;have KK:=KN stt;have hw1:IntKind.i64.wrap ((n:Int)-1)=(j:Int):=by rw [IntWalk.i64_in _ (by omega)];omega
    have hj4:(j:Int)<4:=by omega
    have hn4:(n:Int)<4:=by omega
    have hj0:(0:Int)≤(j:Int):=by omega
    have hn0:(0:Int)≤(n:Int):=by omega
    have hle3:(n:Int)≤3:=hnI.2;have sd:Step No cr wr cr wr.drew:=Step.rf.drewN 1;have XR:=jh18 ok D OS AW VS AP hL OL AA RA AR hDr hDc st hH hB hsl hp;have HN:=jh3 hn hj h3;obtain ⟨ZB,hZB,zB⟩:=zaW;rw [hn];clear ok D OS AW VS AP hL OL AA RA AR hDr hDc st hH hB hsl hp hn hj h3 hnI;obtain ⟨ok,D,OS,AW,VS,_,_,_,_,_,_,_,_,_,hH,hB,hsl,hp⟩:=XR.out;have hnI:1≤(n:Int)∧(n:Int)≤3:=by have:=HN.out;omega
    have hjn:j+1=n:=HN.out.1;have D:=D.kn sd;have OS:=OS.kn sd;have AW:=AW.kn sd;have VS:=VS.kn sd;have ok:Ok cr wr.drew:=ok.drewN 1;obtain ⟨oa,hoa⟩:∃oa:Option Nat,oa=none:=⟨_,rfl⟩;have HA:∀xb,oa=some xb→At cr wr.drew xb (q+8) ZB:=fun xb h=>by rw [hoa] at h;cases h
    have hk4:q+4≠0:=by omega
    have hk5:q+5≠0:=by omega
    have hk45:q+5≠q+4:=by omega
    have n48:¬q+8=q+4:=by omega
    have n45:¬q+5=q+4:=by omega
    have n04:¬0=q+4:=by omega
    have t8:¬Two (q+4) (q+5) (q+8):=by rintro (h | h) <;> omega
    have t0:¬Two (q+4) (q+5) 0:=by rintro (h | h) <;> omega
    have PK:=jh6 hH hB hsl hp hnI hjn;clear hoa hH hB hsl hp hnI hjn sd;go_wp2_with fail;refine wp_region_noPanic ?_;refine zac (fun W=>(Instr.loadAt 51 (.pointer (some ⟨pb,0,none⟩))).run prog W=.ok (.agg (bC prev).toArray) W∧W.cell? ⟨ab,0,none⟩=some (.slice (some ⟨g,off,none⟩) 4 gn)∧W.cell? ⟨g,off+j,none⟩=some (.slice va 1 vn)∧W.cell? ⟨g,off+n,none⟩=some (.slice va 1 vn)) (fun i=>!([19]:List Nat).contains i) (by kernel_rfl) ?_;refine tk4 0 _ 81 rfl rfl KK ?_;refine tk4 1 _ 82 rfl rfl KK ?_;refine tk 2 _ 83 rfl rfl (Or.inl ⟨by rfl,fun W hW=>by obtain ⟨q0,q1,q2,q3⟩:=hW;exact zaT 51 q0 (.tmp 14) rfl rfl⟩) KK ?_;refine tk4 4 _ 85 rfl rfl KK ?_;refine tk4 5 _ 86 rfl rfl KK ?_;refine tk4 6 _ 87 rfl rfl KK ?_;refine tk4 7 _ 88 rfl rfl KK ?_;refine tk4 8 _ 89 rfl rfl KK ?_;refine tk4 9 _ 90 rfl rfl KK ?_;refine tk4 10 _ 91 rfl rfl KK ?_;refine tk4 11 _ 92 rfl rfl KK ?_;refine tk4 12 _ 93 rfl rfl KK ?_;refine zab.forkE (m:=1) (doneF:=#[true,true,true,true,true,true,true,true,true,true,true,true,true,true,true,true,true,true,true,false]) (fun (x:Nat×Blo×Value×Value)=>[(84,.pointer (some ⟨mb+1,0,none⟩)),(94,.pointer (some ⟨mb+1,0,none⟩)),(95,.pointer (some ⟨mb+1,0,none⟩)),(96,.pointer (some ⟨mb+1,0,none⟩)),(97,.pointer (some ⟨mb+1,141,none⟩)),(98,.agg (zau x.2.1 x.2.2.1 x.2.2.2).toArray),(16,.pointer (some ⟨x.1,0,none⟩))]) (fun (x:Nat×Blo×Value×Value)=>fun W=>∃c' H sv sl,H.length=131∧Fit (n:Int) x.2.1∧x.2.1.At c' 0 W x.2.2.1 x.2.2.2∧At c' W (mb+1) (q+4) (bdC (.slice va 1 vn) (.map (some mb)) H (zau x.2.1 x.2.2.1 x.2.2.2) sv)∧Own TSig 202 c' (q+5) 0 W sv sl∧sl.length=n∧At c' W x.1 (q+8) ZB∧Step (Two (q+4) (q+5)) cr wr c' W∧Ok c' W) (fun REST=>?_) (fun x W2 hR=>?_)
    ·(try simp only [List.foldl_cons,List.foldl_nil,Act.put,List.setIfInBounds_toArray,List.set_cons_zero,List.set_cons_succ] at REST)
     refine zab.fork2 (i:=3) (j:=18) (by kernel_rfl) rfl rfl (fun KQ hK=>?_) (fun KQ hK=>?_)
     ·go_simp
      refine (at_built ok hk4 PK.out.1 D (n:Int) PK.out.2.2.2.2.1 prev PK.out.2.2.2.1).mono ?_;rintro e w2 ⟨rfl,c2,D,s2,ok⟩;have OS:=OS.keep s2 n45 n04;have AW:=AW.keep s2 n04;have VS:=VS.keep s2 n04 n04;have HA:=fun xb h=>(HA xb h).keep s2 n48;have stt:=stt.trans (s2.mono fun _ h=>.inl h);go_simp;refine hK.out _ _ (fun _=>KN stt) ?_;clear hK KQ
      (try simp only [List.foldl_cons,List.foldl_nil,Act.put,List.setIfInBounds_toArray,List.set_cons_zero,List.set_cons_succ])
      refine zab.fork2 (i:=13) (j:=18) (by kernel_rfl) rfl rfl (fun KQ hK=>?_) (fun KQ hK=>?_)
      ·go_simp
       refine (of_built ok hk4 PK.out.2.1 PK.out.2.2.2.2.1 PK.out.2.2.2.1 D l1_ok VS VS).mono ?_;rintro e w3 ⟨rfl,z,x,y,bv,c3,hz,hx,hy,D,BA,s3,ok⟩;have OS:=OS.keep s3 n45 n04;have AW:=AW.keep s3 n04;have VS:=VS.keep s3 n04 n04;have HA:=fun xb h=>(HA xb h).keep s3 n48;have stt:=stt.trans (s3.mono fun _ h=>.inl h);go_simp;refine hK.out _ _ (fun _=>KN stt) ?_;clear hK KQ
       (try simp only [List.foldl_cons,List.foldl_nil,Act.put,List.setIfInBounds_toArray,List.set_cons_zero,List.set_cons_succ])
       refine zab.fork2 (i:=14) (j:=18) (by kernel_rfl) rfl rfl (fun KQ hK=>?_) (fun KQ hK=>?_)
       ·go_simp
        refine (signed_built ok hk4 hk5 hk45 PK.out.2.2.2.2.1 PK.out.2.2.2.1 hz D BA AW OS (by rw [PK.out.2.2.1];have:=PK.out.2.2.2.2.2;omega)).mono ?_;rintro e w4 ⟨rfl,vc,sv2,sl2,c4,hsl2,D,B3,OS,s4,ok⟩;have HA:=fun xb h=>(HA xb h).keep s4 t8;have AW:=AW.keep s4 t0;have VS:=VS.keep s4 t0 t0;have stt:=stt.trans s4;have CB:=(bd_blo (zaj (zbe PK.out.2.2.2.2.1 PK.out.2.2.2.1 hz)) (zal B3.h B3.hash vc bv) D).1;have hiB:(prog.info? 59).map (·.size)=some (zau (blo3 (n:Int) prev z x y) vc bv).length:=by rw [zah,zal B3.h B3.hash]
        go_simp;refine hK.out _ _ (fun _=>KN stt) ?_;clear hK KQ
        (try simp only [List.foldl_cons,List.foldl_nil,Act.put,List.setIfInBounds_toArray,List.set_cons_zero,List.set_cons_succ])
        refine tk4 15 _ 96 rfl rfl (KN stt) ?_;refine tk4 16 _ 97 rfl rfl (KN stt) ?_;refine zab.fork2 (i:=17) (j:=18) (by kernel_rfl) rfl rfl (fun KQ hK=>?_) (fun KQ hK=>?_)
        ·skip
         refine step_load rfl (dd:=some 98) rfl 59 (.tmp 97) rfl (mb+1) 141 rfl _ _ CB underlying59 rfl hiB ?_;refine hK.out _ _ (fun _=>KN stt) ?_;clear hK KQ
         (try simp only [List.foldl_cons,List.foldl_nil,Act.put,List.setIfInBounds_toArray,List.set_cons_zero,List.set_cons_succ])
         refine zab.one (i:=18) (by kernel_rfl) rfl (fun KQ hK=>?_);obtain ⟨nb,cN,hnb,HA,ok,sN⟩:=newAtS ok ZB 59 (q+8);have D:=D.kn sN;have OS:=OS.kn sN;have AW:=AW.kn sN;have VS:=VS.kn sN
         try have BA:=BA.kn sN
         try have B3:=B3.kn sN
         try have CB:=(bd_blo (zaj (zbe PK.out.2.2.2.2.1 PK.out.2.2.2.1 hz)) (zal B3.h B3.hash vc bv) D).1
         have stt:=stt.trans sN.ofNo;refine zbz rfl (dd:=some 16) rfl 59 rfl zB ?_;rw [←hnb];clear hnb;refine hK.out _ _ (fun _=>KN stt) ?_;clear hK KQ
         (try simp only [List.foldl_cons,List.foldl_nil,Act.put,List.setIfInBounds_toArray,List.set_cons_zero,List.set_cons_succ])
         exact (REST ((nb,blo3 (n:Int) prev z x y,vc,bv)) _ (⟨_,_,sv2,sl2,zaj (zbe PK.out.2.2.2.2.1 PK.out.2.2.2.1 hz),⟨prev,z,x,y,PK.out.2.2.2.1,hz,hx,hy,rfl⟩,B3,D,OS,hsl2.trans (by rw [PK.out.2.2.1];exact PK.out.2.2.2.2.2),HA nb rfl,stt,ok⟩)).cast (by kernel_rfl)
        ·skip
         obtain ⟨nb,cN,hnb,HA,ok,sN⟩:=newAtS ok ZB 59 (q+8);have D:=D.kn sN;have OS:=OS.kn sN;have AW:=AW.kn sN;have VS:=VS.kn sN
         try have BA:=BA.kn sN
         try have B3:=B3.kn sN
         try have CB:=(bd_blo (zaj (zbe PK.out.2.2.2.2.1 PK.out.2.2.2.1 hz)) (zal B3.h B3.hash vc bv) D).1
         have stt:=stt.trans sN.ofNo;refine zbz rfl (dd:=some 16) rfl 59 rfl zB ?_;rw [←hnb];clear hnb;refine hK.out _ _ (fun _=>KN stt) ?_;clear hK KQ
         (try simp only [List.foldl_cons,List.foldl_nil,Act.put,List.setIfInBounds_toArray,List.set_cons_zero,List.set_cons_succ])
         refine zab.one (i:=17) (by kernel_rfl) rfl (fun KQ hK=>?_);refine step_load rfl (dd:=some 98) rfl 59 (.tmp 97) rfl (mb+1) 141 rfl _ _ CB underlying59 rfl hiB ?_;refine hK.out _ _ (fun _=>KN stt) ?_;clear hK KQ
         (try simp only [List.foldl_cons,List.foldl_nil,Act.put,List.setIfInBounds_toArray,List.set_cons_zero,List.set_cons_succ])
         exact (REST ((nb,blo3 (n:Int) prev z x y,vc,bv)) _ (⟨_,_,sv2,sl2,zaj (zbe PK.out.2.2.2.2.1 PK.out.2.2.2.1 hz),⟨prev,z,x,y,PK.out.2.2.2.1,hz,hx,hy,rfl⟩,B3,D,OS,hsl2.trans (by rw [PK.out.2.2.1];exact PK.out.2.2.2.2.2),HA nb rfl,stt,ok⟩)).cast (by kernel_rfl)
       ·skip
        obtain ⟨nb,cN,hnb,HA,ok,sN⟩:=newAtS ok ZB 59 (q+8);have D:=D.kn sN;have OS:=OS.kn sN;have AW:=AW.kn sN;have VS:=VS.kn sN
        try have BA:=BA.kn sN
        try have B3:=B3.kn sN
        try have CB:=(bd_blo (zaj (zbe PK.out.2.2.2.2.1 PK.out.2.2.2.1 hz)) (zal B3.h B3.hash vc bv) D).1
        have stt:=stt.trans sN.ofNo;refine zbz rfl (dd:=some 16) rfl 59 rfl zB ?_;rw [←hnb];clear hnb;refine hK.out _ _ (fun _=>KN stt) ?_;clear hK KQ
        (try simp only [List.foldl_cons,List.foldl_nil,Act.put,List.setIfInBounds_toArray,List.set_cons_zero,List.set_cons_succ])
        refine zab.one (i:=14) (by kernel_rfl) rfl (fun KQ hK=>?_);go_simp;refine (signed_built ok hk4 hk5 hk45 PK.out.2.2.2.2.1 PK.out.2.2.2.1 hz D BA AW OS (by rw [PK.out.2.2.1];have:=PK.out.2.2.2.2.2;omega)).mono ?_;rintro e w4 ⟨rfl,vc,sv2,sl2,c4,hsl2,D,B3,OS,s4,ok⟩;have HA:=fun xb h=>(HA xb h).keep s4 t8;have AW:=AW.keep s4 t0;have VS:=VS.keep s4 t0 t0;have stt:=stt.trans s4;have CB:=(bd_blo (zaj (zbe PK.out.2.2.2.2.1 PK.out.2.2.2.1 hz)) (zal B3.h B3.hash vc bv) D).1;have hiB:(prog.info? 59).map (·.size)=some (zau (blo3 (n:Int) prev z x y) vc bv).length:=by rw [zah,zal B3.h B3.hash]
        go_simp;refine hK.out _ _ (fun _=>KN stt) ?_;clear hK KQ
        (try simp only [List.foldl_cons,List.foldl_nil,Act.put,List.setIfInBounds_toArray,List.set_cons_zero,List.set_cons_succ])
        refine tk4 15 _ 96 rfl rfl (KN stt) ?_;refine tk4 16 _ 97 rfl rfl (KN stt) ?_;refine zab.one (i:=17) (by kernel_rfl) rfl (fun KQ hK=>?_);refine step_load rfl (dd:=some 98) rfl 59 (.tmp 97) rfl (mb+1) 141 rfl _ _ CB underlying59 rfl hiB ?_;refine hK.out _ _ (fun _=>KN stt) ?_;clear hK KQ
        (try simp only [List.foldl_cons,List.foldl_nil,Act.put,List.setIfInBounds_toArray,List.set_cons_zero,List.set_cons_succ])
        exact (REST ((nb,blo3 (n:Int) prev z x y,vc,bv)) _ (⟨_,_,sv2,sl2,zaj (zbe PK.out.2.2.2.2.1 PK.out.2.2.2.1 hz),⟨prev,z,x,y,PK.out.2.2.2.1,hz,hx,hy,rfl⟩,B3,D,OS,hsl2.trans (by rw [PK.out.2.2.1];exact PK.out.2.2.2.2.2),HA nb rfl,stt,ok⟩)).cast (by kernel_rfl)
      ·skip
       obtain ⟨nb,cN,hnb,HA,ok,sN⟩:=newAtS ok ZB 59 (q+8);have D:=D.kn sN;have OS:=OS.kn sN;have AW:=AW.kn sN;have VS:=VS.kn sN
       try have BA:=BA.kn sN
       try have B3:=B3.kn sN
       try have CB:=(bd_blo (zaj (zbe PK.out.2.2.2.2.1 PK.out.2.2.2.1 hz)) (zal B3.h B3.hash vc bv) D).1
       have stt:=stt.trans sN.ofNo;refine zbz rfl (dd:=some 16) rfl 59 rfl zB ?_;rw [←hnb];clear hnb;refine hK.out _ _ (fun _=>KN stt) ?_;clear hK KQ
       (try simp only [List.foldl_cons,List.foldl_nil,Act.put,List.setIfInBounds_toArray,List.set_cons_zero,List.set_cons_succ])
       refine zab.one (i:=13) (by kernel_rfl) rfl (fun KQ hK=>?_);go_simp;refine (of_built ok hk4 PK.out.2.1 PK.out.2.2.2.2.1 PK.out.2.2.2.1 D l1_ok VS VS).mono ?_;rintro e w3 ⟨rfl,z,x,y,bv,c3,hz,hx,hy,D,BA,s3,ok⟩;have OS:=OS.keep s3 n45 n04;have AW:=AW.keep s3 n04;have VS:=VS.keep s3 n04 n04;have HA:=fun xb h=>(HA xb h).keep s3 n48;have stt:=stt.trans (s3.mono fun _ h=>.inl h);go_simp;refine hK.out _ _ (fun _=>KN stt) ?_;clear hK KQ
       (try simp only [List.foldl_cons,List.foldl_nil,Act.put,List.setIfInBounds_toArray,List.set_cons_zero,List.set_cons_succ])
       refine zab.one (i:=14) (by kernel_rfl) rfl (fun KQ hK=>?_);go_simp;refine (signed_built ok hk4 hk5 hk45 PK.out.2.2.2.2.1 PK.out.2.2.2.1 hz D BA AW OS (by rw [PK.out.2.2.1];have:=PK.out.2.2.2.2.2;omega)).mono ?_;rintro e w4 ⟨rfl,vc,sv2,sl2,c4,hsl2,D,B3,OS,s4,ok⟩;have HA:=fun xb h=>(HA xb h).keep s4 t8;have AW:=AW.keep s4 t0;have VS:=VS.keep s4 t0 t0;have stt:=stt.trans s4;have CB:=(bd_blo (zaj (zbe PK.out.2.2.2.2.1 PK.out.2.2.2.1 hz)) (zal B3.h B3.hash vc bv) D).1;have hiB:(prog.info? 59).map (·.size)=some (zau (blo3 (n:Int) prev z x y) vc bv).length:=by rw [zah,zal B3.h B3.hash]
       go_simp;refine hK.out _ _ (fun _=>KN stt) ?_;clear hK KQ
       (try simp only [List.foldl_cons,List.foldl_nil,Act.put,List.setIfInBounds_toArray,List.set_cons_zero,List.set_cons_succ])
       refine tk4 15 _ 96 rfl rfl (KN stt) ?_;refine tk4 16 _ 97 rfl rfl (KN stt) ?_;refine zab.one (i:=17) (by kernel_rfl) rfl (fun KQ hK=>?_);refine step_load rfl (dd:=some 98) rfl 59 (.tmp 97) rfl (mb+1) 141 rfl _ _ CB underlying59 rfl hiB ?_;refine hK.out _ _ (fun _=>KN stt) ?_;clear hK KQ
       (try simp only [List.foldl_cons,List.foldl_nil,Act.put,List.setIfInBounds_toArray,List.set_cons_zero,List.set_cons_succ])
       exact (REST ((nb,blo3 (n:Int) prev z x y,vc,bv)) _ (⟨_,_,sv2,sl2,zaj (zbe PK.out.2.2.2.2.1 PK.out.2.2.2.1 hz),⟨prev,z,x,y,PK.out.2.2.2.1,hz,hx,hy,rfl⟩,B3,D,OS,hsl2.trans (by rw [PK.out.2.2.1];exact PK.out.2.2.2.2.2),HA nb rfl,stt,ok⟩)).cast (by kernel_rfl)
     ·skip
      obtain ⟨nb,cN,hnb,HA,ok,sN⟩:=newAtS ok ZB 59 (q+8);have D:=D.kn sN;have OS:=OS.kn sN;have AW:=AW.kn sN;have VS:=VS.kn sN
      try have BA:=BA.kn sN
      try have B3:=B3.kn sN
      try have CB:=(bd_blo (zaj (zbe PK.out.2.2.2.2.1 PK.out.2.2.2.1 hz)) (zal B3.h B3.hash vc bv) D).1
      have stt:=stt.trans sN.ofNo;refine zbz rfl (dd:=some 16) rfl 59 rfl zB ?_;rw [←hnb];clear hnb;refine hK.out _ _ (fun _=>KN stt) ?_;clear hK KQ
      (try simp only [List.foldl_cons,List.foldl_nil,Act.put,List.setIfInBounds_toArray,List.set_cons_zero,List.set_cons_succ])
      refine zab.one (i:=3) (by kernel_rfl) rfl (fun KQ hK=>?_);go_simp;refine (at_built ok hk4 PK.out.1 D (n:Int) PK.out.2.2.2.2.1 prev PK.out.2.2.2.1).mono ?_;rintro e w2 ⟨rfl,c2,D,s2,ok⟩;have OS:=OS.keep s2 n45 n04;have AW:=AW.keep s2 n04;have VS:=VS.keep s2 n04 n04;have HA:=fun xb h=>(HA xb h).keep s2 n48;have stt:=stt.trans (s2.mono fun _ h=>.inl h);go_simp;refine hK.out _ _ (fun _=>KN stt) ?_;clear hK KQ
      (try simp only [List.foldl_cons,List.foldl_nil,Act.put,List.setIfInBounds_toArray,List.set_cons_zero,List.set_cons_succ])
      refine zab.one (i:=13) (by kernel_rfl) rfl (fun KQ hK=>?_);go_simp;refine (of_built ok hk4 PK.out.2.1 PK.out.2.2.2.2.1 PK.out.2.2.2.1 D l1_ok VS VS).mono ?_;rintro e w3 ⟨rfl,z,x,y,bv,c3,hz,hx,hy,D,BA,s3,ok⟩;have OS:=OS.keep s3 n45 n04;have AW:=AW.keep s3 n04;have VS:=VS.keep s3 n04 n04;have HA:=fun xb h=>(HA xb h).keep s3 n48;have stt:=stt.trans (s3.mono fun _ h=>.inl h);go_simp;refine hK.out _ _ (fun _=>KN stt) ?_;clear hK KQ
      (try simp only [List.foldl_cons,List.foldl_nil,Act.put,List.setIfInBounds_toArray,List.set_cons_zero,List.set_cons_succ])
      refine zab.one (i:=14) (by kernel_rfl) rfl (fun KQ hK=>?_);go_simp;refine (signed_built ok hk4 hk5 hk45 PK.out.2.2.2.2.1 PK.out.2.2.2.1 hz D BA AW OS (by rw [PK.out.2.2.1];have:=PK.out.2.2.2.2.2;omega)).mono ?_;rintro e w4 ⟨rfl,vc,sv2,sl2,c4,hsl2,D,B3,OS,s4,ok⟩;have HA:=fun xb h=>(HA xb h).keep s4 t8;have AW:=AW.keep s4 t0;have VS:=VS.keep s4 t0 t0;have stt:=stt.trans s4;have CB:=(bd_blo (zaj (zbe PK.out.2.2.2.2.1 PK.out.2.2.2.1 hz)) (zal B3.h B3.hash vc bv) D).1;have hiB:(prog.info? 59).map (·.size)=some (zau (blo3 (n:Int) prev z x y) vc bv).length:=by rw [zah,zal B3.h B3.hash]
      go_simp;refine hK.out _ _ (fun _=>KN stt) ?_;clear hK KQ
      (try simp only [List.foldl_cons,List.foldl_nil,Act.put,List.setIfInBounds_toArray,List.set_cons_zero,List.set_cons_succ])
      refine tk4 15 _ 96 rfl rfl (KN stt) ?_;refine tk4 16 _ 97 rfl rfl (KN stt) ?_;refine zab.one (i:=17) (by kernel_rfl) rfl (fun KQ hK=>?_);refine step_load rfl (dd:=some 98) rfl 59 (.tmp 97) rfl (mb+1) 141 rfl _ _ CB underlying59 rfl hiB ?_;refine hK.out _ _ (fun _=>KN stt) ?_;clear hK KQ
      (try simp only [List.foldl_cons,List.foldl_nil,Act.put,List.setIfInBounds_toArray,List.set_cons_zero,List.set_cons_succ])
      exact (REST ((nb,blo3 (n:Int) prev z x y,vc,bv)) _ (⟨_,_,sv2,sl2,zaj (zbe PK.out.2.2.2.2.1 PK.out.2.2.2.1 hz),⟨prev,z,x,y,PK.out.2.2.2.1,hz,hx,hy,rfl⟩,B3,D,OS,hsl2.trans (by rw [PK.out.2.2.1];exact PK.out.2.2.2.2.2),HA nb rfl,stt,ok⟩)).cast (by kernel_rfl)
    (try simp only [List.foldl_cons,List.foldl_nil,Act.put,List.setIfInBounds_toArray,List.set_cons_zero,List.set_cons_succ])
    obtain ⟨xb,b,vc,bv⟩:=x;dsimp only at hR ⊢;obtain ⟨c5,H5,sv5,sl5,hH5,hF5,B5,D5,OS5,hsl5,AX,stt5,ok5⟩:=hR;have KK:=KN stt5;have hl:=zal B5.h B5.hash vc bv;have h1:=zaF B5;obtain ⟨U,hU⟩:=jE (zau b vc bv);rw [hU] at hl h1 D5 ⊢;have hq8:q+8≠0:=by omega
    have hi0:(prog.info? 59).map (·.size)=some U.length:=by rw [zah,hl]
    have hi1:(prog.info? 59).map (·.size)=some U.toArray.size:=by rw [zah];simp [hl]
    have ht0:=AX.there (o:=0) (n:=U.toArray.size) ok5 hq8 (by simp [hl,hZB]);obtain ⟨_,a6⟩:=AX.st ok5 hq8 (ty:=59) (us:=U) (by rw [hl,hZB]) hi0 h1;have s6:Step (One (q+8)) c5 W2 c5 (W2.setCells xb 0 U):=Step.setCells (K:=One (q+8)) (.inr AX.col) _ _ _ Step.refl;have ok6:=Ok.setCells (b:=xb) U 0 _ ok5;have TS:=jh3 ht0 hi1 (all_oneCell_toArray h1);have X6:=jh13 hH5 hF5 (B5.keep s6 (show ¬0=q+8 by omega)) (D5.keep s6 (show ¬q+4=q+8 by omega)) (OS5.keep s6 (show ¬q+5=q+8 by omega) (show ¬0=q+8 by omega)) hsl5 a6 hi0 hU ok6 stt5 s6 hl;clear hH5 hF5 B5 D5 OS5 hsl5 AX stt5 ok5 hl h1 hU hi0 hi1 ht0 a6 s6 ok6;refine zab.one (i:=19) (by kernel_rfl) rfl (fun KQ hK=>?_);refine zar rfl 59 _ _ rfl xb 0 U.toArray rfl rfl TS.out.1 TS.out.2.1 TS.out.2.2 ?_;simp only [List.toList_toArray];refine hK.out _ _ (fun h=>absurd h (by decide)) ?_;clear hK KQ
    (try simp only [jS])
    refine zab.done (by kernel_rfl) (zaU ?_) _;obtain ⟨W6,hW6⟩:=jE (W2.setCells xb 0 U);rw [hW6] at X6 ⊢;obtain ⟨hH6,hF6,B6,D6,OS6,hsl6,a6,hi6,hU6,ok6,stt6,s6,hl6⟩:=X6.out;obtain ⟨_,_,_,AW0,VS0,AP0,hL0,OL0,AA0,RA0,AR0,hDr0,hDc0,st0,_,_,_,_⟩:=XR.out;have sW:Step (fun i=>i=q+4∨i=q+5∨i=q+8) cr wr c5 W6:=(stt6.mono fun i h=>by rcases h with h | h;exact .inl h;exact .inr (.inl h)).trans (s6.mono fun i (h:i=q+8)=>.inr (.inr h));have OL6:=OL0.keep sW (by omega) (by omega);obtain ⟨x1,x2,x3⟩:=zbE (T:=TBlo) (x:=b) (vs:=U) (k2:=0) ok6 ⟨vc,bv,hU6.symm,B6⟩ 59;have OL7:=OL6.kn x3;obtain ⟨oa,on,hout,_⟩:=OL0.sl.form;subst hout;obtain ⟨zz,bz,i1,i2,i3⟩:=infoBlk;have hLl:L.length=j:=hL0.1;have hjn2:j≤3:=HN.out.2.1;have hq07:0≠q+7:=by omega
    have hm1:L.length + [b].length≤maxLen:=by simp [maxLen];omega
    have hm2:(L.length + [b].length)*bz≤140737488355328:=by
     have:(L.length + [b].length)*bz≤4*1000:=Nat.mul_le_mul (by simp;omega) i3;omega
    have isz:(prog.info? 59).map (·.size)=some 166:=zah;have izz:((prog.info? 59).bind (·.zero)).isSome=true:=by kernel_rfl
    have HLl:=jh1 hLl;clear hLl;have X7:=jh20 hH6 hF6 B6 D6 OS6 hsl6 a6 x3 sW AW0 VS0 AP0 hL0 AA0 RA0 AR0 hDr0 hDc0 st0 hU6;have TL:=jh5 a6.cells hi6 isz izz hl6;clear hH6 hF6 B6 D6 OS6 hsl6 AW0 VS0 AP0 hL0 AA0 RA0 AR0 hDr0 hDc0 st0 x3 sW a6 hi6 hl6 isz izz X6 XR OL0 OL6 KN hU6 ok6 stt6 s6 hW6;go_wp2_with (first | (refine wpList_load_mid rfl 59 _ rfl xb 0 rfl U _ TL.out.1 underlying59 rfl TL.out.2.1 ?_) | (refine wpList_bs1 rfl (some 101) rfl 22 59 (.tmp 100) rfl underlying22 TL.out.2.2.1 TL.out.2.2.2.1 TL.out.2.2.2.2 (by decide) (by decide) rfl ?_) | (at_builtin;refine zaq TBlo (z:=zz) (bytes:=bz) x1 rfl _ _ 22 rfl 59 underlying22 i1 i2 (by decide) rfl rfl OL7 x2 hq07 hm1 hm2 ?_;rintro v7 w7 c7 b1 b2 b3 -;obtain ⟨va7,vc7,rfl,_⟩:=b1.sl.form;obtain ⟨hH6,hF6,B6,D6,OS6,hsl6,a6,x3,sW,AW0,VS0,AP0,hL0,AA0,RA0,AR0,hDr0,hDc0,st0,hU6⟩:=X7.out;have a7:=(a6.kn x3).keep b2 (show ¬q+8=q+7 by omega);have B7:=(B6.kn x3).keep b2 (show ¬0=q+7 by omega);have AP7:=((AP0.keep sW (by omega)).kn x3).keep b2 (show ¬q+6=q+7 by omega);have HC:=a7.cells;rw [←hU6] at HC;have HC:=hash_at HC B7;have HS:=hst b3 AP7 PK.out.2.2.2.1 (show q+6≠0 by omega) B7.hash;have hh32:=B7.hash;obtain ⟨HB,hHB⟩:=jE b.cm.hash;rw [hHB] at HC HS hh32;have X8:=jh8 HC HS b1 b2 b3 B7 hh32 (show (prog.info? 51).map (·.size)=some (bC HB).length by rw [zai,zaf,hh32]);clear b1 b2 b3 hH6 hF6 B6 D6 OS6 hsl6 a6 x3 sW AW0 VS0 AP0 hL0 AA0 RA0 AR0 hDr0 hDc0 st0 hU6 a7 B7 AP7 HC HS hh32 hHB) | (refine wpList_load_mid rfl 51 _ rfl xb 132 rfl (bC HB) _ X8.out.1 underlying51 rfl X8.out.2.2.2.2.2.2.2 ?_) | (refine wpList_store_mid rfl 51 _ _ rfl pb 0 (bC HB).toArray rfl rfl X8.out.2.1.1.1 X8.out.2.1.1.2.1 X8.out.2.1.1.2.2 ?_));obtain ⟨hH6,hF6,B6,D6,OS6,hsl6,a6,x3,sW,AW0,VS0,AP0,hL0,AA0,RA0,AR0,hDr0,hDc0,st0,hU6⟩:=X7.out;obtain ⟨_,⟨_,⟨a8,_⟩,s8,o8⟩,b1,b2,b3,B7,hh32,_⟩:=X8.out;have sAll:Step (fun i=>q+3<i∧i<q+20) cr wr c7 (w7.setCells pb 0 (bC HB)):=(((sW.mono fun i h=>by rcases h with h | h | h <;> omega).trans x3.ofNo).trans (b2.mono fun i (h:i=q+7)=>by omega)).trans (s8.mono fun i (h:i=q+6)=>by omega);have sT:Step (Two (q+7) (q+6)) c5 W6 c7 (w7.setCells pb 0 (bC HB)):=(x3.ofNo.trans (b2.mono fun i h=>.inl h)).trans (s8.mono fun i h=>.inr h);have hlt:_<wr.heap.size:=(Array.getElem?_eq_some_iff.1 hDr0).1;have hLn:(L++[b]).length=L.length+1:=by simp
    have hUl:=TL.out.2.2.2.2;have hjn:=HN.out.1;refine ⟨⟨n,c7,by have:=PK.out.2.2.2.2.1;omega,by first | rfl | (congr 1),?_,?_,?_,st0.trans sAll,o8⟩,?_⟩
    ·refine ⟨⟨H5,U,sv5,sl5,hH6,hUl,D6.keep sT (by rintro (h | h) <;> omega),OS6.keep sT (by rintro (h | h) <;> omega) (by rintro (h | h) <;> omega),hsl6⟩,AW0.keep sAll (by omega),⟨HB,hh32,a8⟩,⟨L++[b],hL0.snoc hjn hF6,?_⟩,VS0.keep sAll (by omega) (by omega),⟨g,off,gn,AA0.keep sAll (by omega),RA0.keep sAll (by omega) (by omega)⟩,AR0.keep sAll (by omega)⟩
     rw [←hLn];exact b1.keep s8 (show ¬q+7=q+6 by omega) (show ¬0=q+6 by omega)
    ·exact (sAll.block _ hlt (by rw [hDc0];omega)).trans hDr0
    ·exact (sAll.col _ hlt (by rw [hDc0];omega)).trans hDc0
    ·simp [intOf];omega
 case stop=>
  rintro _ _ _ _ _ _ h;exact h.elim
end
