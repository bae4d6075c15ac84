/- ServerReplies, part 15: lemmas, each with its own conditions. -/
import Derived.Test.YtgcobbapaaihiaaGreatSz13
import Derived.Test.YtgcobbapaaihiaaGreatSz14
set_option linter.all false
set_option maxHeartbeats 12800000
set_option maxRecDepth 100000
open Go.Proofs.Tryz
namespace Go.Proofs.YtgcobbapaaihiaaGreat
open Go.RowKit
def zeroAC:List Value:=.int .i64 0::zby
def msgA (kind id h:Int):List Value:=.int .i64 kind::.int .i64 id::.int .i64 h::zeroAC
theorem zeroM_zero:zaE prog 72 (msgA 0 0 0):=by unfold zaE;kernel_rfl
theorem zaO:(prog.info? 72).map (·.size)=some 170:=by kernel_rfl
section
variable {P:Program}
theorem step_load {ops:Array Oper}{o:Oper}{a:Act}{w:World}{K:Act→World→Prop}{Q:Exit→Act→World→Prop}{E:Prop}(hgd:o.guard=none) {dd:Option Tmp}(hdd:o.dst=dd) (ty:TypeId) (x:Operand) (ho:o.op=.load ty x)
  (b off:Nat) (hx:a.eval x=.pointer (some ⟨b,off,none⟩)) (cs:List Value) (d:TypeDesc) (hc:w.rangeAt b off cs)
  (hu:P.underlying ty=some d) (hd:d.isRow=true) (hi:(P.info? ty).map (·.size)=some cs.length)
  (h:K (a.put dd (.agg cs.toArray)) w):if Region.wanted o (yielded ops a.tmps)=true then Oper.wp P o a w K Q else E:=by
 subst hdd;rw [if_pos (by simp [Region.wanted,hgd])];exact wp_load_mid ty x ho b off hx cs d hc hu hd hi h
end
theorem zak {fn:Func}{p q:Tmp}{ty ty2:TypeId}(h:fn.results=#[.cell p ty,.cell q ty2]) (tmps:Array Value) (W:World) (b b2:Nat) (cs cs2:List Value) (d d2:TypeDesc) (hp:tmps[p]? = some (.pointer (some ⟨b,0,none⟩))) (hq:tmps[q]? = some (.pointer (some ⟨b2,0,none⟩)))
  (hc:W.rangeAt b 0 cs) (hu:prog.underlying ty=some d) (hd:d.isRow=true) (hi:(prog.info? ty).map (·.size)=some cs.length)
  (hc2:W.rangeAt b2 0 cs2) (hu2:prog.underlying ty2=some d2) (hd2:d2.isRow=true) (hi2:(prog.info? ty2).map (·.size)=some cs2.length) :
  (results fn tmps).run prog W=.ok (.tuple #[.agg cs.toArray,.agg cs2.toArray]) W:=by
 have h1:=run_loadVar_mid W b 0 ty cs d hc hu hd hi;have h2:=run_loadVar_mid W b2 0 ty2 cs2 d2 hc2 hu2 hd2 hi2;have hp':tmps[p]?.getD undef=.pointer (some ⟨b,0,none⟩):=by rw [hp];rfl
 have hq':tmps[q]?.getD undef=.pointer (some ⟨b2,0,none⟩):=by rw [hq];rfl
 simp [results,h,hp',hq',asAddr,h1,h2]
section
variable {c:Col}{w:World}
theorem dec1_idle (p q:Value) (w:World) :
  CallsD prog 48 #[p,q] .returning w fun e u' w'=>e=.returned (.tuple #[])∧u'=.returning∧w'=w:=by
 refine callsD_of_wpS func48 rfl fun c₀ cs hu=>?_;apply wpS_seq;apply wpS_region;simp [wpOpsS,go_sem,recoverD,hu,ntmps48,Exit.thenS];apply wpS_seq;apply wpS_region;simp [wpOpsS,go_sem,Exit.thenS];refine wpS_cond (t:=false) (by simp [Act.eval,Array.replicate]) ?_;simp only [Bool.false_eq_true,if_false];refine wpS_of_wp (wp_skip ?_)
 cases c₀
 simp_all [bodyPostS,results,Tryz.results48]
end
theorem moodS_pos {s:Srv}{nth:Int}(h:moodS s nth≠0):zbs s=0∧0<moodS s nth∧moodS s nth<10:=by
 unfold moodS at h ⊢
 split at h
 ·exact absurd rfl h
 ·next hn=>
  rw [if_neg hn]
  have hc:zbs s=0:=by
   rcases Decidable.em (zbs s=0) with h' | h'
   ·exact h'
   ·exact absurd (.inl h') hn
  refine ⟨hc,?_⟩
  split at h
  ·next h0=>rw [if_pos h0];omega
  ·next h0=>
   rw [if_neg h0];generalize (nth % (s.moods.length:Int)).toNat=i at h ⊢;rw [List.getD_eq_getElem?_getD] at h ⊢
   cases hg:s.moods[i]? with
   | none=>rw [hg] at h;exact absurd rfl h
   | some x=>
    simp only [Option.getD_some]
    have ha:¬s.moods.any badM=true:=by
     unfold zbs at hc
     split at hc
     ·cases hc
     split at hc
     ·cases hc
     split at hc
     ·cases hc
     split at hc
     ·cases hc
     ·assumption
    have hx:¬badM x=true:=fun hb=>ha (List.any_eq_true.2 ⟨x,List.mem_of_getElem? hg,hb⟩);simp only [badM,Bool.or_eq_true,decide_eq_true_eq,not_or] at hx;omega
def Decodes (bs:List UInt8) (k1 e0 e1:Int) (PM:List Value→Prop):Prop:=
 (∀M,PM M→M.length=170∧(∀v∈M,v.oneCell'=true)∧M[0]? = some (.int .i64 k1)) ∧
 ∀(c:Col) (w:World) (kx:Nat) (v:Value),Ok c w→Sl zag c kx 0 w v bs →
  Calls prog 33 #[v] w fun r w'=>∃M,PM M∧r=.returned (.tuple #[.agg M.toArray,.agg #[.int .i64 e0,.int .i64 e1]])∧∃c',Step No c w c' w'∧Ok c' w'
def noB (s:Srv) (nth k1 e0 e1:Int):Bool:=(moodS s nth==0)||!(e0==0&&e1==0)||!(k1==1)
def replyT (s:Srv) (nth k1 e0 e1 id h:Int):List UInt8:=if noB s nth k1 e0 e1=true then [] else outS (moodS s nth) s h id
def waitT (s:Srv) (nth:Int) (l:List UInt8):Int:=if l=[] then 0 else tickS (moodS s nth) s
def isT (l:List UInt8):Bool:=if l=[] then false else true
theorem zaV:∃Z,Z.length=2∧zaE prog 74 Z:=⟨zeroL 74,by kernel_rfl,by unfold zaE;kernel_rfl⟩
theorem zero_msg:∃Z,Z.length=170∧zaE prog 72 Z:=⟨zeroL 72,by kernel_rfl,by unfold zaE;kernel_rfl⟩
theorem zaG:(prog.info? 74).map (·.size)=some 2:=by kernel_rfl
section
variable {c:Col}{w:World}
theorem stnew2 (hok:Ok c w) {ty ty2:TypeId}{Z B Z2 B2:List Value}{n n2:Nat}(hZ:Z.length=n) (hB:B.length=n) (h1:∀v∈B,v.oneCell'=true) (hi:(prog.info? ty).map (·.size)=some n)
  (hZ2:Z2.length=n2) (hB2:B2.length=n2) (h12:∀v∈B2,v.oneCell'=true) (hi2:(prog.info? ty2).map (·.size)=some n2) {q q2:Nat} (hq:q≠0) (hq2:q2≠0) :
  ∃W1 W2 c',((w.alloc (.cells Z.toArray ty)).alloc (.cells Z2.toArray ty2)).setCells w.heap.size 0 B=W1∧W1.setCells (w.heap.size+1) 0 B2=W2∧At c' W2 w.heap.size q B∧At c' W2 (w.heap.size+1) q2 B2∧Ok c' W2∧Step No c w c' W2 ∧
   ((w.alloc (.cells Z.toArray ty)).alloc (.cells Z2.toArray ty2)).there w.heap.size 0 B.toArray.size∧(prog.info? ty).map (·.size)=some B.toArray.size∧B.toArray.all (·.oneCell')=true ∧
   W1.there (w.heap.size+1) 0 B2.toArray.size∧(prog.info? ty2).map (·.size)=some B2.toArray.size∧B2.toArray.all (·.oneCell')=true:=by
 obtain ⟨a,o,s⟩:=zan hok Z ty q;obtain ⟨a2,o2,s2⟩:=zan o Z2 ty2 q2;rw [World.size_alloc] at a2 o2 s2;have a':=a.kn s2;obtain ⟨_,a3⟩:=a'.st o2 hq (ty:=ty) (us:=B) (by rw [hB,hZ]) (by rw [hi,hB]) h1;have b3:=a2.off w.heap.size 0 B (by omega);have o3:=Ok.setCells (b:=w.heap.size) B 0 _ o2;obtain ⟨_,b4⟩:=b3.st o3 hq2 (ty:=ty2) (us:=B2) (by rw [hB2,hZ2]) (by rw [hi2,hB2]) h12;have a4:=a3.off (w.heap.size+1) 0 B2 (by omega);refine ⟨_,_,_,rfl,rfl,a4,b4,Ok.setCells _ _ _ o3,Step.setCells (.inl (by omega)) _ _ _ (Step.setCells (.inl (Nat.le_refl _)) _ _ _ (s.trans s2)),a'.there o2 hq (by simp [hB,hZ]),by rw [hi];simp [hB],all_oneCell_toArray h1,b3.there o3 hq2 (by simp [hB2,hZ2]),by rw [hi2];simp [hB2],all_oneCell_toArray h12⟩
end
theorem sameB_any {c:Col}{w:World}{k k2 k' k2':Nat}{v v':Value}{l l':List UInt8}(h:Sl zag c k k2 w v l) (h':Sl zag c k' k2' w v' l') :
  Calls prog 12 #[v,v'] w fun r w'=>r=.returned (.bool (l==l'))∧w=w':=by
 have e1:=conv_sl h 26 9 5 underlying26 underlying5 underlying9;have e2:=conv_sl h' 26 9 5 underlying26 underlying5 underlying9;obtain ⟨a,n,rfl,_⟩:=h.form;obtain ⟨a',n',rfl,_⟩:=h'.form;clear h h';go_enter func12,ntmps12;go_wp2;go_ret;exact ⟨rfl,rfl⟩
def isB (r:Ending):Prop:=∃t:Bool,r=.returned (.bool t)
theorem isB.ret (t:Bool):isB (.returned (.bool t)):=⟨t,rfl⟩
def isBf (Q:Prop) (r:Ending):Prop:=∃t:Bool,r=.returned (.bool t)∧(t=false→Q)
theorem isBf.yes (Q:Prop):isBf Q (.returned (.bool true)):=⟨true,rfl,fun h=>by cases h⟩
theorem isBf.no {Q:Prop}(h:Q):isBf Q (.returned (.bool false)):=⟨false,rfl,fun _=>h⟩
structure Blo.Raw (b:Blo) (c:Col) (k:Nat) (w:World) (vc vv:Value):Prop where
 height:IntKind.i64.has b.h.height
 time:IntKind.i64.has b.h.time
 prev:b.h.prev.length=32
 hvals:b.h.vals.length=32
 next:b.h.next.length=32
 app:b.h.app.length=32
 hash:b.cm.hash.length=32
 cheight:IntKind.i64.has b.cm.height
 votes:Sl TVot c k k w vc b.cm.votes
 vals:Sl TVal c k k w vv b.vals
def shortB (b:Blo):Prop:=b.vals.length≤70∧b.cm.votes.length≤70∧b.h.name.length≤60
section
variable {c:Col}{w:World}
theorem Blo.Raw.keep {b:Blo}{K:Nat→Prop}{c c':Col}{k:Nat}{w w':World}{vc vv:Value}(h:b.Raw c k w vc vv) (hs:Step K c w c' w') (hk:¬K k):b.Raw c' k w' vc vv:=
 ⟨h.height,h.time,h.prev,h.hvals,h.next,h.app,h.hash,h.cheight,h.votes.keep hs hk hk,h.vals.keep hs hk hk⟩
theorem Blo.Raw.at {b:Blo}{k:Nat}{vc vv:Value}(h:b.Raw c k w vc vv) (hs:shortB b):b.At c k w vc vv:=
 ⟨⟨by have:=hs.2.2;omega,h.height,h.time,h.prev,h.hvals,h.next,h.app⟩,h.hash,h.cheight,h.votes,h.vals,by have:=hs.2.1;omega,by have:=hs.1;omega⟩
theorem Blo.Raw.cells {b:Blo}{k:Nat}{vc vv:Value}(h:b.Raw c k w vc vv):(zau b vc vv).length=166∧(zau b vc vv)[0]? = some (.string ⟨b.h.name.toArray⟩)∧(zau b vc vv)[164]? = some vc∧(zau b vc vv)[165]? = some vv∧∀v∈zau b vc vv,v.oneCell'=true:=by
 have e1:(zaz b.h).length=131:=by simp [zaz,zaf,h.prev,h.hvals,h.next,h.app]
 have e2:(cmC b.cm vc).length=34:=zaS h.hash vc;refine ⟨by simp [zau,e1,e2],rfl,?_,?_,?_⟩
 ·unfold zau
  rw [List.getElem?_append_right (by omega),e1,List.getElem?_append_left (by omega)];unfold cmC;rw [show (164-131:Nat)=32+1 from rfl,List.getElem?_cons_succ,List.getElem?_append_right (by rw [zaf,h.hash];omega),zaf,h.hash]
  rfl
 ·unfold zau
  rw [List.getElem?_append_right (by omega),e1,List.getElem?_append_right (by omega),e2]
  rfl
 ·intro v hv
  simp only [zau,List.mem_append,List.mem_cons,List.not_mem_nil,or_false] at hv
  rcases hv with hv | hv | rfl
  ·exact zaR _ v hv
  ·exact zbx (sl_one h.votes) v hv
  ·exact sl_one h.vals
def TBlR:Ty Blo where
 n:=166
 rd:=fun c k w vs b=>∃vc vv,vs=zau b vc vv∧b.Raw c k w vc vv
 len:=by rintro _ _ _ _ _ ⟨vc,vv,rfl,h⟩;exact h.cells.1
 one:=by rintro _ _ _ _ _ ⟨vc,vv,rfl,h⟩;exact h.cells.2.2.2.2
 keep:=by rintro _ _ _ _ _ _ _ _ hs hk ⟨vc,vv,h,ha⟩;exact ⟨vc,vv,h,ha.keep hs hk⟩
 turn:=by rintro _ _ _ _ _ _ ⟨vc,vv,h,ha⟩;exact ⟨vc,vv,h,⟨ha.height,ha.time,ha.prev,ha.hvals,ha.next,ha.app,ha.hash,ha.cheight,ha.votes.turnAll,ha.vals.turnAll⟩⟩
theorem raw_sl {k k2:Nat}{v:Value}{l:List Blo}(h:Sl TBlR c k k2 w v l) (hs:∀b∈l,shortB b):Sl TBlo c k k2 w v l:=by
 rcases h with h | ⟨b,off,cap,hv,h1,h2,h3,h4,h5⟩
 ·exact .inl h
 ·refine .inr ⟨b,off,cap,hv,h1,h2,h3,h4,fun i x hx=>?_⟩
  obtain ⟨vs,⟨vc,vv,a1,a2⟩,a3⟩:=h5 i x hx;exact ⟨vs,⟨vc,vv,a1,a2.at (hs x (List.mem_of_getElem? hx))⟩,a3⟩
theorem longBlock_any (hok:Ok c w) {b:Blo}{k:Nat}{vc vv:Value}(hb:b.Raw c k w vc vv) :
  Calls prog 46 #[.agg (zau b vc vv).toArray] w fun r w'=>isBf (shortB b) r∧∃c',Step No c w c' w'∧Ok c' w':=by
 have a0:=At.new0 hok (zau b vc vv) 59;have s0:Step No c w c (w.alloc (.cells (zau b vc vv).toArray 59)):=Step.refl.alloc _;have o0:=hok.alloc (.cells (zau b vc vv).toArray 59);obtain ⟨hbl,p1,p2,p3,_⟩:=hb.cells;obtain ⟨bx,hbx⟩:=jE w.heap.size;rw [hbx] at a0;have y0:=a0.get p1;have y164:=a0.get p2;have y165:=a0.get p3;obtain ⟨va,vn,rfl,_⟩:=hb.votes.form;obtain ⟨ua,un,rfl,_⟩:=hb.vals.form;obtain ⟨B,hB⟩:=jE (zau b (.slice va b.cm.votes.length vn) (.slice ua b.vals.length un));rw [hB] at y0 y164 y165 s0 o0 ⊢;obtain ⟨W0,hW0⟩:=jE (w.alloc (.cells B.toArray 59));rw [hW0] at y0 y164 y165 s0 o0;have X:=jh2 s0 o0;clear a0 s0 o0 p1 p2 p3 hb hok hB hbl;have hnm:(⟨b.h.name.toArray⟩:ByteArray).size=b.h.name.length:=by simp [ByteArray.size]
 obtain ⟨n1,h1⟩:=jE b.vals.length;obtain ⟨n2,h2⟩:=jE b.cm.votes.length;obtain ⟨n3,h3⟩:=jE b.h.name.length;obtain ⟨NM,hNM⟩:=jE ((⟨b.h.name.toArray⟩:ByteArray));rw [hNM,h3] at hnm;rw [hNM] at y0;rw [h1] at y165;rw [h2] at y164;have HN:=jh3 h1 h2 h3;clear h1 h2 h3 hNM;by_cases t1:(70:Int)<(n1:Int)
 ·go_enter func46,ntmps46
  go_wp2;go_ret;exact ⟨isBf.yes _,c,X.out⟩
 ·by_cases t2:(70:Int)<(n2:Int)
  ·go_enter func46,ntmps46
   go_wp2;go_ret;exact ⟨isBf.yes _,c,X.out⟩
  ·by_cases t3:(60:Int)<(n3:Int)
   ·go_enter func46,ntmps46
    go_wp2;go_ret;exact ⟨isBf.yes _,c,X.out⟩
   ·have HT:=jh3 t1 t2 t3
    go_enter func46,ntmps46;go_wp2;go_ret;obtain ⟨t1,t2,t3⟩:=HT.out;obtain ⟨e1,e2,e3⟩:=HN.out;exact ⟨isBf.no ⟨by omega,by omega,by omega⟩,c,X.out⟩
theorem longBlocks_any (hok:Ok c w) {k:Nat}{v:Value}{l:List Blo}(hl:Sl TBlR c k k w v l) (most:Int) :
  Calls prog 30 #[v,.int .i64 most] w fun r w'=>isBf ((l.length:Int)≤most∧∀b∈l,shortB b) r∧∃c',Step No c w c' w'∧Ok c' w':=by
 have hn:l.length≤9223372036854775807:=by
  rcases hl with ⟨rfl,_⟩ | ⟨b,off,cap,_,h1,h2,_⟩
  ·simp
  ·simp only [maxLen] at h2;omega
 obtain ⟨va,vn,rfl,_⟩:=hl.form;have X:=jh2 hok hl;obtain ⟨n,hn2⟩:=jE l.length;rw [hn2] at hn X ⊢;have HN:=jh1 hn2;clear hok hl hn2;go_enter func30,ntmps30;go_wp2;go_loopw [5] (fun i wr=>∃(j:Nat) (cr:Col),j≤n∧i=.int .i64 j∧(∀(i:Nat) (b:Blo),i<j→l[i]? = some b→shortB b)∧Step No c w cr wr∧Ok cr wr) (fun i _=>n-(intOf i).toNat)
 case atStart=>exact ⟨0,c,Nat.zero_le _,rfl,fun i b h=>absurd h (Nat.not_lt_zero i),Step.refl,X.out.1⟩
 case round=>
  obtain ⟨j,cr,hj,rfl,hall,s1,o1⟩:=hrel;by_cases hjn:j<n
  ·by_cases hm:(j:Int)≤most
   ·have hi:∃b,l[j]? = some b:=⟨l[j]'(by rw [HN.out];exact hjn),by simp⟩
    obtain ⟨b,hi⟩:=hi
    obtain ⟨g,off,hga⟩:∃g off,va=some ⟨g,off,none⟩:=by
     obtain ⟨g,off,cap,e,_⟩:=X.out.2.some (by rw [HN.out];omega);injection e with e1;exact ⟨g,off,e1⟩
    subst hga;obtain ⟨vs,⟨uc,uv,rfl,hb⟩,hcs⟩:=(X.out.2.kn s1).at hi;have LB:=longBlock_any o1 hb;have hbl:=hb.cells.1;obtain ⟨B,hB⟩:=jE (zau b uc uv);rw [hB] at LB hcs hbl;have T:=jh5 hcs (show (prog.info? 59).map (·.size)=some B.length by rw [zah,hbl]) s1 hall hi;have hjn2:(j:Int)<(n:Int):=by omega
    clear hcs hbl hb hB hi s1 o1 hall;go_wp2_with (refine wpList_load_mid rfl 59 _ rfl g (off+j*166) rfl B _ T.out.1 underlying59 rfl T.out.2.1 ?_);refine LB.mono ?_;rintro e w2 ⟨⟨t,rfl,ht⟩,c2,s2,o2⟩;have X2:=jh2 (T.out.2.2.1.trans s2) o2;clear LB s2 o2
    cases t with
    | true=>
     go_wp2;go_ret;exact ⟨isBf.yes _,c2,X2.out⟩
    | false=>
     have HT:=jh1 (ht rfl);clear ht;have hw:IntKind.i64.wrap ((j:Int)+1)=((j+1:Nat):Int):=by rw [IntWalk.i64_in _ (by omega)];rfl
     go_wp2;go_roundw
     case rel=>
      refine ⟨j+1,c2,by omega,by first | rfl | go_num,fun i b' hlt he=>?_,X2.out⟩
      rcases Nat.lt_or_ge i j with h | h
      ·exact T.out.2.2.2.1 i b' h he
      ·have:i=j:=by omega
       subst this;have:=he.symm.trans T.out.2.2.2.2;injection this with this;subst this;exact HT.out
     case measure=>simp [intOf];omega
   ·have hjn2:(j:Int)<(n:Int):=by omega
    have hm2:most<(n:Int):=by omega
    have X2:=jh2 s1 o1;clear s1 o1 hall;go_wp2;go_ret;exact ⟨isBf.yes _,cr,X2.out⟩
  ·have hjn2:¬(j:Int)<(n:Int):=by omega
   have X2:=jh3 s1 o1 hall;clear s1 o1 hall;by_cases hm2:most<(n:Int)
   ·go_wp2
    go_ret;exact ⟨isBf.yes _,cr,X2.out.1,X2.out.2.1⟩
   ·have HM:=jh1 hm2
    go_wp2;go_ret;have:=HM.out;refine ⟨isBf.no fun b hb=>?_,cr,X2.out.1,X2.out.2.1⟩;obtain ⟨i,hi⟩:=List.getElem?_of_mem hb;have hlt:=(List.getElem?_eq_some_iff.1 hi).1;have:=HN.out;exact X2.out.2.2 i b (by omega) hi
end
theorem infoInt3:(prog.info? 3).map (fun i=>(i.zero,i.size,i.bytes))=some (some (.int .i64 0),1,8):=by kernel_rfl
theorem zero_cmt:∃Z,Z.length=34∧zaE prog 56 Z:=⟨zeroL 56,by kernel_rfl,by unfold zaE;kernel_rfl⟩
theorem info_cmt2:(prog.info? 56).map (·.size)=some 34:=by kernel_rfl
section
variable {c:Col}{w:World}
theorem cpvals_any (hok:Ok c w) {kx:Nat}{v:Value}{l:List Vld}(hv:Sl TVal c kx 0 w v l) (hlen:l.length≤1000000000) :
  Calls prog 94 #[v] w fun e w'=>∃v' c',e=.returned v'∧Sl TVal c' 0 0 w' v' l∧Step No c w c' w'∧Ok c' w':=by
 obtain ⟨q,hq,hqc⟩:=hok.spare kx;have hqk:0≠q:=by omega
 have hq0:q≠0:=by omega
 obtain ⟨o1,o2,o3⟩:=Own.new0 TVal 93 hok q 0;have hx':=hv.keep o3 jI jI;have hml:([]:List Vld).length+l.length≤maxLen:=by simp [maxLen];omega
 have hbl:(([]:List Vld).length+l.length)*16≤140737488355328:=by simp;omega
 clear hv;go_enter func94,ntmps94;go_wp2_with (at_builtin;refine zaq TVal o2 rfl _ _ 57 rfl 93 underlying57 infoVal3 rfl (by decide) rfl rfl o1 hx' hqk hml hbl ?_;intro v' w' c' a1 a2 a3 _);go_ret;exact ⟨v',c'.turn q 0,rfl,(a1.turn hqk).sl,((o3.ofNo.trans a2).turn rfl).own hqc,a3.turn hq0⟩
theorem cpints_any (hok:Ok c w) {kx:Nat}{v:Value}{l:List Int}(hv:Sl (TInt .i64) c kx 0 w v l) (hlen:l.length≤1000000000) :
  Calls prog 32 #[v] w fun e w'=>∃v' c',e=.returned v'∧Sl (TInt .i64) c' 0 0 w' v' l∧Step No c w c' w'∧Ok c' w':=by
 obtain ⟨q,hq,hqc⟩:=hok.spare kx;have hqk:0≠q:=by omega
 have hq0:q≠0:=by omega
 obtain ⟨o1,o2,o3⟩:=Own.new0 (TInt .i64) 3 hok q 0;have hx':=hv.keep o3 jI jI;have hml:([]:List Int).length+l.length≤maxLen:=by simp [maxLen];omega
 have hbl:(([]:List Int).length+l.length)*8≤140737488355328:=by simp;omega
 clear hv;go_enter func32,ntmps32;go_wp2_with (at_builtin;refine zaq (TInt .i64) o2 rfl _ _ 23 rfl 3 underlying23 infoInt3 rfl (by decide) rfl rfl o1 hx' hqk hml hbl ?_;intro v' w' c' a1 a2 a3 _);go_ret;exact ⟨v',c'.turn q 0,rfl,(a1.turn hqk).sl,((o3.ofNo.trans a2).turn rfl).own hqc,a3.turn hq0⟩
theorem cpcmt_any (hok : Ok c w) {kx : Nat} {vc : Value} {x : Cmt} (hh : x.hash.length = 32) (hv : Sl TVot c kx 0 w vc x.votes) (hlen : x.votes.length ≤ 1000000000) :
    Calls Tryz.prog 93 #[.agg (cmC x vc).toArray] w fun e w' => ∃ vc' c', e = .returned (.agg (cmC x vc').toArray) ∧ Sl TVot c' 0 0 w' vc' x.votes ∧ Step No c w c' w' ∧ Ok c' w' := by
  obtain ⟨q, hq, hqc⟩ := hok.spare kx;have hqk : 0 ≠ q := by omega
  have hq0 : q ≠ 0 := by omega
  obtain ⟨q2, hq2, hq2c⟩ := hok.spare q;obtain ⟨Z, hZ, zZ⟩ := zero_cmt;have hcl := zaS hh vc;obtain ⟨a1, p1, s1⟩ := zan hok (cmC x vc) 56 q;obtain ⟨a2, p2, s2⟩ := zan p1 Z 56 q;rw [World.size_alloc] at a2 p2 s2;have a1' := a1.kn s2
  have hq2c' : ∀ b, ((c.put w.heap.size q).put (w.heap.size + 1) q) b ≠ q2 := by
    intro b;by_cases h1 : b = w.heap.size + 1
    · subst h1; rw [Col.put_same]; omega
    · rw [Col.put_other _ _ h1]
      by_cases h2 : b = w.heap.size
      · subst h2; rw [Col.put_same]; omega
      · rw [Col.put_other _ _ h2]; exact hq2c b
  obtain ⟨n1, n2, n3⟩ := Own.new0 TVot 106 p2 q2 0;have hx' := ((hv.kn s1).kn s2).kn n3;have hml : ([] : List Vot).length + x.votes.length ≤ maxLen := by simp [maxLen]; omega
  have hbl : (([] : List Vot).length + x.votes.length) * 16 ≤ 140737488355328 := by simp; omega
  obtain ⟨va, vn, rfl, _⟩ := hv.form
  have y33 : (((w.alloc (.cells (cmC x (.slice va x.votes.length vn)).toArray 56)).alloc (.cells Z.toArray 56)).alloc (.cells #[] 106)).cell? ⟨w.heap.size, 33, none⟩ = some (.slice va x.votes.length vn) := by
    refine (a1'.kn n3).get (i := 33) ?_;unfold cmC;rw [List.getElem?_cons_succ, List.getElem?_append_right (by rw [zaf, hh]; omega), zaf, hh]
    rfl
  obtain ⟨bx, hbx⟩ : ∃ b, w.heap.size = b := ⟨_, rfl⟩;rw [hbx] at a1 p1 s1 a2 p2 s2 a1' hq2c' n1 n2 n3 hx' y33;have a2' := a2.kn n3;have a1'' := a1'.kn n3;obtain ⟨C, hC⟩ : ∃ C, cmC x (.slice va x.votes.length vn) = C := ⟨_, rfl⟩;rw [hC] at a1 p1 s1 a2 p2 s2 a1' n1 n2 n3 hx' y33 hcl a2' a1'' ⊢;obtain ⟨W1, hW1⟩ : ∃ W, w.alloc (.cells C.toArray 56) = W := ⟨_, rfl⟩;rw [hW1] at a1 p1 s1 a2 p2 s2 a1' n1 n2 n3 hx' y33 a2' a1'';have e1 : W1.heap.size = bx + 1 := by rw [← hW1, World.size_alloc, hbx]
  obtain ⟨W2, hW2⟩ : ∃ W, W1.alloc (.cells Z.toArray 56) = W := ⟨_, rfl⟩;rw [hW2] at a2 p2 s2 a1' n1 n2 n3 hx' y33 a2' a1'';have e2 : W2.heap.size = bx + 1 + 1 := by rw [← hW2, World.size_alloc, e1]
  rw [e2] at n1 n2 n3 hx' a2' a1'';obtain ⟨W3, hW3⟩ : ∃ W, W2.alloc (.cells #[] 106) = W := ⟨_, rfl⟩;rw [hW3] at n1 n2 n3 hx' y33 a2' a1'';obtain ⟨c2, hc2⟩ : ∃ c2, (c.put bx q).put (bx + 1) q = c2 := ⟨_, rfl⟩;obtain ⟨c3, hc3⟩ : ∃ c3, c2.put (bx + 1 + 1) q2 = c3 := ⟨_, rfl⟩;rw [hc2] at hq2c' a2 p2 s2 a1' n1 n2 n3 hx' a2' a1'';rw [hc3] at n1 n2 n3 hx' a2' a1'';have X := Lib.hid (And.intro a1'' (And.intro a2' (And.intro ((s1.trans s2).trans n3) (And.intro hq2c' (And.intro hC hW2)))));clear hok hv hlen a1 p1 s1 a2 p2 s2 a1' n3 a2' a1'' hC hW2 hc2 hc3 hq2c' hqc;go_enter Tryz.func93, Tryz.ntmps93;have hqq : ¬ One q2 q := fun e => absurd e (by show ¬ q = q2; omega)
  go_wp2_with (first | (refine zaa rfl (some 2) rfl 56 rfl zZ ?_; rw [X.out.2.2.2.2.2, e1])
                      | (at_builtin; refine zaq TVot n2 rfl _ _ 54 rfl 106 Tryz.underlying54 infoVot3 rfl (by decide) rfl rfl n1 hx' (by omega) hml hbl ?_
                         rintro v' w' c' b1 b2 b3 -;rw [List.nil_append] at b1;obtain ⟨va', vn', rfl, _⟩ := b1.sl.form;obtain ⟨aa, ab, ac, ad, hC, _⟩ := X.out;have a3 := aa.keep b2 hqq;have a4 := ab.keep b2 hqq;have yf := a3.fz b3 hq0 33
                         have y33' := (a3.get (i := 33) (u := .slice va x.votes.length vn) (by
                           rw [← hC]; unfold cmC;rw [List.getElem?_cons_succ, List.getElem?_append_right (by rw [zaf, hh]; omega), zaf, hh]
                           rfl))
                         have a5 := a3.setN (i := 33) (by omega) (.slice va' x.votes.length vn');rw [show C.set 33 (.slice va' x.votes.length vn') = cmC x (.slice va' x.votes.length vn') by rw [← hC]; exact cmC_votes hh _ _] at a5;have a6 := a4.offC bx 33 (.slice va' x.votes.length vn') (by omega);have o6 : Ok c' (w'.setCell ⟨bx, 33, none⟩ (.slice va' x.votes.length vn')) := b3.setCell _ _;have s6 : Step (One q2) c3 W3 c' w' := b2;have cl := zaS hh (.slice va' x.votes.length vn');have c1 : ∀ u ∈ cmC x (.slice va' x.votes.length vn'), u.oneCell' = true := zbx rfl;obtain ⟨C2, hC2⟩ : ∃ C2, cmC x (.slice va' x.votes.length vn') = C2 := ⟨_, rfl⟩;rw [hC2] at a5 cl c1;have hi0 : (Tryz.prog.info? 56).map (·.size) = some C2.length := by rw [info_cmt2, cl]
                         have hi1 : (Tryz.prog.info? 56).map (·.size) = some C2.toArray.size := by rw [info_cmt2]; simp [cl]
                         have ht := a6.there (o := 0) (n := C2.toArray.size) o6 hq0 (by simp [cl, hZ]);have a7 := (a6.st o6 hq0 (ty := 56) (us := C2) (by rw [cl, hZ]) hi0 c1).2;have SL := Lib.hid (And.intro a5.cells (And.intro hi0 (And.intro ht (And.intro hi1 (And.intro (all_oneCell_toArray c1) (And.intro a7.cells (And.intro b1 (And.intro b2 (And.intro o6 (And.intro hC2 (And.intro a3.col a4.col)))))))))))
                         clear b1 b2 b3 a3 a4 a5 a6 o6 s6 cl c1 hi0 hi1 ht a7 hC hC2 aa ab ac ad)
                      | (refine wpList_load_mid rfl 56 _ rfl bx 0 rfl C2 _ SL.out.1 Tryz.underlying56 rfl SL.out.2.1 ?_)
                      | (refine wpList_store_mid rfl 56 _ _ rfl (bx + 1) 0 C2.toArray rfl rfl SL.out.2.2.1 SL.out.2.2.2.1 SL.out.2.2.2.2.1 ?_))
  obtain ⟨hc0, hi0, _, _, _, hc7, b1, b2, o6, hC2, k1, k2⟩ := SL.out;have st : Step (One q) c' w' c' ((w'.setCell ⟨bx, 33, none⟩ (.slice va' x.votes.length vn')).setCells (bx + 1) 0 C2) := Step.setCells (.inr k2) _ _ _ ((Step.refl (K := One q)).setCell (a := ⟨bx, 33, none⟩) (.inr k1) _);have st2 : Step No c w c' ((w'.setCell ⟨bx, 33, none⟩ (.slice va' x.votes.length vn')).setCells (bx + 1) 0 C2) := (Step.setCells (.inl (by omega)) _ _ _ ((X.out.2.2.1.ofNo.trans b2).setCell (a := ⟨bx, 33, none⟩) (.inl (by show w.heap.size ≤ bx; omega)) _)).own hq2c;refine bodyPost_ret (zad rfl _ _ (bx + 1) 0 C2 _ rfl hc7 Tryz.underlying56 rfl hi0) rfl ⟨_, by rw [← hC2], c'.turn q2 0, ?_, ?_, ?_⟩
  · exact (b1.sl.keep st (fun e => absurd e (by show ¬ q2 = q; omega)) (fun e => absurd e (by show ¬ 0 = q; omega))).turn (by omega)
  · exact (Step.turn (K := One q2) st2.ofNo rfl).own hq2c
  · exact (Ok.setCells _ _ _ o6).turn (by omega)
end
def rowsB:ByteArray:=⟨#[48,49,50,51,52,53,54,55,56,57,97,98,99,100,101,102,101,97,52,56,57,102,100,54,49,99,48,50,98,55,53,51,98,56,99,48,53,50,102,100,97,101,51,54,55,49,57,52,55,57,51,49,100,99,98,101,50,54,53,97,52,48,102,56,57,48,53,55,50,52,97,102,101,49,98,99,54,56,51,100,50,99,54,97,48,98,56,51,52,100,55,53,102,101,49,57,99,53,49,102,101,100,52,97,48,55,54,51,57,50,56,98,100,98,55,101,99,49,51,57,53,48,102,52,56,54,50,97,54,102,101,57,98,51,48,56,99,50,100,55,49,52,97,53,97,50,56,52,55,54,49,53,102,98,57,101,51,99,100,48]⟩
def digB:ByteArray:=⟨#[48,49,50,51,52,53,54,55,56,57,97,98,99,100,101,102]⟩
theorem rows_all:((List.range 160).all fun p=>decide ((rowsB.data.getD p 0).toNat<128)&&decide (0≤Go.Lib.indexByte digB.data.toList (rowsB.data.getD p 0).toNat.toUInt8)&&decide (Go.Lib.indexByte digB.data.toList (rowsB.data.getD p 0).toNat.toUInt8<16))=true:=by kernel_rfl
theorem rows_ok (p:Nat) (h:p<rowsB.size):(rowsB[p]'h).toNat<128∧∃j:Nat,j<16∧Go.Lib.indexByte digB.data.toList (((rowsB[p]'h).toNat:Int)).toNat.toUInt8=(j:Int):=by
 have hp:p<160:=h;have:=List.all_eq_true.1 rows_all p (by simpa using hp)
 have hg:rowsB.data.getD p 0=rowsB[p]'h:=by
  have:rowsB.data.getD p 0=rowsB.data[p]'h:=by simp only [Array.getD];exact dif_pos h
  rw [this];rfl
 rw [hg] at this;simp only [Bool.and_eq_true,decide_eq_true_eq] at this;refine ⟨this.1.1,(Go.Lib.indexByte digB.data.toList (rowsB[p]'h).toNat.toUInt8).toNat,by omega,?_⟩;rw [Int.toNat_natCast];omega
section
variable {w:World}
theorem run_idxB (s:ByteArray) (c:Int) :
  (callFunc 221 #[.string s,.int .u8 c]).run prog w=.ok (.value (.int .i64 (Go.Lib.indexByte s.data.toList c.toNat.toUInt8))) w:=by
 have hr:=Go.Lib.run_indexByteString (P:=prog) s c w;rw [run_callFunc_extern func221 (by kernel_rfl) (by kernel_rfl) (by kernel_rfl) (by kernel_rfl),hr]
 rfl
theorem sindex_any (s:ByteArray) (c:Int) (w:World) :
  Calls prog 215 #[.string s,.int .u8 c] w fun r w'=>r=.returned (.int .i64 (Go.Lib.indexByte s.data.toList c.toNat.toUInt8))∧w'=w:=by
 have hr:=fun w=>run_idxB (w:=w) s c;obtain ⟨r,hrr⟩:=jE (Go.Lib.indexByte s.data.toList c.toNat.toUInt8);rw [hrr] at hr ⊢
 have H:Calls prog 220 #[.string s,.int .u8 c] w fun e w'=>e=.returned (.int .i64 r)∧w'=w:=by
  clear hrr;go_enter func220,ntmps220;go_wp2;go_ret;exact ⟨rfl,rfl⟩
 clear hrr hr;go_enter func215,ntmps215;go_wp2_with fail;refine H.mono ?_;rintro e w' ⟨rfl,rfl⟩;go_wp2;go_ret;exact ⟨rfl,rfl⟩
theorem indexRune_any (s:ByteArray) (c:Int) (h0:0≤c) (h1:c<128) (w:World) :
  Calls prog 210 #[.string s,.int .i32 c] w fun r w'=>r=.returned (.int .i64 (Go.Lib.indexByte s.data.toList c.toNat.toUInt8))∧w'=w:=by
 have H:=sindex_any s c w;have hw:IntKind.u8.wrap c=c:=IntWalk.u8_in _ (by omega);go_enter func210,ntmps210;go_wp2_with fail;refine H.mono ?_;rintro e w' ⟨rfl,rfl⟩;go_wp2;go_ret;exact ⟨rfl,rfl⟩
end
