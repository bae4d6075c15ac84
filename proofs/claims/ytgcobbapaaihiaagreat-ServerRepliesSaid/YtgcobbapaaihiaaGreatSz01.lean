/- ServerReplies, part 01: lemmas, each with its own conditions. -/
import Derived.Test.YtgcobbapaaihiaaGreatSz00
import Derived.RangeFuncNested
import Derived.RangeFuncBound
import Derived.RangeFuncCalls
import Derived.RangeFuncLeaves
import Derived.OwnWalkIn
import Derived.TacticsInMore
import Derived.LoopNIn
import Derived.LoopIn
import Derived.Shelf.RegionOpen
import Derived.Shelf.Abstract
import Derived.Deep.RegionHeld3
set_option linter.all false
open Go.Proofs.Tryz
namespace Go.Proofs.YtgcobbapaaihiaaGreat
open Go.RowKit
section
variable {K K':Nat→Prop}{c c' c'':Col}{w w' w'':World}
theorem Step.putObj (h : Step K c w c' w') {b : Nat} (hb : w.heap.size ≤ b ∨ K (c b)) (o : Obj) : Step K c w c' (w'.putObj b o) :=
  ⟨h.os, h.tape, h.output, by simpa using h.size, fun j hj hk => by
    rw [World.putObj_heap_other (by rintro rfl; rcases hb with hb | hb; · omega
                                    · exact hk hb)]; exact h.block j hj hk, h.col⟩
theorem Ok.putObj (h:Ok c w) (b:Nat) {o:Obj}(ho:∀a,a.block=b→(w.putObj b o).frozen? a=false):Ok c (w.putObj b o):=
 ⟨fun j hj=>h.fresh j (by simpa using hj),fun j off hc=>by
  by_cases e:j=b
  ·exact ho _ e
  ·rw [World.frozen?_of_block (w:=w) (a:=⟨j,off,none⟩) (World.putObj_heap_other e)];exact h.soft j off hc⟩
theorem frozen_loop {w:World}{b:Nat}{l:Loop}(a:Addr) (ha:a.block=b):(w.putObj b (.loop l)).frozen? a=false:=by
 by_cases h:b<w.heap.size
 ·simp [World.frozen?,ha,World.putObj_heap_same h]
 ·have:(w.putObj b (.loop l)).heap[b]? = none:=by simp [World.putObj];omega
  simp [World.frozen?,ha,this]
theorem frozen_def {w:World}{b:Nat}{l:Option (List Deferred)}(a:Addr) (ha:a.block=b):(w.putObj b (.deferred l)).frozen? a=false:=by
 by_cases h:b<w.heap.size
 ·simp [World.frozen?,ha,World.putObj_heap_same h]
 ·have:(w.putObj b (.deferred l)).heap[b]? = none:=by simp [World.putObj];omega
  simp [World.frozen?,ha,this]
end
def And1 (K:Nat→Prop) (k:Nat):Nat→Prop:=fun j=>K j∨j=k
def Iter {α:Type}(P:Program) (gf:Nat) (lb:Array Value) (K:Nat→Prop) (c:Col) (w:World) (A:α→Col→World→Array Value→Prop) (xs:List α):Prop:=
 ∀(l:Nat) (J Jx:List α→Col→World→Prop) (c0:Col) (W0:World),Step K c w c0 W0→Ok c0 W0 →
  (∀pre c1 W1 c2 W2,J pre c1 W1→Step No c1 W1 c2 W2→Ok c2 W2→J pre c2 W2) →
  (∀pre c1 W1 c2 W2,Jx pre c1 W1→Step No c1 W1 c2 W2→Ok c2 W2→Jx pre c2 W2) →
  (∀pre x c1 W1 ar,(pre++[x]) <+: xs→J pre c1 W1→Ok c1 W1→Step K c w c1 W1→A x c1 W1 ar →
   YieldAt Fence.wide 0 P l ar W1 fun e W'=>∃c',Ok c' W'∧Step K c1 W1 c' W'∧((e=.returned (.bool true)∧J (pre++[x]) c' W')∨(e=.returned (.bool false)∧Jx (pre++[x]) c' W'))) →
  J [] c0 W0 →
  CallsIn Fence.wide 0 P gf (#[.func (.yield l) #[] #[]]++lb) W0 fun e W'=>(∃v,e=.returned v)∧∃c',Ok c' W'∧Step K c0 W0 c' W'∧(J xs c' W'∨∃pre,pre <+: xs∧Jx pre c' W')
def bodyQ {α:Type}(K:Nat→Prop) (I:List α→Col→World→Prop) (Ix:Code→List α→Col→World→Prop) (pre:List α) (c:Col) (W:World):Exit→Act→World→Prop
 | .normal,_,W'=>∃c',Ok c' W'∧Step K c W c' W'∧I pre c' W'
 | .ret,_,W'=>∃c',Ok c' W'∧Step K c W c' W'∧Ix .ret pre c' W'
 | .exit id,_,W'=>∃c',Ok c' W'∧Step K c W c' W'∧Ix (.exit id) pre c' W'
 | .goto t,_,W'=>∃c',Ok c' W'∧Step K c W c' W'∧Ix (.goto t) pre c' W'
 | .panic _,_,_=>False
 | .outgrown,_,_=>False
theorem wp_range {P:Program}{Q:Exit→Act→World→Prop}{a:Act}{c:Col}{w:World}(hok:Ok c w) {g:Operand}{ps:Array Tmp}{assign body:Code}{gf:Nat}{lb:Array Value}
  (hg:a.eval g=.func (.func gf) #[] lb) (eg:∀args w,(callFunc gf args).run P w=.ok (.enter gf args) w)
  {α:Type} {A:α→Col→World→Array Value→Prop} {xs:List α} {K:Nat→Prop} (kl:Nat) (hkl:∀b,c b≠kl) (hkl0:kl≠0) (hKl:¬K kl)
  (hseq:Iter P gf lb (And1 K kl) c w A xs) (hps:∀x c1 W ar,A x c1 W ar→ar.size=ps.size)
  (I:List α→Col→World→Prop) (Ix:Code→List α→Col→World→Prop) (B:List α→α→Act→Col→World→Prop)
  (hI:∀pre c1 W1 c2 W2,I pre c1 W1→Step (One kl) c1 W1 c2 W2→Ok c2 W2→I pre c2 W2)
  (hIx:∀j pre c1 W1 c2 W2,Ix j pre c1 W1→Step (One kl) c1 W1 c2 W2→Ok c2 W2→Ix j pre c2 W2)
  (hB:∀pre x a1 c1 W1 c2 W2,B pre x a1 c1 W1→Step (One kl) c1 W1 c2 W2→Ok c2 W2→B pre x a1 c2 W2)
  (h0:I [] c w)
  (hassign:∀l pre x c1 W1 ar,(pre++[x]) <+: xs→I pre c1 W1→Ok c1 W1→Step (And1 K kl) c w c1 W1→A x c1 W1 ar→∀KK:Act→World→Prop,
   (∀a1 c2 W2,Ok c2 W2→Step K c1 W1 c2 W2→B pre x a1 c2 W2→KK a1 W2) →
   assign.wpIn (Fence.wide.inRound l) 0 P (Exit.then KK (fun _ _ _=>False)) { tmps:=(ps.zip ar).foldl (fun t (p,v)=>t.setIfInBounds p v) a.tmps,defers:=[] } W1)
  (hbody:∀l pre x a1 c2 W2,B pre x a1 c2 W2→Ok c2 W2→body.wpIn (Fence.wide.inRound l) 0 P (bodyQ K I Ix (pre++[x]) c2 W2) a1 W2)
  (hdone:∀D c' W',I xs c' W'→Ok c' W'→Step (And1 K kl) c w c' W'→W'.heap[D]? = some (.deferred (some []))→w.heap.size≤D→c' D=kl →
   Q .normal { a with defers:={ target:=.collected D,args:=#[] }::a.defers } W')
  (hstop:∀D j pre c' W',pre <+: xs→Ix j pre c' W'→Ok c' W'→Step (And1 K kl) c w c' W'→W'.heap[D]? = some (.deferred (some []))→w.heap.size≤D→c' D=kl →
   j.wp P Q { a with defers:={ target:=.collected D,args:=#[] }::a.defers } W') :
  (Code.rangeFunc g ps assign body).wp P Q a w:=by
 rw [←wpIn_wide (n:=0)];refine wpIn_rangeFunc ?_;intro fn hfn;obtain ⟨rec,hrec⟩:∃rec:LoopState→Option Code→Loop,rec=fun st pe=>{ state:=st,pending:=pe,fn,tmps:=a.tmps,params:=ps,assign,body,defers:=w.heap.size }:=⟨_,rfl⟩;have hr1:∀st pe,(rec st pe).state=st:=by intro st pe;rw [hrec]
 have hr2:∀st pe,(rec st pe).pending=pe:=by intro st pe;rw [hrec]
 have hr3:∀st pe,(rec st pe).params=ps:=by intro st pe;rw [hrec]
 have hr4:∀st pe,(rec st pe).fn=fn:=by intro st pe;rw [hrec]
 have hr5:∀st pe,(rec st pe).tmps=a.tmps:=by intro st pe;rw [hrec]
 have hr6:∀st pe,(rec st pe).assign=assign:=by intro st pe;rw [hrec]
 have hr7:∀st pe,(rec st pe).body=body:=by intro st pe;rw [hrec]
 have hr8:∀st pe st',{ rec st pe with state:=st' }=rec st' pe:=by intro st pe st';rw [hrec]
 have hr9:∀st pe st' pe',{ rec st pe with state:=st',pending:=pe' }=rec st' pe':=by intro st pe st' pe';rw [hrec]
 obtain ⟨W1,hW1⟩:=jE ((w.alloc (.deferred (some []))).alloc (.loop (rec .ready none)));obtain ⟨c1,hc1⟩:=jE ((c.put w.heap.size kl).put (w.heap.size+1) kl)
 have hL1:W1.heap[w.heap.size+1]? = some (.loop (rec .ready none)):=by
  rw [←hW1];have:=World.alloc_heap_new (w.alloc (.deferred (some []))) (.loop (rec .ready none));rwa [World.size_alloc] at this
 have hK1:W1.heap[w.heap.size]? = some (.deferred (some [])):=by
  rw [←hW1];exact (Below.heap_alloc _ _ _ (by simp)).trans (World.alloc_heap_new w _)
 have hS1:Step No c w c1 W1:=by rw [←hW1,←hc1];exact (((Step.refl.alloc _).alloc _).put (.inl (Nat.le_refl _))).put (.inl (by omega))
 have hO1:Ok c1 W1:=by
  rw [←hc1];refine Ok.put (Ok.put (by rw [←hW1];exact (hok.alloc _).alloc _) (by rw [←hW1];simp;omega) (fun o=>by simp [World.frozen?,hK1])) (by rw [←hW1];simp) (fun o=>by simp [World.frozen?,hL1])
 have hcl:c1 (w.heap.size+1)=kl:=by rw [←hc1];simp
 have hcd:c1 w.heap.size=kl:=by rw [←hc1];simp [Col.put]
 refine ⟨w.heap.size+1,[{ target:=.collected w.heap.size,args:=#[] }],W1,{ target:=.fn (.func gf) lb,args:=#[.func (.yield (w.heap.size+1)) #[] #[]] },W1,gf,
  #[.func (.yield (w.heap.size+1)) #[] #[]]++lb,W1,?_,?_,?_,?_,fun h=>by simp [Fence.wide] at h,?_⟩
 ·rw [←hW1,hrec];exact run_enterLoop_outer _ _ _ _ _
 ·simp only [resolve,hg]
  simp [go_sem]
 ·intro f' _;trivial
 ·simp [invoke,go_sem,eg]
 ·let J:List α→Col→World→Prop:=fun pre c2 W=>I pre c2 W∧W.heap[w.heap.size+1]? = some (.loop (rec .ready none))∧W.heap[w.heap.size]? = some (.deferred (some []))∧c2 (w.heap.size+1)=kl∧c2 w.heap.size=kl
  let Jx:List α→Col→World→Prop:=fun pre c2 W=>∃j,Ix j pre c2 W∧W.heap[w.heap.size+1]? = some (.loop (rec .done (some j)))∧W.heap[w.heap.size]? = some (.deferred (some []))∧c2 (w.heap.size+1)=kl∧c2 w.heap.size=kl
  have keepB:∀{KK:Nat→Prop} {c2 W2 c3 W3 o i},Step KK c2 W2 c3 W3→¬KK kl→c2 i=kl→W2.heap[i]? = some o→W3.heap[i]? = some o∧c3 i=kl:=by
   intro KK c2 W2 c3 W3 o i hs hk hc hh;have hlt:=(Array.getElem?_eq_some_iff.1 hh).1;exact ⟨(hs.block _ hlt (by rw [hc];exact hk)).trans hh,(hs.col _ hlt (by rw [hc];exact hk)).trans hc⟩
  have hSK:Step (And1 K kl) c w c1 W1:=hS1.ofNo;refine (hseq (w.heap.size+1) J Jx c1 W1 hSK hO1 ?_ ?_ ?_ ?_).mono ?_
  ·rintro pre c2 W2 c3 W3 ⟨hi,hl,hd,e1,e2⟩ hs ho
   obtain ⟨a1,a2⟩:=keepB hs jI e1 hl;obtain ⟨b1,b2⟩:=keepB hs jI e2 hd;exact ⟨hI _ _ _ _ _ hi hs.ofNo ho,a1,b1,a2,b2⟩
  ·rintro pre c2 W2 c3 W3 ⟨j,hi,hl,hd,e1,e2⟩ hs ho
   obtain ⟨a1,a2⟩:=keepB hs jI e1 hl;obtain ⟨b1,b2⟩:=keepB hs jI e2 hd;exact ⟨j,hIx _ _ _ _ _ _ hi hs.ofNo ho,a1,b1,a2,b2⟩
  ·
   rintro pre x c2 W2 ar hpre ⟨hi,hl,hd,e1,e2⟩ ho hst hA;have hlt:w.heap.size+1<W2.heap.size:=(Array.getElem?_eq_some_iff.1 hl).1;have hy:=run_yield (P:=P) (args:=ar) hl (by rw [hr3];exact hps x _ _ _ hA);rw [hr4,hr3,hr5,hr6,hr7] at hy;refine ⟨fn,_,assign,body,hy,roundIn_of_wpIn hfn (hassign _ pre x c2 W2 ar hpre hi ho hst hA _ ?_)⟩;intro a1 c3 W3 ho3 hs3 hb3;obtain ⟨l3,k3⟩:=keepB hs3 hKl e1 hl;obtain ⟨d3,kd3⟩:=keepB hs3 hKl e2 hd;have hlt3:w.heap.size+1<W3.heap.size:=(Array.getElem?_eq_some_iff.1 l3).1;refine ⟨_,run_beginRound l3 (hr1 _ _),?_⟩;rw [hr8];have hs4:Step (One kl) c3 W3 c3 (W3.putObj (w.heap.size+1) (.loop (rec .busy none))):=(Step.refl (K:=One kl)).putObj (.inr k3) _;have ho4:Ok c3 (W3.putObj (w.heap.size+1) (.loop (rec .busy none))):=ho3.putObj _ (fun a ha=>frozen_loop a ha);have l4:(W3.putObj (w.heap.size+1) (.loop (rec .busy none))).heap[w.heap.size+1]? = some (.loop (rec .busy none)):=World.putObj_heap_same hlt3;have d4:(W3.putObj (w.heap.size+1) (.loop (rec .busy none))).heap[w.heap.size]? = some (.deferred (some [])):=(World.putObj_heap_other (by omega)).trans d3;refine wpIn_mono (hbody _ pre x a1 c3 _ (hB _ _ _ _ _ _ _ hb3 hs4 ho4) ho4) ?_
   have fin:∀(jump:Option Code) (c5:Col) (W5:World),Ok c5 W5→Step K c3 (W3.putObj (w.heap.size+1) (.loop (rec .busy none))) c5 W5 →
     (Instr.endRound (w.heap.size+1) jump).run P W5=.ok (.bool jump.isNone) (W5.putObj (w.heap.size+1) (.loop (rec (if jump.isNone then .ready else .done) jump))) ∧
     Step (One kl) c5 W5 c5 (W5.putObj (w.heap.size+1) (.loop (rec (if jump.isNone then .ready else .done) jump)))∧Ok c5 (W5.putObj (w.heap.size+1) (.loop (rec (if jump.isNone then .ready else .done) jump))) ∧
     (W5.putObj (w.heap.size+1) (.loop (rec (if jump.isNone then .ready else .done) jump))).heap[w.heap.size+1]? = some (.loop (rec (if jump.isNone then .ready else .done) jump)) ∧
     (W5.putObj (w.heap.size+1) (.loop (rec (if jump.isNone then .ready else .done) jump))).heap[w.heap.size]? = some (.deferred (some []))∧c5 (w.heap.size+1)=kl∧c5 w.heap.size=kl ∧
     Step (And1 K kl) c2 W2 c5 (W5.putObj (w.heap.size+1) (.loop (rec (if jump.isNone then .ready else .done) jump))):=by
    intro jump c5 W5 ho5 hs5;obtain ⟨l5,k5⟩:=keepB hs5 hKl k3 l4;obtain ⟨d5,kd5⟩:=keepB hs5 hKl kd3 d4;have hrun:=run_endRound (P:=P) jump l5;rw [hr9] at hrun;have hs6:Step (One kl) c5 W5 c5 (W5.putObj (w.heap.size+1) (.loop (rec (if jump.isNone then .ready else .done) jump))):=(Step.refl (K:=One kl)).putObj (.inr k5) _;refine ⟨hrun,hs6,ho5.putObj _ (fun a ha=>frozen_loop a ha),World.putObj_heap_same (Array.getElem?_eq_some_iff.1 l5).1,(World.putObj_heap_other (by omega)).trans d5,k5,kd5,?_⟩;exact ((hs3.mono (fun _ h=>.inl h)).trans (hs4.mono (fun _ h=>.inr h))).trans ((hs5.mono (fun _ h=>.inl h)).trans (hs6.mono (fun _ h=>.inr h)))
   rintro e a3 W5 hp
   cases e with
   | normal=>
    obtain ⟨c5,ho5,hs5,hi5⟩:=hp;obtain ⟨f1,f2,f3,f4,f5,f6,f7,f8⟩:=fin none c5 W5 ho5 hs5;exact ⟨_,_,f1,c5,f3,f8,.inl ⟨rfl,hI _ _ _ _ _ hi5 f2 f3,f4,f5,f6,f7⟩⟩
   | ret=>
    obtain ⟨c5,ho5,hs5,hi5⟩:=hp;obtain ⟨f1,f2,f3,f4,f5,f6,f7,f8⟩:=fin (some .ret) c5 W5 ho5 hs5;exact ⟨_,_,f1,c5,f3,f8,.inr ⟨rfl,.ret,hIx _ _ _ _ _ _ hi5 f2 f3,f4,f5,f6,f7⟩⟩
   | exit id=>
    obtain ⟨c5,ho5,hs5,hi5⟩:=hp;obtain ⟨f1,f2,f3,f4,f5,f6,f7,f8⟩:=fin (some (.exit id)) c5 W5 ho5 hs5;exact ⟨_,_,f1,c5,f3,f8,.inr ⟨rfl,.exit id,hIx _ _ _ _ _ _ hi5 f2 f3,f4,f5,f6,f7⟩⟩
   | goto t=>
    obtain ⟨c5,ho5,hs5,hi5⟩:=hp;obtain ⟨f1,f2,f3,f4,f5,f6,f7,f8⟩:=fin (some (.goto t)) c5 W5 ho5 hs5;exact ⟨_,_,f1,c5,f3,f8,.inr ⟨rfl,.goto t,hIx _ _ _ _ _ _ hi5 f2 f3,f4,f5,f6,f7⟩⟩
   | panic ch=>exact hp.elim
   | outgrown=>exact hp.elim
  ·exact ⟨hI _ _ _ _ _ h0 hS1.ofNo hO1,hL1,hK1,hcl,hcd⟩
  ·rintro e W2 ⟨⟨v,rfl⟩,c2,ho2,hs2,(⟨hi,hl,hd,e1,e2⟩ | ⟨pre,hpre,j,hi,hl,hd,e1,e2⟩)⟩
   ·have hrun:=run_endLoop (P:=P) hl (by rw [hr1];simp)
    rw [hr8,hr2] at hrun;have hs3:Step (One kl) c2 W2 c2 (W2.putObj (w.heap.size+1) (.loop (rec .exhausted none))):=(Step.refl (K:=One kl)).putObj (.inr e1) _;have ho3:Ok c2 (W2.putObj (w.heap.size+1) (.loop (rec .exhausted none))):=ho2.putObj _ (fun a ha=>frozen_loop a ha);exact ⟨none,_,hrun,hdone _ c2 _ (hI _ _ _ _ _ hi hs3 ho3) ho3 ((hSK.trans hs2).trans (hs3.mono fun _ h=>.inr h)) ((World.putObj_heap_other (by omega)).trans hd) (Nat.le_refl _) e2⟩
   ·have hrun:=run_endLoop (P:=P) hl (by rw [hr1];simp)
    rw [hr8,hr2] at hrun;have hs3:Step (One kl) c2 W2 c2 (W2.putObj (w.heap.size+1) (.loop (rec .exhausted (some j)))):=(Step.refl (K:=One kl)).putObj (.inr e1) _;have ho3:Ok c2 (W2.putObj (w.heap.size+1) (.loop (rec .exhausted (some j)))):=ho2.putObj _ (fun a ha=>frozen_loop a ha);refine ⟨some j,_,hrun,?_⟩;show j.wpIn Fence.wide 0 P Q _ _;rw [wpIn_wide];exact hstop _ j pre c2 _ hpre (hIx _ _ _ _ _ _ hi hs3 ho3) ho3 ((hSK.trans hs2).trans (hs3.mono fun _ h=>.inr h)) ((World.putObj_heap_other (by omega)).trans hd) (Nat.le_refl _) e2
structure At (c:Col) (W:World) (b k:Nat) (vs:List Value):Prop where
 col:c b=k
 lt:b<W.heap.size
 cells:zas W b 0 vs
theorem At.keep {K:Nat→Prop}{c c':Col}{W W':World}{b k:Nat}{vs:List Value}(h:At c W b k vs) (hs:Step K c W c' W') (hk:¬K k):At c' W' b k vs:=by
 obtain ⟨rfl,h2,h3⟩:=h;exact ⟨hs.col _ h2 hk,Nat.lt_of_lt_of_le h2 hs.size,h3.keep hs h2 hk⟩
theorem At.c0 {c:Col}{W:World}{b k:Nat}{v:Value}{vs:List Value}(h:At c W b k (v::vs)):W.cell? ⟨b,0,none⟩=some v:=h.cells 0 v rfl
theorem At.fz {c:Col}{W:World}{b k:Nat}{vs:List Value}(h:At c W b k vs) (ho:Ok c W) (hk:k≠0) (o:Nat):W.frozen? ⟨b,o,none⟩=false:=ho.soft b o (by rw [h.col];exact hk)
theorem At.set0 {c:Col}{W:World}{b k:Nat}{v u:Value}(h:At c W b k [v]):At c (W.setCell ⟨b,0,none⟩ u) b k [u]:=
 ⟨h.col,by rw [zbh];exact h.lt,by
  intro j x hx;have hj:j=0:=by have:=(List.getElem?_eq_some_iff.1 hx).1;simp at this;omega
  subst hj;simp at hx;subst hx
  exact World.cell?_setCell_same' _ _ _ (by rw [show (⟨b,0+0,none⟩:Addr)=⟨b,0,none⟩ from rfl,h.c0];rfl)⟩
theorem At.new {c:Col}{W:World}(vs:List Value) (e:TypeId) (k:Nat):At (c.put W.heap.size k) (W.alloc (.cells vs.toArray e)) W.heap.size k vs:=
 ⟨by simp,by simp,cellsAt_new W vs e _⟩
theorem At.new0 {c:Col}{W:World}(hok:Ok c W) (vs:List Value) (e:TypeId):At c (W.alloc (.cells vs.toArray e)) W.heap.size 0 vs:=
 ⟨hok.fresh _ (Nat.le_refl _),by simp,cellsAt_new W vs e _⟩
theorem zan {c:Col}{W:World}(hok:Ok c W) (vs:List Value) (e:TypeId) (k:Nat):At (c.put W.heap.size k) (W.alloc (.cells vs.toArray e)) W.heap.size k vs∧Ok (c.put W.heap.size k) (W.alloc (.cells vs.toArray e))∧Step No c W (c.put W.heap.size k) (W.alloc (.cells vs.toArray e)):=
 ⟨At.new vs e k,(hok.alloc _).put (by simp) (fun o=>by
  have hnew:(W.alloc (.cells vs.toArray e)).heap[W.heap.size]? = some (.cells vs.toArray e (0,0)):=heap_alloc_new W _
  unfold World.frozen?;rw [hnew];simp),(Step.refl.alloc _).put (.inl (Nat.le_refl _))⟩
theorem calls_of_wp_marks {P:Program}{f:FuncId}{fn:Func}{cd:Code}{args:Array Value}{w:World}{R:Ending→World→Prop}(hf:P.funcs[f]? = some fn) (hb:fn.body=some cd)
  (h:cd.wp P (bodyPostM Fence.wide 0 P fn R) { tmps:=args++Array.replicate (fn.ntmps-args.size) undef,defers:=[] } w):Calls P f args w R:=
 (callsIn_wide (n:=0)).1 (callsIn_of_wp_marks hf hb trivial (wpIn_wide.2 h))
theorem leaveM {P:Program}{fn:Func}{R:Ending→World→Prop}{a:Act}{W:World}{D:Nat}{v:Value}(hD:W.heap[D]? = some (.deferred (some []))) (ha:a.defers=[{ target:=.collected D,args:=#[] }])
  (hr:(results fn a.tmps).run P (W.putObj D (.deferred none))=.ok v (W.putObj D (.deferred none))) (hR:R (.returned v) (W.putObj D (.deferred none))) :
  bodyPostM Fence.wide 0 P fn R .ret a W:=by
 show LeavesInM _ _ _ _ _ _ a.defers _ _;rw [ha];exact ⟨by simp,.inl ⟨_,_,rfl,run_takeDeferred hD,⟨_,hr,hR⟩⟩⟩
section
variable {P:Program}{ops:Array Oper}{Q:Exit→Act→World→Prop}
theorem wpIn_of_wp {o:Oper}(hd:∀cl,o.op≠.defer cl) {a:Act}{w:World}{K K':Act→World→Prop}(hK:∀a w,K a w→K' a w) (lp:Nat) (h:o.wp P a w K Q):o.wpIn (Fence.wide.inRound lp) 0 P a w K' Q:=by
 refine ⟨fun _ _=>trivial,?_⟩;rw [Oper.semAt_eq _ _ _ hd];unfold Oper.wp at h
 cases hr:(execOp a.eval o).run P w with
 | halt x w'=>
  rw [hr] at h
  cases x <;> first | exact h | exact h.elim
 | ok x w'=>
  rw [hr] at h
  cases x with
  | value v=>exact hK _ _ h
  | skip=>exact hK _ _ h
  | defer d=>exact hK _ _ h
  | enter f args=>
   refine ⟨fun h=>by simp [Fence.wide] at h,CallsIn.inRound lp ((callsIn_wide (n:=0)).2 (Calls.mono h ?_))⟩;intro e w'' hh
   cases e with
   | returned v=>exact hK _ _ hh
   | panicked ch=>exact hh
   | outgrown=>exact hh
  | row r args=>
   refine ⟨fun h=>by simp [Fence.wide] at h,fun c cs _=>?_⟩;obtain ⟨v,w'',r,s⟩:=h c cs;exact ⟨v,w'',hK _ _ r,stepsIn_wide.2 s⟩
  | _=>exact h.elim
theorem zbt (hd:∀(i:Nat) o,ops[i]? = some o→∀cl,o.op≠.defer cl) (hq:¬LetsOut Q) (lp:Nat):∀(l:List Nat) (a:Act) (w:World),wpOps P ops Q l a w→wpOpsIn (Fence.wide.inRound lp) 0 P ops Q l a w
 | [],_,_,h=>h
 | i::rest,a,w,h=>by
  simp only [wpOps] at h;simp only [wpOpsIn]
  cases ho:ops[i]? with
  | none=>simp only [ho] at h ⊢;exact zbt hd hq lp rest a w h
  | some o=>
   simp only [ho] at h ⊢
   split
   ·rename_i hw
    rw [if_pos hw] at h
    rcases h with h | ⟨_,h⟩
    ·exact wpIn_of_wp (hd i o ho) (fun a w=>zbt hd hq lp rest a w) lp h
    ·exact (hq h).elim
   ·rename_i hw
    rw [if_neg hw] at h;exact ⟨fun _ _=>trivial,zbt hd hq lp rest _ w h⟩
def noDefers (ops:Array Oper):Bool:=ops.all fun o=>match o.op with | .defer _=>false | _=>true
theorem noDefers_spec (h:noDefers ops=true):∀(i:Nat) o,ops[i]? = some o→∀cl,o.op≠.defer cl:=by
 intro i o ho cl e;have hm:o∈ops:=Array.mem_of_getElem? ho;have:=Array.all_eq_true'.1 h o hm;rw [e] at this;cases this
end
section
variable {P:Program}{ops:Array Oper}{Q:Exit→Act→World→Prop}{S:World→Prop}{D:Nat→Bool}
def zab (P:Program) (ops:Array Oper) (Q:Exit→Act→World→Prop) (S:World→Prop) (D:Nat→Bool):Nat→Array Bool→Act→World→Prop
 | 0,done,a,w=>Region.ready .any ops done=[]∧Q .normal a w
 | n+1,done,a,w=>(Region.ready .any ops done=[]→Q .normal a w) ∧
   ∀i∈Region.ready .any ops done,wpOp P ops Q i (fun a' w'=>(D i=true→S w')∧zab P ops Q S D n (done.setIfInBounds i true) a' w') a w
theorem zab.any:∀(n:Nat) (done:Array Bool) (a:Act) (w:World),zab P ops Q S D n done a w→wpAny P .any ops Q n done a w
 | 0,_,_,_,h=>h
 | n+1,_,_,_,h=>⟨h.1,fun i hi=>wpOp_mono (fun a' w' h'=>zab.any n _ a' w' h'.2) (h.2 i hi)⟩
def waitsFor (ops:Array Oper) (j i:Nat):Bool:=match ops[j]? with | some o=>o.after.any fun e=>Region.binds .any e&&e.on==i | none=>true
theorem zab.take_aux {i:Nat}{oi:Oper}{v:Value}(hi:ops[i]? = some oi) (hsel:∀(j:Nat) (o:Oper) cs b,ops[j]? = some o→o.op≠.select cs b)
  (hQ:∀c a w,Q (.panic c) (a.put oi.dst v) w→Q (.panic c) a w) (hD:∀j,j<ops.size→j≠i→D j=true∨waitsFor ops j i=true) :
  ∀(n:Nat) (done:Array Bool) (a:Act) (w:World),
   (∀j oj,ops[j]? = some oj→j≠i→done.getD j true=false→(∀e∈oj.after,Region.binds .any e=true→e.on≠i)→oi.apart ops oj=true) →
   i∈Region.ready .any ops done→YieldsIf P ops S oi v a→S w →
   zab P ops Q S D n (done.setIfInBounds i true) (a.put oi.dst v) w→zab P ops Q S D (n+1) done a w:=by
 intro n
 induction n with
 | zero=>
  intro done a w _ hr hy hS H;refine ⟨fun h=>(by rw [h] at hr;cases hr),fun j hj=>?_⟩;by_cases e:j=i
  ·subst e;exact hy.wpOp hi hS ⟨fun _=>hS,H⟩
  ·have:=ready_mono hj e
   rw [H.1] at this
   cases this
 | succ n ih=>
  intro done a w hfree hr hy hS H;refine ⟨fun h=>(by rw [h] at hr;cases hr),fun j hj=>?_⟩;by_cases e:j=i
  ·subst e;exact hy.wpOp hi hS ⟨fun _=>hS,H⟩
  obtain ⟨hjun,oj,hoj,hall⟩:=mem_ready.1 hj;have hi0:=(mem_ready.1 hr).1
  have hnot:∀x∈oj.after,Region.binds .any x=true→x.on≠i:=fun x hx hb hxi=>by
   have h1:=hall x hx hb;rw [hxi] at h1
   rcases Nat.lt_or_ge i done.size with h' | h'
   ·simp [h'] at hi0 h1;rw [hi0] at h1;cases h1
   ·simp [Array.getElem?_eq_none h'] at h1
  have hDj:D j=true:=by
   have hlt:j<ops.size:=by
    rcases Nat.lt_or_ge j ops.size with h | h
    ·exact h
    ·rw [Array.getElem?_eq_none h] at hoj;cases hoj
   rcases hD j hlt e with h | h
   ·exact h
   ·unfold waitsFor at h
    rw [hoj] at h;obtain ⟨x,hx,hb⟩:=Array.any_eq_true'.1 h;simp only [Bool.and_eq_true,beq_iff_eq] at hb;exact absurd hb.2 (hnot x hx hb.1)
  have step:=wpOp_putIf hoj (hfree j oj hoj e hjun hnot) (fun cs b=>hsel i oi cs b hi) (fun cs b=>hsel j oj cs b hoj) hQ hy (H.2 j (ready_mono hj e));refine wpOp_mono (fun a' w' hh=>⟨fun _=>hh.2.1 hDj,ih (done.setIfInBounds j true) a' w' (fun k ok hk hki hun hno=>hfree k ok hk hki ?_ hno) (ready_mono hr (Ne.symm e)) hh.1 (hh.2.1 hDj) ?_⟩) step
  ·by_cases hjk:j=k
   ·subst hjk;exact hjun
   ·rw [getD_set_ne true hjk] at hun;exact hun
  ·rw [Array.setIfInBounds_comm _ _ e]
   exact hh.2.2
theorem zab.take {i:Nat}{oi:Oper}{v:Value}{n:Nat}{done:Array Bool}{a:Act}{w:World}(hi:ops[i]? = some oi)
  (hs:Region.noSelect ops=true) (hf:Region.free .any ops done i=true) (hr:(Region.ready .any ops done).contains i=true)
  (hD:(List.range ops.size).all (fun j=>j==i||D j||waitsFor ops j i)=true)
  (hQ:∀c a w,Q (.panic c) (a.put oi.dst v) w→Q (.panic c) a w) (hy:YieldsIf P ops S oi v a) (hS:S w)
  (h:zab P ops Q S D n (done.setIfInBounds i true) (a.put oi.dst v) w):zab P ops Q S D (n+1) done a w:=
 zab.take_aux hi (Region.noSelect_spec hs) hQ (fun j hj hji=>by
  have:=List.all_eq_true.1 hD j (List.mem_range.2 hj);simp only [Bool.or_eq_true,beq_iff_eq] at this
  rcases this with (h | h) | h
  ·exact absurd h hji
  ·exact .inl h
  ·exact .inr h) n done a w (Region.free_spec hi hf) (by simpa using hr) hy hS h
theorem zab.all {rs:List Nat}{n:Nat}{done:Array Bool}{a:Act}{w:World}(hr:Region.ready .any ops done=rs) (hne:rs≠[])
  (h:∀i∈rs,wpOp P ops Q i (fun a' w'=>(D i=true→S w')∧zab P ops Q S D n (done.setIfInBounds i true) a' w') a w):zab P ops Q S D (n+1) done a w:=
 ⟨fun h0=>absurd (hr▸h0) hne,hr▸h⟩
theorem zab.one {i n:Nat}{o:Oper}{done:Array Bool}{a:Act}{w:World}(hr:Region.ready .any ops done=[i]) (ho:ops[i]? = some o)
  (h:∀K':Act→World→Prop,Shut (∀a w,(D i=true→S w)→zab P ops Q S D n (done.setIfInBounds i true) a w→K' a w)→if Region.wanted o (yielded ops a.tmps)=true then Oper.wp P o a w K' Q else K' (a.put o.dst undef) w) :
  zab P ops Q S D (n+1) done a w:=
 zab.all hr (by simp) (fun j hj=>by
  rcases List.mem_singleton.1 hj with rfl
  exact wpOp_step ho (fun K' hK=>h K' (fun a w hS hW=>hK a w ⟨hS,hW⟩)))
theorem zab.done {done:Array Bool}{a:Act}{w:World}(hr:Region.ready .any ops done=[]) (h:Q .normal a w):∀n,zab P ops Q S D n done a w
 | 0=>⟨hr,h⟩
 | _+1=>⟨fun _=>h,by rw [hr];simp⟩
theorem zac {id:Nat}{a:Act}{w:World}(S:World→Prop) (D:Nat→Bool) (hm:P.follows .mixedOrders=true)
  (h:zab P ops Q S D ops.size (Array.replicate ops.size false) a w.drew):(Code.region id ops true).wp P Q a w:=
 wp_region_any hm (zab.any _ _ _ _ h)
end
section
variable {P:Program}{ops:Array Oper}{Q:Exit→Act→World→Prop}{S:World→Prop}{D:Nat→Bool}
def waits1 (ops:Array Oper) (j i:Nat):Bool:=match ops[j]? with | some o=>o.after.any fun e=>Region.binds .any e&&e.on==i | none=>false
def waits2 (ops:Array Oper) (j i:Nat):Bool:=waits1 ops j i||match ops[j]? with | some o=>o.after.any fun e=>Region.binds .any e&&waits1 ops e.on i | none=>false
def closedB (ops:Array Oper) (done:Array Bool):Bool:=(List.range ops.size).all fun d=>!(done.getD d true)||match ops[d]? with | some o=>o.after.all (fun e=>!Region.binds .any e||done.getD e.on false) | none=>true
def Closed (ops:Array Oper) (done:Array Bool):Prop:=∀(d:Nat) od,ops[d]? = some od→done.getD d true=true→∀e∈od.after,Region.binds .any e=true→done.getD e.on false=true
theorem closed_of {done:Array Bool}(h:closedB ops done=true):Closed ops done:=by
 intro d od hd hdn e he hb;have hlt:d<ops.size:=(Array.getElem?_eq_some_iff.1 hd).1;have:=List.all_eq_true.1 h d (List.mem_range.2 hlt);rw [hdn,hd] at this;simp only [Bool.not_true,Bool.false_or] at this;have:=Array.all_eq_true'.1 this e he;rw [hb] at this;simpa using this
theorem getD_false_set {done:Array Bool}{i k:Nat}(h:done.getD k false=true):(done.setIfInBounds i true).getD k false=true:=by
 have hk:k<done.size:=by
  rcases Nat.lt_or_ge k done.size with h' | h'
  ·exact h'
  ·simp [Array.getElem?_eq_none h'] at h
 by_cases e:i=k
 ·subst e;simp [hk]
 ·simp [Array.getElem?_setIfInBounds,e,hk] at h ⊢;exact h
theorem Closed.set {done:Array Bool}(h:Closed ops done) {j:Nat}{oj:Oper}(hoj:ops[j]? = some oj) (hall:∀e∈oj.after,Region.binds .any e=true→done.getD e.on false=true):Closed ops (done.setIfInBounds j true):=by
 intro d od hd hdn e he hb;by_cases hj:j=d
 ·subst hj
  rw [hoj] at hd;cases hd;exact getD_false_set (hall e he hb)
 ·rw [getD_set_ne true hj] at hdn
  exact getD_false_set (h d od hd hdn e he hb)
theorem zab.takeT_aux {i:Nat}{oi:Oper}{v:Value}(hi:ops[i]? = some oi) (hsel:∀(j:Nat) (o:Oper) cs b,ops[j]? = some o→o.op≠.select cs b)
  (hQ:∀c a w,Q (.panic c) (a.put oi.dst v) w→Q (.panic c) a w) (hD:∀j,j<ops.size→j≠i→D j=true∨waits2 ops j i=true) :
  ∀(n:Nat) (done:Array Bool) (a:Act) (w:World),Closed ops done →
   (∀j oj,ops[j]? = some oj→j≠i→done.getD j true=false→(∀e∈oj.after,Region.binds .any e=true→e.on≠i)→oi.apart ops oj=true) →
   i∈Region.ready .any ops done→YieldsIf P ops S oi v a→S w →
   zab P ops Q S D n (done.setIfInBounds i true) (a.put oi.dst v) w→zab P ops Q S D (n+1) done a w:=by
 intro n
 induction n with
 | zero=>
  intro done a w _ _ hr hy hS H;refine ⟨fun h=>(by rw [h] at hr;cases hr),fun j hj=>?_⟩;by_cases e:j=i
  ·subst e;exact hy.wpOp hi hS ⟨fun _=>hS,H⟩
  ·have:=ready_mono hj e
   rw [H.1] at this
   cases this
 | succ n ih=>
  intro done a w hcl hfree hr hy hS H;refine ⟨fun h=>(by rw [h] at hr;cases hr),fun j hj=>?_⟩;by_cases e:j=i
  ·subst e;exact hy.wpOp hi hS ⟨fun _=>hS,H⟩
  obtain ⟨hjun,oj,hoj,hall⟩:=mem_ready.1 hj;have hi0:=(mem_ready.1 hr).1
  have hi00:done.getD i false=false:=by
   rcases Nat.lt_or_ge i done.size with h' | h'
   ·simp [h'] at hi0 ⊢;exact hi0
   ·simp [Array.getElem?_eq_none h']
  have hnot:∀x∈oj.after,Region.binds .any x=true→x.on≠i:=fun x hx hb hxi=>by
   have h1:=hall x hx hb;rw [hxi,hi00] at h1
   cases h1
  have hDj:D j=true:=by
   have hlt:j<ops.size:=by
    rcases Nat.lt_or_ge j ops.size with h | h
    ·exact h
    ·rw [Array.getElem?_eq_none h] at hoj;cases hoj
   rcases hD j hlt e with h | h
   ·exact h
   ·exfalso
    unfold waits2 at h;rw [Bool.or_eq_true] at h
    rcases h with h | h
    ·unfold waits1 at h
     rw [hoj] at h;obtain ⟨x,hx,hb⟩:=Array.any_eq_true'.1 h;simp only [Bool.and_eq_true,beq_iff_eq] at hb;exact absurd hb.2 (hnot x hx hb.1)
    ·rw [hoj] at h
     obtain ⟨x,hx,hb⟩:=Array.any_eq_true'.1 h;rw [Bool.and_eq_true] at hb;have hdx:=hall x hx hb.1
     have hxs:done.getD x.on true=true:=by
      rcases Nat.lt_or_ge x.on done.size with h' | h'
      ·simp [h'] at hdx ⊢;exact hdx
      ·simp [Array.getElem?_eq_none h']
     have hw:=hb.2;unfold waits1 at hw
     cases hox:ops[x.on]? with
     | none=>rw [hox] at hw;cases hw
     | some ox=>
      rw [hox] at hw;obtain ⟨y,hy',hby⟩:=Array.any_eq_true'.1 hw;simp only [Bool.and_eq_true,beq_iff_eq] at hby;have:=hcl x.on ox hox hxs y hy' hby.1;rw [hby.2,hi00] at this
      cases this
  have step:=wpOp_putIf hoj (hfree j oj hoj e hjun hnot) (fun cs b=>hsel i oi cs b hi) (fun cs b=>hsel j oj cs b hoj) hQ hy (H.2 j (ready_mono hj e));refine wpOp_mono (fun a' w' hh=>⟨fun _=>hh.2.1 hDj,ih (done.setIfInBounds j true) a' w' (hcl.set hoj hall) (fun k ok hk hki hun hno=>hfree k ok hk hki ?_ hno) (ready_mono hr (Ne.symm e)) hh.1 (hh.2.1 hDj) ?_⟩) step
  ·by_cases hjk:j=k
   ·subst hjk;exact hjun
   ·rw [getD_set_ne true hjk] at hun;exact hun
  ·rw [Array.setIfInBounds_comm _ _ e]
   exact hh.2.2
theorem zab.takeT {i:Nat}{oi:Oper}{v:Value}{n:Nat}{done:Array Bool}{a:Act}{w:World}(d:Option Tmp) (hi:ops[i]? = some oi) (hd:oi.dst=d)
  (hs:Region.noSelect ops=true) (hf:Region.free .any ops done i=true) (hr:(Region.ready .any ops done).contains i=true) (hc:closedB ops done=true)
  (hD:(List.range ops.size).all (fun j=>j==i||D j||waits2 ops j i)=true)
  (hQ:∀c a w,Q (.panic c) (a.put d v) w→Q (.panic c) a w) (hy:YieldsIf P ops S oi v a) (hS:S w)
  (h:zab P ops Q S D n (done.setIfInBounds i true) (a.put d v) w):zab P ops Q S D (n+1) done a w:=by
 subst hd
 exact zab.takeT_aux hi (Region.noSelect_spec hs) hQ (fun j hj hji=>by
  have:=List.all_eq_true.1 hD j (List.mem_range.2 hj);simp only [Bool.or_eq_true,beq_iff_eq] at this
  rcases this with (h | h) | h
  ·exact absurd h hji
  ·exact .inl h
  ·exact .inr h) n done a w (closed_of hc) (Region.free_spec hi hf) (by simpa using hr) hy hS h
theorem zab.fork2 {i j n:Nat}{oi oj:Oper}{done:Array Bool}{a:Act}{w:World}(hr:Region.ready .any ops done=[i,j]) (hi:ops[i]? = some oi) (hj:ops[j]? = some oj)
  (h1:∀K':Act→World→Prop,Shut (∀a w,(D i=true→S w)→zab P ops Q S D n (done.setIfInBounds i true) a w→K' a w)→if Region.wanted oi (yielded ops a.tmps)=true then Oper.wp P oi a w K' Q else K' (a.put oi.dst undef) w)
  (h2:∀K':Act→World→Prop,Shut (∀a w,(D j=true→S w)→zab P ops Q S D n (done.setIfInBounds j true) a w→K' a w)→if Region.wanted oj (yielded ops a.tmps)=true then Oper.wp P oj a w K' Q else K' (a.put oj.dst undef) w) :
  zab P ops Q S D (n+1) done a w:=by
 refine zab.all hr (by simp) (fun k hk=>?_);simp only [List.mem_cons,List.not_mem_nil,or_false] at hk
 rcases hk with rfl | rfl
 ·exact wpOp_step hi (fun K' hK=>h1 K' (fun a w hS hW=>hK a w ⟨hS,hW⟩))
 ·exact wpOp_step hj (fun K' hK=>h2 K' (fun a w hS hW=>hK a w ⟨hS,hW⟩))
theorem zab.cast {n:Nat}{done done':Array Bool}{a:Act}{w:World}(h:zab P ops Q S D n done' a w) (e:done'=done):zab P ops Q S D n done a w:=e▸h
end
theorem zaU {Q:Exit→Act→World→Prop}{a:Act}{w:World}(h:Q .normal a w):NoPanic Q .normal a w:=h
