/- ServerReplies, part 02: lemmas, each with its own conditions. -/
import Derived.Test.YtgcobbapaaihiaaGreatSz01
import Derived.Laws.IdiomStrings
import Derived.Test.YtgcobbapaaihiaaGreatProg
import Derived.Laws.RangeAny
import Derived.Deep.DeepFit
import Derived.Lib.AppendZeros
set_option linter.all false
set_option maxHeartbeats 12800000
set_option maxRecDepth 100000
open Go.Proofs.Tryz
namespace Go.Proofs.YtgcobbapaaihiaaGreat
open Go.RowKit
section
variable {P:Program}{ops:Array Oper}{Q:Exit→Act→World→Prop}{S:World→Prop}{D:Nat→Bool}{n:Nat}{done:Array Bool}{a:Act}{w:World}
theorem tk (i:Nat) (v:Value) (d:Nat) {oi:Oper}(hi:ops[i]? = some oi) (hd:oi.dst=some d) (hy:YieldsIf P ops S oi v a) (hS:S w) {T:Act}
  (h:zab P ops Q S D n (done.setIfInBounds i true) T w)
  (hs:Region.noSelect ops=true:=by kernel_rfl) (hf:Region.free .any ops done i=true:=by kernel_rfl) (hr:(Region.ready .any ops done).contains i=true:=by kernel_rfl) (hc:closedB ops done=true:=by kernel_rfl)
  (hD:(List.range ops.size).all (fun j=>j==i||D j||waits2 ops j i)=true:=by kernel_rfl)
  (hQ:∀c a w,Q (.panic c) (a.put (some d) v) w→Q (.panic c) a w:=by exact fun _ _ _ h=>h)
  (hT:a.put (some d) v=T:=by (try simp only [jS]);rfl):zab P ops Q S D (n+1) done a w:=by
 subst hT;exact zab.takeT (some d) hi hd hs hf hr hc hD hQ hy hS h
theorem tk0 (i:Nat) (v:Value) (d:Nat) {oi:Oper}(hi:ops[i]? = some oi) (hd:oi.dst=some d) (hS:S w) {T:Act}
  (h:zab P ops Q S D n (done.setIfInBounds i true) T w)
  (hy:YieldsIf P ops S oi v a:=by exact Or.inl ⟨by rfl,fun W _=>by go_simp <;> rfl⟩)
  (hs:Region.noSelect ops=true:=by kernel_rfl) (hf:Region.free .any ops done i=true:=by kernel_rfl) (hr:(Region.ready .any ops done).contains i=true:=by kernel_rfl) (hc:closedB ops done=true:=by kernel_rfl)
  (hD:(List.range ops.size).all (fun j=>j==i||D j||waits2 ops j i)=true:=by kernel_rfl)
  (hQ:∀c a w,Q (.panic c) (a.put (some d) v) w→Q (.panic c) a w:=by exact fun _ _ _ h=>h)
  (hT:a.put (some d) v=T:=by (try simp only [jS]);rfl):zab P ops Q S D (n+1) done a w:=
 tk i v d hi hd hy hS h hs hf hr hc hD hQ hT
theorem tk1 (i:Nat) (v:Value) (d:Nat) {oi:Oper}(hi:ops[i]? = some oi) (hd:oi.dst=some d) (hS:S w) {T:Act}
  (h:zab P ops Q S D n (done.setIfInBounds i true) T w)
  (hy:YieldsIf P ops S oi v a:=by exact Or.inl ⟨by rfl,fun W hW=>by first | (obtain q0:=hW;go_simp <;> rfl) | (obtain q0:=hW;go_simp;done)⟩)
  (hs:Region.noSelect ops=true:=by kernel_rfl) (hf:Region.free .any ops done i=true:=by kernel_rfl) (hr:(Region.ready .any ops done).contains i=true:=by kernel_rfl) (hc:closedB ops done=true:=by kernel_rfl)
  (hD:(List.range ops.size).all (fun j=>j==i||D j||waits2 ops j i)=true:=by kernel_rfl)
  (hQ:∀c a w,Q (.panic c) (a.put (some d) v) w→Q (.panic c) a w:=by exact fun _ _ _ h=>h)
  (hT:a.put (some d) v=T:=by (try simp only [jS]);rfl):zab P ops Q S D (n+1) done a w:=
 tk i v d hi hd hy hS h hs hf hr hc hD hQ hT
theorem tk2 (i:Nat) (v:Value) (d:Nat) {oi:Oper}(hi:ops[i]? = some oi) (hd:oi.dst=some d) (hS:S w) {T:Act}
  (h:zab P ops Q S D n (done.setIfInBounds i true) T w)
  (hy:YieldsIf P ops S oi v a:=by exact Or.inl ⟨by rfl,fun W hW=>by first | (obtain ⟨q0,q1⟩:=hW;go_simp <;> rfl) | (obtain ⟨q0,q1⟩:=hW;go_simp;done)⟩)
  (hs:Region.noSelect ops=true:=by kernel_rfl) (hf:Region.free .any ops done i=true:=by kernel_rfl) (hr:(Region.ready .any ops done).contains i=true:=by kernel_rfl) (hc:closedB ops done=true:=by kernel_rfl)
  (hD:(List.range ops.size).all (fun j=>j==i||D j||waits2 ops j i)=true:=by kernel_rfl)
  (hQ:∀c a w,Q (.panic c) (a.put (some d) v) w→Q (.panic c) a w:=by exact fun _ _ _ h=>h)
  (hT:a.put (some d) v=T:=by (try simp only [jS]);rfl):zab P ops Q S D (n+1) done a w:=
 tk i v d hi hd hy hS h hs hf hr hc hD hQ hT
theorem tk3 (i:Nat) (v:Value) (d:Nat) {oi:Oper}(hi:ops[i]? = some oi) (hd:oi.dst=some d) (hS:S w) {T:Act}
  (h:zab P ops Q S D n (done.setIfInBounds i true) T w)
  (hy:YieldsIf P ops S oi v a:=by exact Or.inl ⟨by rfl,fun W hW=>by first | (obtain ⟨q0,q1,q2⟩:=hW;go_simp <;> rfl) | (obtain ⟨q0,q1,q2⟩:=hW;go_simp;done)⟩)
  (hs:Region.noSelect ops=true:=by kernel_rfl) (hf:Region.free .any ops done i=true:=by kernel_rfl) (hr:(Region.ready .any ops done).contains i=true:=by kernel_rfl) (hc:closedB ops done=true:=by kernel_rfl)
  (hD:(List.range ops.size).all (fun j=>j==i||D j||waits2 ops j i)=true:=by kernel_rfl)
  (hQ:∀c a w,Q (.panic c) (a.put (some d) v) w→Q (.panic c) a w:=by exact fun _ _ _ h=>h)
  (hT:a.put (some d) v=T:=by (try simp only [jS]);rfl):zab P ops Q S D (n+1) done a w:=
 tk i v d hi hd hy hS h hs hf hr hc hD hQ hT
theorem tk4 (i:Nat) (v:Value) (d:Nat) {oi:Oper}(hi:ops[i]? = some oi) (hd:oi.dst=some d) (hS:S w) {T:Act}
  (h:zab P ops Q S D n (done.setIfInBounds i true) T w)
  (hy:YieldsIf P ops S oi v a:=by exact Or.inl ⟨by rfl,fun W hW=>by first | (obtain ⟨q0,q1,q2,q3⟩:=hW;go_simp <;> rfl) | (obtain ⟨q0,q1,q2,q3⟩:=hW;go_simp;done)⟩)
  (hs:Region.noSelect ops=true:=by kernel_rfl) (hf:Region.free .any ops done i=true:=by kernel_rfl) (hr:(Region.ready .any ops done).contains i=true:=by kernel_rfl) (hc:closedB ops done=true:=by kernel_rfl)
  (hD:(List.range ops.size).all (fun j=>j==i||D j||waits2 ops j i)=true:=by kernel_rfl)
  (hQ:∀c a w,Q (.panic c) (a.put (some d) v) w→Q (.panic c) a w:=by exact fun _ _ _ h=>h)
  (hT:a.put (some d) v=T:=by (try simp only [jS]);rfl):zab P ops Q S D (n+1) done a w:=
 tk i v d hi hd hy hS h hs hf hr hc hD hQ hT
theorem tku (i:Nat) (v:Value) (d:Nat) {oi:Oper}(hi:ops[i]? = some oi) (hd:oi.dst=some d) (hS:S w) {T:Act}
  (h:zab P ops Q S D n (done.setIfInBounds i true) T w)
  (hy:YieldsIf P ops S oi v a:=by exact Or.inr ⟨by rfl,rfl⟩)
  (hs:Region.noSelect ops=true:=by kernel_rfl) (hf:Region.free .any ops done i=true:=by kernel_rfl) (hr:(Region.ready .any ops done).contains i=true:=by kernel_rfl) (hc:closedB ops done=true:=by kernel_rfl)
  (hD:(List.range ops.size).all (fun j=>j==i||D j||waits2 ops j i)=true:=by kernel_rfl)
  (hQ:∀c a w,Q (.panic c) (a.put (some d) v) w→Q (.panic c) a w:=by exact fun _ _ _ h=>h)
  (hT:a.put (some d) v=T:=by (try simp only [jS]);rfl):zab P ops Q S D (n+1) done a w:=
 tk i v d hi hd hy hS h hs hf hr hc hD hQ hT
end
theorem conv_sl {P:Program}{c:Col}{k k2:Nat}{w:World}{v:Value}{l:List UInt8}(h:Sl zag c k k2 w v l) (src dst e:TypeId) (hs:P.underlying src=some (.slice e)) (he:P.underlying e=some (.int .u8)) (hd:P.underlying dst=some .string) :
  (convert src dst v).run P w=.ok (.string ⟨l.toArray⟩) w:=by
 rcases h with ⟨rfl,a,cap,rfl,_,hcap⟩ | ⟨b,off,cap,rfl,_,_,_,_,h5⟩
 ·cases a with
  | none=>
   obtain rfl:=hcap rfl;simp [convert,run_underlying hs,run_underlying he,run_underlying hd,Conv.bytesToString,Sem.run_pure]
   rfl
  | some ad=>exact run_convert_bytes_back w src dst e ad cap [] hs he hd (by intro j hj;simp at hj)
 ·refine run_convert_bytes_back w src dst e ⟨b,off,none⟩ cap l hs he hd (fun j hj=>?_)
  obtain ⟨vs,rfl,hc⟩:=h5 j l[j] (by simp [hj]);have:=hc 0 _ rfl;have hadd:(⟨b,off,none⟩:Addr).add j=⟨b,off+j*zag.n+0,none⟩:=by unfold Addr.add;split <;> simp_all [zag]
  rw [hadd];exact this
def ByteCell (w:World) (a:Addr):Prop:=∃n:Int,w.cell? a=some (.int .u8 n)∧0≤n∧n≤255
def zbo (w w':World):Prop:=∀b o,ByteCell w ⟨b,o,none⟩→ByteCell w' ⟨b,o,none⟩
theorem zbo.refl (w:World):zbo w w:=fun _ _ h=>h
theorem zbo.trans {a b c:World}(h:zbo a b) (k:zbo b c):zbo a c:=fun x o hx=>k x o (h x o hx)
theorem zbo.set {w:World}{a:Addr}(ha:ByteCell w a) {n:Int}(h0:0≤n) (h1:n≤255):zbo w (w.setCell a (.int .u8 n)):=by
 intro b o ⟨m,hm,h2,h3⟩;by_cases e:a=⟨b,o,none⟩
 ·subst e
  exact ⟨n,World.cell?_setCell_same' _ _ _ (by rw [hm];rfl),h0,h1⟩
 ·exact ⟨m,by rw [World.cell?_setCell_other _ _ _ _ e];exact hm,h2,h3⟩
def BytesOf (c:Col) (k:Nat) (w:World) (v:Value) (n:Nat):Prop:=∃l:List UInt8,l.length=n∧Sl zag c k k w v l
theorem BytesOf.cell {c:Col}{k:Nat}{w:World}{b off len cap n:Nat}(h:BytesOf c k w (.slice (some ⟨b,off,none⟩) len cap) n) {j:Nat}(hj:j<n):ByteCell w ⟨b,off+j,none⟩∧c b=k:=by
 obtain ⟨l,hl,h⟩:=h
 rcases h with ⟨rfl,_⟩ | ⟨b',off',cap',hv,_,_,h3,_,h5⟩
 ·simp at hl;omega
 ·cases hv
  obtain ⟨vs,rfl,hc⟩:=h5 j (l[j]'(by omega)) (by simp [hl,hj]);have:=hc 0 _ rfl;simp only [zag,Nat.mul_one,Nat.add_zero] at this;exact ⟨⟨_,this,by omega,by have:=(l[j]'(by omega)).toNat_lt;omega⟩,h3⟩
def setMany (w:World) (b o:Nat):List Value→World
 | []=>w
 | v::vs=>setMany (w.setCell ⟨b,o,none⟩ v) b (o+1) vs
theorem setMany_other:∀(vs:List Value) (w:World) (b o:Nat) (p:Addr),(p.block≠b∨p.off<o∨o+vs.length≤p.off)→(setMany w b o vs).cell? p=w.cell? p
 | [],_,_,_,_,_=>rfl
 | v::vs,w,b,o,p,h=>by
  simp only [setMany];rw [setMany_other vs _ b (o+1) p (by simp only [List.length_cons] at h;omega)];refine World.cell?_setCell_other _ _ _ _ (fun e=>?_);subst e;simp only [List.length_cons,ne_eq,not_true_eq_false,false_or] at h;omega
theorem setMany_cells:∀(vs:List Value) (w:World) (b o:Nat),(∀j,j<vs.length→(w.cell? ⟨b,o+j,none⟩).isSome=true)→zas (setMany w b o vs) b o vs
 | [],_,_,_,_=>by intro j u hu;simp at hu
 | v::vs,w,b,o,h=>by
  intro j u hu;simp only [setMany]
  cases j with
  | zero=>
   simp at hu;subst hu;rw [setMany_other vs _ b (o+1) _ (by simp)];exact World.cell?_setCell_same' _ _ _ (h 0 (by simp))
  | succ j=>
   simp at hu
   have:=setMany_cells vs (w.setCell ⟨b,o,none⟩ v) b (o+1) (fun i hi=>by
    rw [World.cell?_setCell_other _ _ _ _ (by intro e;injection e with e1 e2;omega)];have:=h (i+1) (by simp;omega)
    rwa [show o+1+i=o+(i+1) by omega]) j u hu
   rwa [show o+(j+1)=o+1+j by omega]
theorem setMany_step {K:Nat→Prop}{c0:Col}{w0:World}{c:Col}{b:Nat}(hb:w0.heap.size≤b∨K (c0 b)):∀(vs:List Value) (w:World) (o:Nat),Step K c0 w0 c w→Step K c0 w0 c (setMany w b o vs)
 | [],_,_,h=>h
 | v::vs,w,o,h=>setMany_step hb vs _ _ (h.setCell (a:=⟨b,o,none⟩) hb v)
theorem Sl.put {α:Type}{T:Ty α}{c:Col}{k k2:Nat}{w:World}{b off len cap:Nat}{l:List α}(h:Sl T c k k2 w (.slice (some ⟨b,off,none⟩) len cap) l) (hk:k2≠k) {j:Nat}(hj:j<l.length) {vs:List Value}{x:α}(hr:T.rd c k2 w vs x) :
  Sl T c k k2 (setMany w b (off+j*T.n) vs) (.slice (some ⟨b,off,none⟩) len cap) (l.set j x):=by
 rcases h with ⟨rfl,_⟩ | ⟨b',off',cap',hv,h1,h2,h3,h4,h5⟩
 ·simp at hj
 ·cases hv
  have hst:Step (One k) c w c (setMany w b (off+j*T.n) vs):=setMany_step (.inr h3) vs w _ Step.refl;have hvl:=T.len hr;refine .inr ⟨b,off,cap,by simp,by simpa using h1,h2,h3,Nat.lt_of_lt_of_le h4 hst.size,fun i y hy=>?_⟩;by_cases e:i=j
  ·subst e
   rw [List.getElem?_set_self hj] at hy
   cases hy
   refine ⟨vs,T.keep hst hk hr,setMany_cells vs w b _ (fun i' hi'=>?_)⟩;obtain ⟨vs0,hr0,hc0⟩:=h5 i l[i] (by simp [hj]);have hl0:=T.len hr0;have:=hc0 i' (vs0.get ⟨i',by omega⟩) (by simp);rw [this];rfl
  ·rw [List.getElem?_set_ne (fun h=>e h.symm)] at hy
   obtain ⟨vs0,hr0,hc0⟩:=h5 i y hy;refine ⟨vs0,T.keep hst hk hr0,fun i' u hu=>?_⟩;have hi':i'<vs0.length:=(List.getElem?_eq_some_iff.1 hu).1;have hl0:=T.len hr0;rw [setMany_other vs w b _ _ ?_]
   ·exact hc0 i' u hu
   ·right
    show off+i*T.n+i'<off+j*T.n∨off+j*T.n+vs.length≤off+i*T.n+i'
    rcases Nat.lt_or_gt_of_ne e with h | h
    ·left
     have:(i+1)*T.n≤j*T.n:=Nat.mul_le_mul_right _ h;rw [Nat.succ_mul] at this;omega
    ·right
     have:(j+1)*T.n≤i*T.n:=Nat.mul_le_mul_right _ h;rw [Nat.succ_mul] at this;omega
theorem Sl.change {α:Type}{T:Ty α}{K:Nat→Prop}{c c':Col}{k k2:Nat}{w w':World}{v:Value}{l:List α}(h:Sl T c k k2 w v l) (hs:Step K c w c' w') (hk:¬K k) (hr:∀vs x,T.rd c k2 w vs x→∃x',T.rd c' k2 w' vs x') :
  ∃l',l'.length=l.length∧Sl T c' k k2 w' v l':=by
 rcases h with ⟨rfl,h⟩ | ⟨b,off,cap,hv,h1,h2,h3,h4,h5⟩
 ·exact ⟨[],rfl,.inl ⟨rfl,h⟩⟩
 ·by_cases hl0:l=[]
  ·subst hl0
   exact ⟨[],rfl,.inr ⟨b,off,cap,hv,h1,h2,(hs.col b h4 (by rw [h3];exact hk)).trans h3,Nat.lt_of_lt_of_le h4 hs.size,by simp⟩⟩
  obtain ⟨x0,hx0⟩:∃x0,l[0]? = some x0:=by cases l with | nil=>exact absurd rfl hl0 | cons a t=>exact ⟨a,rfl⟩
  have key:∀i:Nat,∃y:α×List Value,i<l.length→T.rd c' k2 w' y.2 y.1∧zas w' b (off+i*T.n) y.2:=by
   intro i;by_cases hi:i<l.length
   ·obtain ⟨vs,a1,a2⟩:=h5 i l[i] (by simp [hi])
    obtain ⟨x',hx'⟩:=hr vs _ a1;exact ⟨(x',vs),fun _=>⟨hx',a2.keep hs h4 (by rw [h3];exact hk)⟩⟩
   ·exact ⟨(x0,[]),fun h=>absurd h hi⟩
  obtain ⟨f,hf⟩:=Classical.axiomOfChoice key;refine ⟨(List.range l.length).map (fun i=>(f i).1),by simp,.inr ⟨b,off,cap,by simpa using hv,by simpa using h1,h2,(hs.col b h4 (by rw [h3];exact hk)).trans h3,Nat.lt_of_lt_of_le h4 hs.size,fun i x hx=>?_⟩⟩;have hi:i<l.length:=by have:=(List.getElem?_eq_some_iff.1 hx).1;simpa using this
  simp [hi] at hx;subst hx;exact ⟨(f i).2,(hf i hi).1,(hf i hi).2⟩
theorem Sl.ex {α:Type}{T:Ty α}{c:Col}{k k2:Nat}{w:World}{v:Value}{l:List α}(h:Sl T c k k2 w v l) (hl:0<l.length):∃b off cap,v=.slice (some ⟨b,off,none⟩) l.length cap∧l.length≤cap∧cap≤maxLen∧c b=k∧b<w.heap.size:=by
 rcases h with ⟨rfl,_⟩ | ⟨b,off,cap,hv,h1,h2,h3,h4,_⟩
 ·simp at hl
 ·exact ⟨b,off,cap,hv,h1,h2,h3,h4⟩
theorem Sl.at {α:Type}{T:Ty α}{c:Col}{k k2:Nat}{w:World}{g off cap len:Nat}{l:List α}(h:Sl T c k k2 w (.slice (some ⟨g,off,none⟩) len cap) l) {j:Nat}{x:α}(hj:l[j]? = some x) :
  ∃vs,T.rd c k2 w vs x∧zas w g (off+j*T.n) vs:=by
 rcases h with ⟨rfl,_⟩ | ⟨g',off',cap',hv,h1,h2,h3,h4,h5⟩
 ·simp at hj
 ·cases hv;exact h5 j x hj
theorem zas.get {w:World}{b off:Nat}{vs:List Value}(h:zas w b off vs) (j:Nat) {u:Value}(hj:vs[j]? = some u):w.cell? ⟨b,off+j,none⟩=some u:=h j u hj
def plainI (r:Int):Bool:=(decide (97≤r)&&decide (r≤122))||(decide (48≤r)&&decide (r≤57))||(r==45)
def plainAll (l:List UInt8):Bool:=l.all fun b=>plainI b.toNat
def nameB (l:List UInt8):Bool:=decide (1≤l.length)&&decide (l.length≤32)&&plainAll l
theorem plain_high (r:Nat) (h:128≤r):plainI r=false:=by
 simp [plainI];omega
theorem plain_no {l:List UInt8}{i:Nat}(hi:i<l.length) (h:plainI (l[i]'hi).toNat=false):plainAll l=false:=by
 unfold plainAll;rw [List.all_eq_false];exact ⟨l[i],List.getElem_mem hi,by rw [h];decide⟩
section
variable {c:Col}{w:World}
theorem plain_any (r:Int) (w:World):Calls prog 158 #[.int .i32 r] w fun e w'=>e=.returned (.bool (plainI r))∧w'=w:=by
 have hp:=jh1 (show plainI r=((decide (97≤r)&&decide (r≤122))||(decide (48≤r)&&decide (r≤57))||(r==45)) from rfl);by_cases h1:97≤r
 ·by_cases h2:r≤122
  ·go_enter func158,ntmps158
   go_wp2;go_ret;exact ⟨by (rw [hp.out];simp [h1,h2];try omega),rfl⟩
  ·have h3:48≤r:=by omega
   have h4:¬r≤57:=by omega
   have h5:¬r=45:=by omega
   go_enter func158,ntmps158;go_wp2;go_ret;exact ⟨by (rw [hp.out];simp [h1,h2,h3,h4,h5];try omega),rfl⟩
 ·by_cases h3:48≤r
  ·by_cases h4:r≤57
   ·go_enter func158,ntmps158
    go_wp2;go_ret;exact ⟨by (rw [hp.out];simp [h1,h3,h4];try omega),rfl⟩
   ·have h5:¬r=45:=by omega
    go_enter func158,ntmps158;go_wp2;go_ret;exact ⟨by (rw [hp.out];simp [h1,h3,h4,h5];try omega),rfl⟩
  ·go_enter func158,ntmps158
   go_wp2;go_ret;exact ⟨by (rw [hp.out];simp [h1,h3];try omega),rfl⟩
theorem each_any (l:List UInt8) (hl:l.length≤1000000000) (w:World) :
  Calls prog 157 #[.string ⟨l.toArray⟩,.func (.func 158) #[] #[]] w fun e w'=>e=.returned (.bool (plainAll l))∧∃pos,w'=w.iter ⟨l.toArray⟩ pos:=by
 obtain ⟨s,hs⟩:∃s:ByteArray,⟨l.toArray⟩=s:=⟨_,rfl⟩;have hsz:s.size=l.length:=by rw [←hs];simp [ByteArray.size]
 have hget:∀(i:Nat) (h:i<s.size),(s[i]'h)=l[i]'(by omega):=fun i h=>by subst hs;rfl
 rw [hs];have HS:=jh3 hs hsz hget;clear hs;go_enter func157,ntmps157;go_wp2;go_loopw [6] (fun _ wr=>∃pos:Nat,pos≤l.length∧wr=w.iter s pos∧(l.take pos).all (fun b=>plainI b.toNat)=true) (fun _ wr=>s.size-wr.iterPos w.heap.size)
 case atStart=>exact ⟨0,Nat.zero_le _,rfl,rfl⟩
 case round=>
  obtain ⟨pos,hp,rfl,hall⟩:=hrel;by_cases hlt:pos<s.size
  ·by_cases ha:(s[pos]'hlt).toNat<128
   ·have hnx:∀ty,(Instr.next (.pointer (some ⟨w.heap.size,0,none⟩)) true ty).run prog (w.iter s pos)=_:=fun ty=>run_next_ascii w s pos ty hlt ha
    obtain ⟨b,hb⟩:=jE (s[pos]'hlt);rw [hb] at hnx ha;have PL:=plain_any b.toNat (w.iter s (pos+1));go_wp2_with fail;refine PL.mono ?_;rintro e w1 ⟨rfl,rfl⟩;have HB:=jh1 hb
    rcases hpl:plainI b.toNat
    ·have HP:=jh1 hpl
     go_wp2;go_ret;refine ⟨?_,_,rfl⟩;rw [plain_no (i:=pos) (by rw [←HS.out.2.1];exact hlt) (by rw [←HS.out.2.2 pos hlt,HB.out];exact HP.out)]
     rfl
    ·have HP:=jh1 hpl
     go_wp2;go_roundw
     case rel=>
      refine ⟨pos+1,by omega,rfl,?_⟩;rw [List.take_add_one,List.getElem?_eq_getElem (by omega),←HS.out.2.2 pos hlt,HB.out];simp only [Option.toList_some,List.all_append,hall,List.all_cons,List.all_nil,HP.out,Bool.and_self]
     case measure=>simp;omega
   ·have hd:=decode_high s pos hlt (by omega)
    have hnx:∀ty,(Instr.next (.pointer (some ⟨w.heap.size,0,none⟩)) true ty).run prog (w.iter s pos)=_:=fun ty=>run_next_any w s pos ty hlt;obtain ⟨r,hr⟩:=jE ((Utf8.decode s pos).1);obtain ⟨wd,hwd⟩:=jE ((Utf8.decode s pos).2);rw [hr,hwd] at hnx;rw [hr] at hd;have PL:=plain_any r (w.iter s (pos+wd));rw [plain_high r (by omega)] at PL;have HA:=jh1 ha;clear hd hr hwd ha;go_wp2_with fail;refine PL.mono ?_;rintro e w1 ⟨rfl,rfl⟩;go_wp2;go_ret;refine ⟨?_,_,rfl⟩;rw [plain_no (i:=pos) (by rw [←HS.out.2.1];exact hlt) (by rw [←HS.out.2.2 pos hlt];exact plain_high _ (by have:=HA.out;omega))]
    rfl
  ·have hnx:∀ty,(Instr.next (.pointer (some ⟨w.heap.size,0,none⟩)) true ty).run prog (w.iter s pos)=_:=fun ty=>run_next_end w s pos ty hlt
   have hpe:pos=l.length:=by omega
   rw [hpe,List.take_length] at hall;have HA:=jh1 hall;clear hall hpe;go_wp2;go_ret;exact ⟨by rw [show plainAll l=true from HA.out];rfl,_,rfl⟩
theorem name_any (l:List UInt8) (hl:l.length≤1000000000) (w:World) :
  Calls prog 127 #[.string ⟨l.toArray⟩] w fun e w'=>e=.returned (.bool (nameB l))∧(w'=w∨∃pos,w'=w.iter ⟨l.toArray⟩ pos):=by
 have hsz:(⟨l.toArray⟩:ByteArray).size=l.length:=by simp [ByteArray.size]
 have E:=each_any l hl w;obtain ⟨s,hs⟩:∃s:ByteArray,⟨l.toArray⟩=s:=⟨_,rfl⟩;rw [hs] at hsz E ⊢;have hN:=jh1 (show nameB l=(decide (1≤l.length)&&decide (l.length≤32)&&plainAll l) from rfl);by_cases h1:1≤l.length
 ·by_cases h2:l.length≤32
  ·have i1:(1:Int)≤(l.length:Int):=by omega
   have i2:(l.length:Int)≤32:=by omega
   clear hs;go_enter func127,ntmps127;go_wp2_with fail;refine E.mono ?_;rintro e w1 ⟨rfl,pos,rfl⟩;go_wp2;go_ret;exact ⟨by rw [hN.out];simp [h1,h2],.inr ⟨pos,rfl⟩⟩
  ·have i1:(1:Int)≤(l.length:Int):=by omega
   have i2:¬(l.length:Int)≤32:=by omega
   clear hs E;go_enter func127,ntmps127;go_wp2;go_ret;exact ⟨by (rw [hN.out];simp [h1];try omega),.inl rfl⟩
 ·have i1:¬(1:Int)≤(l.length:Int):=by omega
  clear hs E;go_enter func127,ntmps127;go_wp2;go_ret;exact ⟨by (rw [hN.out];simp;try omega),.inl rfl⟩
end
theorem zbp:(prog.info? 5).map (fun i=>(i.zero,i.size,i.bytes))=some (some (.int .u8 0),1,1):=by kernel_rfl
def TBs:Ty (List UInt8) where
 n:=1
 rd:=fun c k w vs l=>∃v,vs=[v]∧Sl zag c k k w v l
 len:=by rintro _ _ _ _ _ ⟨v,rfl,_⟩;rfl
 one:=by
  rintro _ _ _ _ _ ⟨v,rfl,h⟩ u hu;obtain ⟨a,cap,rfl,_⟩:=h.form;simp at hu;subst hu;rfl
 keep:=by
  rintro K c w c' w' k vs l hs hk ⟨v,rfl,h⟩;exact ⟨v,rfl,h.keep hs hk hk⟩
 turn:=by
  rintro c q k w vs l ⟨v,rfl,h⟩;exact ⟨v,rfl,h.turnAll⟩
theorem Own.room {α:Type}(T:Ty α) (e:TypeId) {c:Col}{w w1:World}(hok:Ok c w1) (hs:Step No c w c w1) (k k2:Nat) (cur:Array Value) (cap:Nat) (hcap:cap≤maxLen) (hcur:cur.size=cap*T.n) :
  Own T e (c.put w1.heap.size k) k k2 (w1.alloc (.cells cur e)) (.slice (some ⟨w1.heap.size,0,none⟩) 0 cap) []∧Ok (c.put w1.heap.size k) (w1.alloc (.cells cur e))∧Step No c w (c.put w1.heap.size k) (w1.alloc (.cells cur e)):=by
 have hnew:(w1.alloc (.cells cur e)).heap[w1.heap.size]? = some (.cells cur e (0,0)):=heap_alloc_new w1 _;refine ⟨⟨[],rfl,by simp,by simp,⟨by simp,.inr ⟨w1.heap.size,cap,cur,rfl,Nat.zero_le _,hnew,Nat.zero_le _,hcap,hcur,by simp⟩⟩,fun b hb=>by simp [Value.ownBlock] at hb;subst hb;simp⟩,(hok.alloc _).put (by simp) (fun o=>by unfold World.frozen?;rw [hnew];simp),(hs.alloc _).put (.inl hs.size)⟩
theorem zeroCells_size (n:Nat):(Builtin.zeroCells #[Value.int .u8 0] n).size=n:=by
 simp [Builtin.zeroCells]
section
variable {c:Col}{w:World}
theorem grow_any (hok:Ok c w) (n:Nat) (hn:n≤1000000000) (k:Nat) :
  Calls prog 214 #[.slice none 0 0,.int .i64 n] w fun r w'=>∃v,r=.returned v∧∃c',Own zag 5 c' k 0 w' v []∧Step No c w c' w'∧Ok c' w':=by
 by_cases h0:n=0
 ·subst h0
  go_enter func214,ntmps214;go_wp2;go_ret;exact ⟨_,rfl,c,Own.nil _ _ _ _ _ _,Step.rf,hok⟩
 ·obtain ⟨i,hi,hz,hs1,hb1⟩:=info_parts zbp
  have hp:0<n:=by omega
  have hi0:¬(n:Int)<0:=by omega
  have hi1:(0:Int)<(n:Int):=by omega
  have hw:IntKind.i64.wrap ((n:Int)-0)=(n:Int):=by rw [Int.sub_zero];exact IntWalk.i64_in _ (by omega)
  have hr:=fun W=>Go.Lib.run_append_nil_zeros (P:=prog) W 26 3 26 5 i (.int .u8 0) .i64 .i64 underlying26 underlying3 hi hz n hp (by omega) (by omega) (by rw [hb1];omega);go_enter func214,ntmps214;go_wp2_with (at_builtin;refine Go.Lib.wpList_append_run _ rfl _ _ 26 3 rfl _ _ rfl rfl _ _ (hr w) ?_);go_ret;have hcap:=grownCap_le_maxLen w n 0 5 (by simp only [maxLen];omega);have hge:=grownCap_ge w n 0 5;obtain ⟨o1,o2,o3⟩:=Own.room zag 5 hok Step.rf k 0 (Builtin.zeroCells #[Value.int .u8 0] n++Builtin.zeroCells #[Value.int .u8 0] (grownCap w n 0 5-n)) (grownCap w n 0 5) hcap (by rw [Array.size_append,zeroCells_size,zeroCells_size];show _=_*1;omega);exact ⟨_,rfl,_,o1.kn Step.rf.drew,o3.drew,o2.drew⟩
theorem flat_succ {ls:List (List UInt8)}{j:Nat}{x:List UInt8}(h:ls[j]? = some x):(ls.take (j+1)).flatten=(ls.take j).flatten++x:=by
 rw [List.take_add_one,h];simp
theorem flat_le (ls:List (List UInt8)) (j:Nat):(ls.take j).flatten.length≤ls.flatten.length:=by
 have:ls.flatten=(ls.take j).flatten++(ls.drop j).flatten:=by rw [←List.flatten_append,List.take_append_drop]
 rw [this,List.length_append];omega
theorem concat_any (hok:Ok c w) {kx:Nat}{v:Value}{ls:List (List UInt8)}(h:Sl TBs c kx 0 w v ls) (hl:0<ls.length) (hn:ls.length≤1000) (ht:ls.flatten.length≤1000000000) (k:Nat) :
  Calls prog 209 #[v] w fun r w'=>∃v',r=.returned v'∧∃c',Own zag 5 c' k 0 w' v' ls.flatten∧Step No c w c' w'∧Ok c' w':=by
 obtain ⟨q,hq,hqc⟩:=hok.spare kx;obtain ⟨g,off,cap,rfl,_⟩:=h.ex hl;obtain ⟨tot,htot⟩:=jE ls.flatten.length;rw [htot] at ht;have G:=grow_any hok tot ht q;have hq0:q≠0:=by omega
 have HQ:=jh1 hqc;have hok':=jh1 hok;clear hqc hok;go_enter func209,ntmps209;go_wp2;go_loopw [3,11] (fun s i wr=>∃(j:Nat),j≤ls.length∧i=.int .i64 j∧s=.int .i64 ((ls.take j).flatten.length:Nat)∧w=wr) (fun _ i _=>ls.length-(intOf i).toNat)
 case atStart=>exact ⟨0,Nat.zero_le _,rfl,by simp,rfl⟩
 case round=>
  obtain ⟨j,hj,rfl,rfl,rfl⟩:=hrel;by_cases hlt:j<ls.length
  ·obtain ⟨x,hx⟩:∃x,ls[j]? = some x:=⟨ls[j],by simp [hlt]⟩
   obtain ⟨vs,⟨vj,rfl,hvj⟩,hcs⟩:=h.at hx;obtain ⟨a,n,rfl,_⟩:=hvj.form;have y0:=hcs.get 0 rfl;have hle:=flat_le ls (j+1);rw [htot] at hle;have hsum:((ls.take (j+1)).flatten.length:Int)=((ls.take j).flatten.length:Nat)+(x.length:Int):=by rw [flat_succ hx,List.length_append];push_cast;rfl
   obtain ⟨m,hm⟩:=jE ((ls.take j).flatten.length);obtain ⟨m',hm'⟩:=jE ((ls.take (j+1)).flatten.length);rw [hm'] at hle;rw [hm',hm] at hsum;rw [hm];have hj0:(0:Int)≤(j:Int):=by omega
   have hj1:(j:Int)<(ls.length:Int):=by omega
   have hw:IntKind.i64.wrap ((m:Int)+(x.length:Int))=(m':Int):=by rw [←hsum];exact IntWalk.i64_in _ (by omega)
   have hneg:¬(m':Int)<0:=by omega
   have HM:=jh1 hm';simp only [TBs,Nat.mul_one,Nat.add_zero] at y0;clear h hcs hvj hx hm hm' hsum;go_wp2;go_roundw
   case rel=>exact ⟨j+1,by omega,by go_num,by rw [HM.out],trivial⟩
   case measure=>simp [intOf];omega
  ·have hjl:j=ls.length:=by omega
   subst hjl;rw [List.take_length,htot];have Hh:=jh2 h htot;clear h htot;go_wp2_with fail;refine G.mono ?_;rintro e w1 ⟨v1,rfl,c1,p1,s1,o1⟩;obtain ⟨va1,vc1,rfl,_⟩:=p1.sl.form;have P0:=jh3 p1 s1 o1;clear p1 s1 o1 G;go_wp2;go_loopw [6,27] (fun vb i wr=>∃(j:Nat) (cr:Col),j≤ls.length∧i=.int .i64 j∧Own zag 5 cr q 0 wr vb (ls.take j).flatten∧Step (One q) c w cr wr∧Ok cr wr) (fun _ i _=>ls.length-(intOf i).toNat)
   case atStart=>exact ⟨0,c1,Nat.zero_le _,rfl,by simpa using P0.out.1,P0.out.2.1.ofNo,P0.out.2.2⟩
   case round=>
    obtain ⟨j,cr,hj2,rfl,ow,st,ok⟩:=hrel;clear hj;by_cases hlt2:j<ls.length
    ·obtain ⟨x,hx⟩:∃x,ls[j]? = some x:=⟨ls[j],by simp [hlt2]⟩
     have h1:=Hh.out.1.keep st (show ¬kx=q by omega) (show ¬0=q by omega);obtain ⟨vs,⟨vj,rfl,hvj⟩,hcs⟩:=h1.at hx;have y0:=hcs.get 0 rfl;simp only [TBs,Nat.mul_one,Nat.add_zero] at y0;obtain ⟨va,vc,rfl,_⟩:=ow.sl.form;have hle:=flat_le ls (j+1);rw [Hh.out.2,flat_succ hx] at hle;have hn1:(ls.take j).flatten.length+x.length≤maxLen:=by rw [List.length_append] at hle;simp only [maxLen];omega
     have hn2:((ls.take j).flatten.length+x.length)*1≤140737488355328:=by rw [List.length_append] at hle;omega
     have hq1:(0:Nat)≠q:=by omega
     have hj0:(0:Int)≤(j:Int):=by omega
     have hj1:(j:Int)<(ls.length:Int):=by omega
     have HX:=jh2 hx st;obtain ⟨pre,hpre⟩:=jE ((ls.take j).flatten);have HP:=jh1 hpre;rw [hpre] at ow hn1 hn2 ⊢;clear h1 hcs hx st hle hpre;go_wp2_with (at_builtin;refine zaq zag ok rfl _ _ 26 rfl 5 underlying26 zbp rfl (by decide) rfl rfl ow hvj hq1 hn1 hn2 ?_;rintro v6 w6 c6 b1 b2 b3 -;have B:=jh3 b1 b2 b3;clear b1 b2 b3 ow hvj ok);go_roundw
     case rel=>
      obtain ⟨b1,b2,b3⟩:=B.out;exact ⟨j+1,c6,by omega,by go_num,by rw [flat_succ HX.out.1,HP.out];exact b1,HX.out.2.trans b2,b3⟩
     case measure=>simp [intOf];omega
    ·have hjl:j=ls.length:=by omega
     subst hjl;rw [List.take_length] at ow;have B:=jh3 ow st ok;clear ow st ok;go_wp2;go_ret;obtain ⟨ow,st,ok⟩:=B.out;exact ⟨_,rfl,Own.out1 ow st ok HQ.out (by omega) (by omega) k⟩
end
def bC (l:List UInt8):List Value:=l.map fun x=>.int .u8 x.toNat
theorem zaf (l:List UInt8):(bC l).length=l.length:=by simp [bC]
theorem bC_app (l m:List UInt8):bC (l++m)=bC l++bC m:=by simp [bC]
theorem bC_get {l:List UInt8}{j:Nat}{x:UInt8}(h:l[j]? = some x):(bC l)[j]? = some (.int .u8 x.toNat):=by simp [bC,h]
theorem At.setN {c:Col}{W:World}{b k:Nat}{vs:List Value}(h:At c W b k vs) {i:Nat}(hi:i<vs.length) (u:Value):At c (W.setCell ⟨b,i,none⟩ u) b k (vs.set i u):=by
 refine ⟨h.col,by rw [zbh];exact h.lt,?_⟩;intro j x hx;by_cases e:i=j
 ·subst e
  rw [List.getElem?_set_self hi] at hx
  cases hx
  have:=h.cells i vs[i] (by rw [List.getElem?_eq_getElem]);rw [Nat.zero_add] at this ⊢;exact World.cell?_setCell_same' _ _ _ (by rw [this];rfl)
 ·rw [List.getElem?_set_ne e] at hx
  rw [World.cell?_setCell_other _ _ _ _ (by intro h;injection h with h1 h2;omega)];exact h.cells j x hx
theorem At.get {c:Col}{W:World}{b k:Nat}{vs:List Value}(h:At c W b k vs) {i:Nat}{u:Value}(hi:vs[i]? = some u):W.cell? ⟨b,i,none⟩=some u:=by
 have:=h.cells i u hi
 rwa [Nat.zero_add] at this
theorem At.sl {c:Col}{W:World}{b k k2:Nat}{l:List UInt8}(h:At c W b k (bC l)) (j n:Nat) (hj:j+n≤l.length) (cap:Nat) (hc:n≤cap) (hm:cap≤maxLen) :
  Sl zag c k k2 W (.slice (some ⟨b,j,none⟩) n cap) ((l.drop j).take n):=by
 have hlen:((l.drop j).take n).length=n:=by rw [List.length_take,List.length_drop];omega
 refine .inr ⟨b,j,cap,by rw [hlen],by rw [hlen];exact hc,hm,h.col,h.lt,fun i x hi=>⟨[.int .u8 x.toNat],rfl,?_⟩⟩;intro i' u hu;have hi0:i'=0:=by have:=(List.getElem?_eq_some_iff.1 hu).1;simp at this;omega
 subst hi0;simp at hu;subst hu;have hin:i<n:=by have:=(List.getElem?_eq_some_iff.1 hi).1;omega
 rw [List.getElem?_take_of_lt hin,List.getElem?_drop] at hi;have:=h.get (bC_get hi);simpa [zag] using this
def minF:Nat→Nat→List UInt8
 | 0,_=>[]
 | f+1,n=>if n=0 then [] else minF f (n / 256)++[UInt8.ofNat (n % 256)]
def minB (n:Nat):List UInt8:=minF 8 n
def zay (n:Nat):List UInt8:=UInt8.ofNat (minB n).length::minB n
theorem minF_zero:∀f,minF f 0=[]
 | 0=>rfl
 | f+1=>by simp [minF]
theorem minF_len:∀f n,(minF f n).length≤f
 | 0,n=>by simp [minF]
 | f+1,n=>by
  simp only [minF]
  split
  ·simp
  ·have:=minF_len f (n / 256)
   simp;exact this
theorem sizeU8 (W:World):(sizeOf 5).run prog W=.ok 1 W:=by
 obtain ⟨i,hi,hz,hs1,hb1⟩:=info_parts zbp;simp [sizeOf,typeInfo,hi,hs1]
theorem run_arr {t:TypeId}{n:Nat}(ht:prog.underlying t=some (.array n 5)) (W:World) (b i:Nat) (h:i≤n) (h0:i<n) :
  (Instr.sliceAt t (.pointer (some ⟨b,0,none⟩)) (some (.int .i64 i)) none none).run prog W=.ok (.slice (some ⟨b,i,none⟩) (n-i) (n-i)) W:=by
 have ha:prog.arrayLen t=n:=by simp [Program.arrayLen,ht]
 have he:prog.elem t=5:=by simp [Program.elem,ht]
 rw [run_sliceAt_array_l W t ⟨b,0,none⟩ (by rw [ha,he];exact ht) .i64 i (by omega) (by rw [ha];omega),he,sizeU8,ha];simp only [Result.andThen,slicedAt,Int.toNat_natCast];rw [if_neg (by omega)];by_cases h0:i=0
 ·subst h0;simp [Addr.add]
 ·simp [Addr.add,h0]
theorem run_arr0 {t:TypeId}{n:Nat}(ht:prog.underlying t=some (.array n 5)) (W:World) (b:Nat) :
  (Instr.sliceAt t (.pointer (some ⟨b,0,none⟩)) none none none).run prog W=.ok (.slice (some ⟨b,0,none⟩) n n) W:=by
 have ha:prog.arrayLen t=n:=by simp [Program.arrayLen,ht]
 have he:prog.elem t=5:=by simp [Program.elem,ht]
 rw [run_sliceAt_array_all W t ⟨b,0,none⟩ (by rw [ha,he];exact ht),he,sizeU8,ha];simp [Result.andThen,slicedAt,Addr.add]
theorem Sl.out1 {α:Type}{T:Ty α}{c c1:Col}{w w1:World}{q k2:Nat}{v:Value}{l:List α}(h:Sl T c1 q k2 w1 v l) (hs:Step (One q) c w c1 w1) (ho:Ok c1 w1) (hq:∀b,c b≠q) (h0:q≠0) (hqq:k2≠q)
  (k:Nat):∃c',Sl T c' k k2 w1 v l∧Step No c w c' w1∧Ok c' w1:=
 ⟨c1.turn q k,h.turn hqq,(hs.turn rfl).own hq,ho.turn h0⟩
theorem u8_nat (m:Nat):((m:Int) % 256)=((UInt8.ofNat (m % 256)).toNat:Int):=by
 rw [show (UInt8.ofNat (m % 256)).toNat=m % 256 by simp];omega
section
variable {c:Col}{w:World}
theorem number_any (hok:Ok c w) (n:Nat) (hn:n<9223372036854775808) (k:Nat) :
  Calls prog 201 #[.int .i64 n] w fun r w'=>∃v,r=.returned v∧∃c',Sl zag c' k 0 w' v (zay n)∧Step No c w c' w'∧Ok c' w':=by
 obtain ⟨q,hq,hqc⟩:=hok.spare 0;obtain ⟨a1,o1,s1⟩:=zan hok (bC (List.replicate 9 0)) 282 q;have hq0:q≠0:=by omega
 have H1:=jh4 a1 o1 s1 hqc;clear a1 o1 s1 hqc hok;go_enter func201,ntmps201;go_wp2;go_loopw [0,4] (fun vn vk wr=>∃(m j:Nat) (l:List UInt8),vn=.int .i64 m∧vk=.int .i64 j∧l.length=j∧j≤8∧m<256 ^ (8-j)∧minB n=minF (8-j) m++l∧At (c.put w.heap.size q) wr w.heap.size q (bC (List.replicate (9-j) 0++l))∧Step No c w (c.put w.heap.size q) wr∧Ok (c.put w.heap.size q) wr) (fun vn _ _=>(intOf vn).toNat)
 case atStart=>exact ⟨n,0,[],rfl,rfl,rfl,Nat.zero_le _,by simpa using (show n<256 ^ 8 by omega),by simp [minB],H1.out.1,H1.out.2.2.1,H1.out.2.1⟩
 case round=>
  obtain ⟨m,j,l,rfl,rfl,hlj,hj,hm,he,at1,st,ok⟩:=hrel;obtain ⟨i,hi⟩:=jE (8-j);have hji:j+i=8:=by omega
  have h9:9-j=i+1:=by omega
  rw [hi] at hm he;rw [h9] at at1;have y0:wr.cell? ⟨w.heap.size,i,none⟩=some (.int .u8 0):=at1.get (bC_get (x:=0) (by rw [List.getElem?_append_left (by simp)];simp));have yf:=at1.fz ok hq0 i;have hwi:IntKind.i64.wrap (8-(j:Int))=(i:Int):=by rw [show (8:Int)-j=i by omega];exact IntWalk.i64_in _ (by omega)
  have hi0:(0:Int)≤(i:Int):=by omega
  have hi1:(i:Int)<9:=by omega
  have hset:∀u:UInt8,At (c.put w.heap.size q) (wr.setCell ⟨w.heap.size,i,none⟩ (.int .u8 u.toNat)) w.heap.size q (bC (List.replicate i 0++(u::l))):=fun u=>by
   have:=at1.setN (i:=i) (by rw [zaf];simp;omega) (.int .u8 u.toNat)
   rw [show (bC (List.replicate (i+1) 0++l)).set i (.int .u8 u.toNat)=bC (List.replicate i 0++(u::l)) by
    rw [List.replicate_succ',List.append_assoc,bC_app,bC_app,List.set_append_right _ _ (by rw [zaf];simp)]
    simp [bC]] at this
   exact this
  have hst:∀u,Step No c w (c.put w.heap.size q) (wr.setCell ⟨w.heap.size,i,none⟩ u):=fun u=>st.setCell (.inl (Nat.le_refl _)) u;have hok2:∀u,Ok (c.put w.heap.size q) (wr.setCell ⟨w.heap.size,i,none⟩ u):=fun u=>ok.setCell _ _;have HS:=jh3 hset hst hok2;clear at1 st ok hset hst hok2;by_cases hz:m=0
  ·subst hz
   have HE:=jh1 he
   have hu:IntKind.u8.wrap (j:Int)=((UInt8.ofNat j).toNat:Int):=by
    rw [IntKind.wrap_u8];simp
   have hsl:=fun W=>run_arr (t:=282) underlying282 W w.heap.size i (by omega) (by omega);clear he hm;go_wp2;go_ret;have hl:minB n=l:=by rw [HE.out,minF_zero];rfl
   have hv:((j:Int) % 256)=((UInt8.ofNat j).toNat:Int):=by rw [u8_nat,Nat.mod_eq_of_lt (by omega:j<256)]
   rw [hv];have h2:=(HS.out.1 (UInt8.ofNat j)).sl (k2:=0) i (9-i) (by simp;omega) (9-i) (Nat.le_refl _) (by simp only [maxLen];omega);rw [List.drop_append_of_le_length (by simp),List.drop_eq_nil_of_le (by simp),List.nil_append,List.take_of_length_le (by simp;omega)] at h2;have hnum:zay n=UInt8.ofNat j::l:=by rw [zay,hl,hlj]
   rw [hnum];exact ⟨_,rfl,Sl.out1 h2 (HS.out.2.1 _).ofNo (HS.out.2.2 _) H1.out.2.2.2 hq0 (by omega) k⟩
  ·have hm0:0<m:=by omega
   have hmi:(0:Int)<(m:Int):=by omega
   have hip:0<i:=by
    rcases Nat.eq_zero_or_pos i with h | h
    ·subst h;simp at hm;omega
    ·exact h
   obtain ⟨i',rfl⟩:∃i',i=i'+1:=⟨i-1,by omega⟩;have hm2:m / 256<256 ^ i':=Nat.div_lt_of_lt_mul (by rw [Nat.pow_succ] at hm;omega)
   have hE:minB n=minF i' (m / 256)++(UInt8.ofNat (m % 256)::l):=by
    rw [he,minF,if_neg hz];simp
   have HM:=jh2 hm2 hE;clear hm he hm2 hE;go_wp2;go_roundw
   case rel=>
    rw [u8_nat];have h2:=HS.out.1 (UInt8.ofNat (m % 256));exact ⟨m / 256,j+1,UInt8.ofNat (m % 256)::l,by push_cast;rfl,by go_num,by simp;omega,by omega,by rw [show 8-(j+1)=i' by omega];exact HM.out.1,by rw [show 8-(j+1)=i' by omega];exact HM.out.2,by rw [show 9-(j+1)=i'+1 by omega];exact h2,HS.out.2.1 _,HS.out.2.2 _⟩
   case measure=>simp [intOf];omega
end
