/- ServerReplies, part 06: lemmas, each with its own conditions. -/
import Derived.Test.YtgcobbapaaihiaaGreatSz05
import Derived.Lib.BytesEntry
import Derived.Lib.Bytealg
import Derived.Laws.Externs
import Derived.Deep.CutRange
import Derived.Laws.BitsAll
import Derived.Laws.BitsAllLaws
set_option linter.all false
set_option maxHeartbeats 12800000
set_option maxRecDepth 100000
open Go.Proofs.Tryz
namespace Go.Proofs.YtgcobbapaaihiaaGreat
open Go.RowKit
def zbB (h:Hdr):List UInt8:=(zay h.name.length++h.name)++(zay h.height.toNat++(zay h.time.toNat++(h.prev++(h.vals++(h.next++h.app)))))
theorem zaB {lim:Int}{bs x:List UInt8}(h:(bs.length:Int)+x.length≤lim):putS lim (bs,0) true x=(bs++x,0):=by
 have:¬lim<(bs.length:Int)+x.length:=by omega
 simp [putS,this]
theorem checkH_ok {h:Hdr}(hc:zaL h=0):nameB h.name=true∧zav h.height=true∧timeB h.time=true:=by
 unfold zaL at hc
 split at hc
 ·cases hc
 ·next h1=>
  split at hc
  ·cases hc
  ·next h2=>
   split at hc
   ·cases hc
   ·next h3=>exact ⟨by simpa using h1,by simpa using h2,by simpa using h3⟩
section
variable {c:Col}{w:World}
theorem zam {w:World}{b off:Nat}{xs ys:List Value}(h:zas w b off (xs++ys)):zas w b off xs∧zas w b (off+xs.length) ys:=by
 refine ⟨fun j u hu=>h j u (by rw [List.getElem?_append_left (List.getElem?_eq_some_iff.1 hu).1];exact hu),fun j u hu=>?_⟩;have:=h (xs.length+j) u (by rw [List.getElem?_append_right (by omega)];simpa using hu);rw [Nat.add_assoc];exact this
theorem hdr_at {w:World}{b:Nat}{h:Hdr}(hw:h.Wf) (hc:zas w b 0 (zaz h)):zas w b 3 (bC h.prev)∧zas w b 35 (bC h.vals)∧zas w b 67 (bC h.next)∧zas w b 99 (bC h.app):=by
 have h0:zas w b 0 ([.string ⟨h.name.toArray⟩,.int .i64 h.height,.int .i64 h.time]++(bC h.prev++(bC h.vals++(bC h.next++bC h.app)))):=hc;have h1:=(zam h0).2;have h2:=(zam h1).2;have h3:=(zam h2).2;have h4:=(zam h3).2;have e1:=(zam h1).1;have e2:=(zam h2).1;have e3:=(zam h3).1;simp only [zaf,hw.prev,hw.vals,hw.next,List.length_cons,List.length_nil,Nat.zero_add] at e1 e2 e3 h4;exact ⟨e1,e2,e3,h4⟩
def hashL (h:Hdr):List (List UInt8):=[h.prev,h.vals,h.next,h.app]
def encH0 (h:Hdr):List UInt8:=(zay h.name.length++h.name)++zay h.height.toNat++zay h.time.toNat
theorem encH_eq (h:Hdr):encH0 h++((hashL h).take 4).flatten=zbB h:=by simp [encH0,hashL,zbB]
theorem encH0_len {h:Hdr}(hc:zaL h=0):(encH0 h).length≤60:=by
 obtain ⟨h1,_,_⟩:=checkH_ok hc;simp [nameB] at h1;have a:=zae h.name.length;have b:=zae h.height.toNat;have d:=zae h.time.toNat;simp [encH0];omega
end
theorem run_loadB {P:Program}{w:World}:∀(l:List UInt8) (a:Addr) (acc:ByteArray),(∀(j:Nat) (x:UInt8),l[j]? = some x→w.cell? (a.add j)=some (.int .u8 x.toNat)) →
  (Extern.Bytes.loadBytes a l.length acc).run P w=.ok ⟨acc.data++l.toArray⟩ w:=by
 intro l a acc h
 have:=Go.Lib.run_loadBytesX (P:=P) w (l.map fun x=>(x.toNat:Int)) a acc (fun j x hx=>by
  simp only [List.getElem?_map,Option.map_eq_some_iff] at hx;obtain ⟨y,h1,rfl⟩:=hx
  exact h j y h1)
 rw [List.length_map] at this;rw [this]
 congr 3
 simp only [Go.Lib.bytesOf,List.map_map]
 congr 1
 rw [List.map_congr_left (g:=id) (fun x _=>by simp)];simp
theorem run_bytesOf {P:Program}{c:Col}{k k2:Nat}{w:World}{v:Value}{l:List UInt8}(h:Sl zag c k k2 w v l):(Extern.Bytes.bytesOf v).run P w=.ok ⟨l.toArray⟩ w:=by
 rcases h with ⟨rfl,a,cap,rfl,_⟩ | ⟨b,off,cap,rfl,_,_,_,_,h5⟩
 ·cases a with
  | none=>rfl
  | some a=>rfl
 ·have:=run_loadB (P:=P) (w:=w) l ⟨b,off,none⟩ .empty (fun j x hx=>by
   obtain ⟨vs,rfl,hc⟩:=h5 j x hx;have:=hc 0 _ rfl;have hadd:(⟨b,off,none⟩:Addr).add j=⟨b,off+j*zag.n+0,none⟩:=by unfold Addr.add;split <;> simp_all [zag]
   rw [hadd];exact this)
  simpa [Extern.Bytes.bytesOf] using this
section
variable {c:Col}{w:World}
theorem run_compareB {k k2 k' k2':Nat}{v v':Value}{l l':List UInt8}(h:Sl zag c k k2 w v l) (h':Sl zag c k' k2' w v' l') :
  (callFunc 199 #[v,v']).run prog w=.ok (.value (.int .i64 (Go.Lib.compareBytes l l'))) w:=by
 have hr:(Extern.BytealgCompare.compare #[v,v']).run prog w=.ok (.int .i64 (Go.Lib.compareBytes l l')) w:=by
  change Sem.run prog (do pure (goInt (Extern.BytealgCompare.cmp (←Extern.Bytes.bytesOf v) (←Extern.Bytes.bytesOf v')))) w=_;simp only [Sem.run_bind,run_bytesOf h,run_bytesOf h',Sem.run_pure,Result.andThen];rw [Go.Lib.cmp_eq]
  rfl
 rw [run_callFunc_extern func199 (by kernel_rfl) (by kernel_rfl) (by kernel_rfl) (by kernel_rfl),hr]
 rfl
theorem compare_any {k k2 k' k2':Nat}{v v':Value}{l l':List UInt8}(h:Sl zag c k k2 w v l) (h':Sl zag c k' k2' w v' l') :
  Calls prog 183 #[v,v'] w fun r w'=>r=.returned (.int .i64 (Go.Lib.compareBytes l l'))∧w'=w:=by
 have hr:=run_compareB h h';obtain ⟨r,hrr⟩:=jE (Go.Lib.compareBytes l l');rw [hrr] at hr ⊢;clear h h' hrr;go_enter func183,ntmps183;go_wp2;go_ret;exact ⟨rfl,rfl⟩
end
structure Vld where
 key:List UInt8
 power:Int
structure Vot where
 at_:Int
 sig:Nat
def valC (v:Vld):List Value:=bC v.key++[.int .i64 v.power]
def votC (v:Vot):List Value:=[.int .i64 v.at_,.int .u64 v.sig]
def TVal:Ty Vld where
 n:=5
 rd:=fun _ _ _ vs x=>vs=valC x∧x.key.length=4∧IntKind.i64.has x.power
 len:=by rintro _ _ _ _ _ ⟨rfl,h,_⟩;simp [valC,zaf,h]
 one:=by
  rintro _ _ _ _ _ ⟨rfl,_⟩ u hu;simp only [valC,List.mem_append,List.mem_cons,List.not_mem_nil,or_false] at hu
  rcases hu with hu | rfl
  ·exact zaD _ u hu
  ·rfl
 keep:=by rintro _ _ _ _ _ _ _ _ _ _ h;exact h
 turn:=by rintro _ _ _ _ _ _ h;exact h
def TVot:Ty Vot where
 n:=2
 rd:=fun _ _ _ vs x=>vs=votC x∧IntKind.i64.has x.at_∧x.sig<18446744073709551616
 len:=by rintro _ _ _ _ _ ⟨rfl,h,_⟩;rfl
 one:=by
  rintro _ _ _ _ _ ⟨rfl,_⟩ u hu;simp only [votC,List.mem_cons,List.not_mem_nil,or_false] at hu
  rcases hu with rfl | rfl <;> rfl
 keep:=by rintro _ _ _ _ _ _ _ _ _ _ h;exact h
 turn:=by rintro _ _ _ _ _ _ h;exact h
theorem valC_len {v:Vld}(h:v.key.length=4):(valC v).length=5:=by simp [valC,zaf,h]
theorem valC_one (v:Vld):∀u∈valC v,u.oneCell'=true:=by
 intro u hu;simp only [valC,List.mem_append,List.mem_cons,List.not_mem_nil,or_false] at hu
 rcases hu with hu | rfl
 ·exact zaD _ u hu
 ·rfl
theorem info_val:(prog.info? 93).map (·.size)=some 5:=by kernel_rfl
def aheadV:Option (List UInt8)→Vld→Bool
 | some k,v=>decide (0≤Go.Lib.compareBytes k v.key)
 | none,_=>false
def atV (last:Option (List UInt8)) (least most:Int) (v:Vld):Int:=
 if aheadV last v=true then 9
 else if v.power<least∨most<v.power then 3 else 0
def goV (least most:Int):Option (List UInt8)→List Vld→Int
 | _,[]=>0
 | last,v::r=>if atV last least most v≠0 then atV last least most v else goV least most (some v.key) r
def zaJ (l:List Vld):Int:=if l.length=0 then 6 else if 64<l.length then 4 else goV 1 4611686018427387904 none l
def encV (l:List Vld):List UInt8:=zay l.length++(l.map fun v=>v.key++zay v.power.toNat).flatten
def goC:Int→List Vot→Int
 | _,[]=>0
 | last,v::r=>if v.at_<0∨64≤v.at_ then 3 else if v.at_≤last then 9 else goC v.at_ r
structure Cmt where
 height:Int
 hash:List UInt8
 votes:List Vot
def zaI (c:Cmt):Int:=if c.height<1∨1073741824<c.height then 3 else if 64<c.votes.length then 4 else goC (-1) c.votes
def encC (c:Cmt):List UInt8:=zay c.height.toNat++(c.hash++(zay c.votes.length++(c.votes.map fun v=>zay v.at_.toNat++wordB v.sig).flatten))
theorem goV_ok {least most:Int}:∀{last:Option (List UInt8)}{l:List Vld},goV least most last l=0→∀v∈l,least≤v.power∧v.power≤most
 | _,[],_,v,hv=>by simp at hv
 | last,u::r,h,v,hv=>by
  simp only [goV] at h
  split at h
  ·next hx=>exact absurd h hx
  ·next hx=>
   rcases List.mem_cons.1 hv with rfl | hv
   ·have hx:atV last least most v=0:=Classical.byContradiction hx
    unfold atV at hx;by_cases h1:aheadV last v=true
    ·rw [if_pos h1] at hx;cases hx
    ·rw [if_neg h1] at hx
     by_cases h2:v.power<least∨most<v.power
     ·rw [if_pos h2] at hx;cases hx
     ·omega
   ·exact goV_ok h v hv
theorem checkV_ok {l:List Vld}(h:zaJ l=0):0<l.length∧l.length≤64∧∀v∈l,1≤v.power∧v.power≤4611686018427387904:=by
 unfold zaJ at h
 split at h
 ·cases h
 ·split at h
  ·cases h
  ·exact ⟨by omega,by omega,goV_ok h⟩
theorem goC_ok:∀{last:Int}{l:List Vot},goC last l=0→∀v∈l,0≤v.at_∧v.at_<64
 | _,[],_,v,hv=>by simp at hv
 | last,u::r,h,v,hv=>by
  simp only [goC] at h
  split at h
  ·cases h
  ·split at h
   ·cases h
   ·rcases List.mem_cons.1 hv with rfl | hv
    ·omega
    ·exact goC_ok h v hv
theorem checkC_ok {x:Cmt}(h:zaI x=0):1≤x.height∧x.height≤1073741824∧x.votes.length≤64∧∀v∈x.votes,0≤v.at_∧v.at_<64:=by
 unfold zaI at h
 split at h
 ·cases h
 ·split at h
  ·cases h
  ·exact ⟨by omega,by omega,by omega,goC_ok h⟩
def lookC (last:List UInt8) (begun:Bool) (least most:Int):List Value:=bC last++[.bool begun,.int .i64 least,.int .i64 most]
def lastO:Bool→List UInt8→Option (List UInt8)
 | true,l=>some l
 | false,_=>none
section
variable {c:Col}{w:World}
theorem At.pre {b k:Nat}{xs ys:List Value}(h:At c w b k (xs++ys)):At c w b k xs:=⟨h.col,h.lt,(zam h.cells).1⟩
theorem cells_join {w:World}{b off:Nat}{xs ys:List Value}(h1:zas w b off xs) (h2:zas w b (off+xs.length) ys):zas w b off (xs++ys):=by
 intro j u hu
 rcases Nat.lt_or_ge j xs.length with h | h
 ·rw [List.getElem?_append_left h] at hu;exact h1 j u hu
 ·rw [List.getElem?_append_right h] at hu
  have:=h2 _ u hu;rw [show off+xs.length+(j-xs.length)=off+j by omega] at this;exact this
theorem look_set {xb k:Nat}{last:List UInt8}(hl:last.length=4) {begun:Bool}{least most:Int}(h:At c w xb k (lookC last begun least most)) (hok:Ok c w) (hk0:k≠0) {key:List UInt8}(hk:key.length=4) :
  w.there xb 0 (bC key).toArray.size∧At c ((w.setCells xb 0 (bC key)).setCell ⟨xb,4,none⟩ (.bool true)) xb k (lookC key true least most) ∧
   Step (One k) c w c ((w.setCells xb 0 (bC key)).setCell ⟨xb,4,none⟩ (.bool true))∧Ok c ((w.setCells xb 0 (bC key)).setCell ⟨xb,4,none⟩ (.bool true)):=by
 have ht:w.there xb 0 (bC key).length:=h.there hok hk0 (by simp [lookC,zaf,hl,hk]);have e1:zas (w.setCells xb 0 (bC key)) xb 0 (bC key):=World.rangeAt_setCells_same w xb 0 (bC key) ht
 have e2:zas (w.setCells xb 0 (bC key)) xb 4 [.bool begun,.int .i64 least,.int .i64 most]:=by
  have h2:=(zam h.cells).2;rw [zaf,hl,Nat.zero_add] at h2;intro j u hu;rw [World.cell?_setCells_out xb (bC key) 0 w ⟨xb,4+j,none⟩ (fun _ _=>.inr (by show 0+(bC key).length≤4+j;rw [zaf,hk];omega))];exact h2 j u hu
 have s1:Step (One k) c w c (w.setCells xb 0 (bC key)):=Step.setCells (K:=One k) (.inr h.col) _ _ _ Step.refl;have o1:=Ok.setCells (b:=xb) (bC key) 0 _ hok;have a1:At c (w.setCells xb 0 (bC key)) xb k (lookC key begun least most):=⟨h.col,by rw [zbD];exact h.lt,cells_join e1 (by rw [zaf,hk];exact e2)⟩;have a2:=a1.setN (i:=4) (by simp [lookC,zaf,hk]) (.bool true)
 rw [show (lookC key begun least most).set 4 (.bool true)=lookC key true least most by
  unfold lookC;rw [List.set_append_right _ _ (by rw [zaf];omega),zaf,hk]
  rfl] at a2
 exact ⟨by simpa using ht,a2,s1.setCell (a:=⟨xb,4,none⟩) (.inr h.col) _,o1.setCell _ _⟩
theorem at_any (hok:Ok c w) {xb k:Nat}(hk0:k≠0) {last:List UInt8}(hl:last.length=4) (begun:Bool) (least most:Int) (hx:At c w xb k (lookC last begun least most)) (v:Vld) (hv:v.key.length=4) :
  Calls prog 159 #[.pointer (some ⟨xb,0,none⟩),.agg (valC v).toArray] w fun r w'=>r=.returned (.int .i64 (atV (lastO begun last) least most v)) ∧
   ∃c',At c' w' xb k (lookC v.key true least most)∧Step (One k) c w c' w'∧Ok c' w':=by
 obtain ⟨Ah,hA⟩:=jE (aheadV (lastO begun last) v);have a0:=At.new0 hok (valC v) 93;have o0:=hok.alloc (.cells (valC v).toArray 93);have s0:Step No c w c (w.alloc (.cells (valC v).toArray 93)):=Step.refl.alloc _;obtain ⟨vb,hvb⟩:=jE w.heap.size;rw [hvb] at a0;obtain ⟨W0,hW0⟩:=jE (w.alloc (.cells (valC v).toArray 93));rw [hW0] at a0 o0 s0;have x0:=hx.keep s0 jI;have hxv:vb≠xb:=by have:=hx.lt;omega
 obtain ⟨V,hV⟩:=jE (valC v);have y4:=x0.get (i:=4) (u:=.bool begun) (by simp [lookC,zaf,hl]);have X0:=jh5 a0 x0 s0 o0 hA;have HX:=jh3 hl hv hV;rw [hV] at hW0 ⊢;clear a0 o0 s0 x0 hx hok hA hV hl hv;go_enter func159,ntmps159;go_upto_region 1 with fail
 (try rw [hW0])
 go_cut [5] from 6 to 19 (fun v5 wr=>v5=.bool Ah∧∃n,wr=W0.drewN n)
 case first=>
  rcases begun with _ | _
  ·have KK:(fun W:World=>W.cell? ⟨xb,4,none⟩=some (.bool false)) W0.drew:=y4
   have hA:Ah=false:=by have:=X0.out.2.2.2.2;rw [←this];rfl
   refine zac (fun W=>W.cell? ⟨xb,4,none⟩=some (.bool false)) (fun i=>!([14]:List Nat).contains i) (by kernel_rfl) ?_;refine tk1 0 _ 6 rfl rfl KK ?_;refine tk1 1 _ 7 rfl rfl KK ?_;refine tk1 2 _ 8 rfl rfl KK ?_;refine tk1 3 _ 9 rfl rfl KK ?_;refine tk1 4 _ 10 rfl rfl KK ?_;refine tku 5 _ 11 rfl rfl KK ?_;refine tku 6 _ 12 rfl rfl KK ?_;refine tku 7 _ 13 rfl rfl KK ?_;refine tku 8 _ 14 rfl rfl KK ?_;refine tku 9 _ 15 rfl rfl KK ?_;refine tku 10 _ 16 rfl rfl KK ?_;refine tku 11 _ 17 rfl rfl KK ?_;refine tku 12 _ 18 rfl rfl KK ?_;refine tk1 13 _ 19 rfl rfl KK ?_;refine zab.one (i:=14) (by kernel_rfl) rfl (fun KQ hK=>?_);go_simp;refine hK.out _ _ (fun h=>absurd h (by decide)) ?_;clear hK KQ
   (try simp only [jS])
   refine zab.done (by kernel_rfl) ?_ _;go_wp2;go_meet
   case rel=>exact ⟨by rw [hA],1,rfl⟩
  ·obtain ⟨A,hAe⟩:=jE (Go.Lib.compareBytes last v.key)
   have hA:Ah=decide (0≤A):=by have:=X0.out.2.2.2.2;rw [←this,←hAe];rfl
   have q1:=((X0.out.2.1.keep (Step.rf.drewN (K:=No) 1) jI).pre).sl (k2:=0) 0 4 (by rw [HX.out.1];omega) 4 (Nat.le_refl _) (by simp only [maxLen];omega);have q2:=((X0.out.1.keep (Step.rf.drewN (K:=No) 1) jI).pre).sl (k2:=0) 0 4 (by rw [HX.out.2.1];omega) 4 (Nat.le_refl _) (by simp only [maxLen];omega);rw [List.drop_zero,List.take_of_length_le (by rw [HX.out.1];omega)] at q1;rw [List.drop_zero,List.take_of_length_le (by rw [HX.out.2.1];omega)] at q2;have CM:=compare_any q1 q2;rw [hAe] at CM;clear q1 q2 hAe;have KK:(fun W:World=>W.cell? ⟨xb,4,none⟩=some (.bool true)) W0.drew:=y4;have hs1:=fun W=>run_arr0 (t:=91) underlying91 W xb;have hs2:=fun W=>run_arr0 (t:=91) underlying91 W vb;refine zac (fun W=>W.cell? ⟨xb,4,none⟩=some (.bool true)) (fun i=>!([14]:List Nat).contains i) (by kernel_rfl) ?_;refine tk1 0 _ 6 rfl rfl KK ?_;refine tk1 1 _ 7 rfl rfl KK ?_;refine tk1 2 _ 8 rfl rfl KK ?_;refine tk1 3 _ 9 rfl rfl KK ?_;refine tk1 4 _ 10 rfl rfl KK ?_;refine tk1 5 _ 11 rfl rfl KK ?_;refine tk1 6 _ 12 rfl rfl KK ?_;refine tk1 7 _ 13 rfl rfl KK ?_;refine tk1 8 _ 14 rfl rfl KK ?_;refine tk1 9 _ 15 rfl rfl KK ?_;refine tk1 10 _ 16 rfl rfl KK ?_;refine zab.one (i:=11) (by kernel_rfl) rfl (fun KQ hK=>?_);go_simp;refine CM.mono ?_;rintro e w2 ⟨rfl,rfl⟩;go_simp;refine hK.out _ _ (fun _=>KK) ?_;clear hK KQ
   (try simp only [jS])
   refine tk1 12 _ 18 rfl rfl KK ?_;refine tk1 13 _ 19 rfl rfl KK ?_;refine zab.one (i:=14) (by kernel_rfl) rfl (fun KQ hK=>?_);go_simp;refine hK.out _ _ (fun h=>absurd h (by decide)) ?_;clear hK KQ
   (try simp only [jS])
   refine zab.done (by kernel_rfl) ?_ _;go_wp2;go_meet
   case rel=>exact ⟨by rw [hA],1,rfl⟩
 case rest=>
  obtain ⟨rfl,n0,rfl⟩:=hcut;obtain ⟨th,a2,s2,o2⟩:=look_set HX.out.1 (X0.out.2.1.keep (Step.rf.drewN (K:=No) n0) jI) (X0.out.2.2.2.1.drewN n0) hk0 HX.out.2.1;have v1:=X0.out.1.keep (Step.rf.drewN (K:=No) n0) jI;have hnk:¬One k 0:=fun (e:0=k)=>hk0 e.symm;have v2:=v1.keep s2 hnk;have hKl:(bC v.key).length=4:=by rw [zaf,HX.out.2.1]
  have hi0:(prog.info? 91).map (·.size)=some (bC v.key).length:=by rw [zaK,hKl]
  have hi1:(prog.info? 91).map (·.size)=some (bC v.key).toArray.size:=by rw [zaK];simp [hKl]
  have hB2:=all_oneCell_toArray (zaD v.key);have z0:=v2.get (i:=4) (u:=.int .i64 v.power) (by unfold valC;rw [List.getElem?_append_right (by rw [hKl];omega),hKl];rfl);have z1:=a2.get (i:=5) (u:=.int .i64 least) (by unfold lookC;rw [List.getElem?_append_right (by rw [hKl];omega),hKl];rfl);have z2:=a2.get (i:=6) (u:=.int .i64 most) (by unfold lookC;rw [List.getElem?_append_right (by rw [hKl];omega),hKl];rfl);obtain ⟨W2,hW2⟩:=jE (((W0.drewN n0).setCells xb 0 (bC v.key)).setCell ⟨xb,4,none⟩ (.bool true));rw [hW2] at a2 s2 o2 z0 z1 z2
  have hb0:((W0.drewN n0).setCells xb 0 (bC v.key)).cell? ⟨xb,4,none⟩=some (.bool begun):=by
   rw [World.cell?_setCells_out xb (bC v.key) 0 _ ⟨xb,4,none⟩ (fun _ _=>.inr (by show 0+(bC v.key).length≤4;rw [hKl];omega))];exact y4
  have hbf:((W0.drewN n0).setCells xb 0 (bC v.key)).frozen? ⟨xb,4,none⟩=false:=(Ok.setCells (b:=xb) (bC v.key) 0 _ (X0.out.2.2.2.1.drewN n0)).soft xb 4 (by rw [X0.out.2.1.col];exact hk0);obtain ⟨KV,hKV⟩:=jE (bC v.key);have SL:=jh5 v1.pre.cells hi0 th hi1 hB2;rw [hKV] at SL hW2 hb0 hbf;have X2:=jh4 a2 ((X0.out.2.2.1.drewN n0).ofNo.trans s2) o2 X0.out.2.2.2.2;clear a2 s2 o2 v1 v2 hKl hi0 hi1 hB2 th hKV X0;go_upto_if 28 with (first | (refine wpList_load_mid rfl 91 _ rfl vb 0 rfl KV _ SL.out.1 underlying91 rfl SL.out.2.1 ?_) | (refine wpList_store_mid rfl 91 _ _ rfl xb 0 KV.toArray rfl rfl SL.out.2.2.1 SL.out.2.2.2.1 SL.out.2.2.2.2 ?_))
  (try rw [hW2])
  clear hb0 hbf SL y4 hW2
  rcases Ah with _ | _
  ·obtain ⟨P,hP⟩:=jE v.power
   have HP:=jh1 hP;rw [hP] at z0;go_wp2_with fail;go_cut [30] from 31 to 46 (fun v5 wr=>v5=.bool (decide (P<least)||decide (most<P))∧∃n,wr=W2.drewN n)
   case first=>
    have KK:(fun W:World=>W.cell? ⟨vb,4,none⟩=some (.int .i64 P)∧W.cell? ⟨xb,5,none⟩=some (.int .i64 least)∧W.cell? ⟨xb,6,none⟩=some (.int .i64 most)) W2.drew:=⟨z0,z1,z2⟩;by_cases hpl:P<least
    ·skip
     refine zac (fun W=>W.cell? ⟨vb,4,none⟩=some (.int .i64 P)∧W.cell? ⟨xb,5,none⟩=some (.int .i64 least)∧W.cell? ⟨xb,6,none⟩=some (.int .i64 most)) (fun _=>true) (by kernel_rfl) ?_;refine tk3 0 _ 31 rfl rfl KK ?_;refine tk3 1 _ 32 rfl rfl KK ?_;refine tk3 2 _ 33 rfl rfl KK ?_;refine tk3 3 _ 34 rfl rfl KK ?_;refine tk3 4 _ 35 rfl rfl KK ?_;refine tk3 5 _ 36 rfl rfl KK ?_;refine tk3 6 _ 37 rfl rfl KK ?_;refine tk3 7 _ 38 rfl rfl KK ?_;refine tku 8 _ 39 rfl rfl KK ?_;refine tku 9 _ 40 rfl rfl KK ?_;refine tku 10 _ 41 rfl rfl KK ?_;refine tku 11 _ 42 rfl rfl KK ?_;refine tku 12 _ 43 rfl rfl KK ?_;refine tku 13 _ 44 rfl rfl KK ?_;refine tku 14 _ 45 rfl rfl KK ?_;refine tk3 15 _ 46 rfl rfl KK ?_;refine zab.one (i:=16) (by kernel_rfl) rfl (fun KQ hK=>?_);go_simp;refine hK.out _ _ (fun _=>KK) ?_;clear hK KQ
     (try simp only [jS])
     refine zab.done (by kernel_rfl) ?_ _;go_wp2;go_meet
     case rel=>exact ⟨by simp [hpl],1,rfl⟩
    ·by_cases hpm:most<P
     ·skip
      refine zac (fun W=>W.cell? ⟨vb,4,none⟩=some (.int .i64 P)∧W.cell? ⟨xb,5,none⟩=some (.int .i64 least)∧W.cell? ⟨xb,6,none⟩=some (.int .i64 most)) (fun _=>true) (by kernel_rfl) ?_;refine tk3 0 _ 31 rfl rfl KK ?_;refine tk3 1 _ 32 rfl rfl KK ?_;refine tk3 2 _ 33 rfl rfl KK ?_;refine tk3 3 _ 34 rfl rfl KK ?_;refine tk3 4 _ 35 rfl rfl KK ?_;refine tk3 5 _ 36 rfl rfl KK ?_;refine tk3 6 _ 37 rfl rfl KK ?_;refine tk3 7 _ 38 rfl rfl KK ?_;refine tk3 8 _ 39 rfl rfl KK ?_;refine tk3 9 _ 40 rfl rfl KK ?_;refine tk3 10 _ 41 rfl rfl KK ?_;refine tk3 11 _ 42 rfl rfl KK ?_;refine tk3 12 _ 43 rfl rfl KK ?_;refine tk3 13 _ 44 rfl rfl KK ?_;refine tk3 14 _ 45 rfl rfl KK ?_;refine tk3 15 _ 46 rfl rfl KK ?_;refine zab.one (i:=16) (by kernel_rfl) rfl (fun KQ hK=>?_);go_simp;refine hK.out _ _ (fun _=>KK) ?_;clear hK KQ
      (try simp only [jS])
      refine zab.done (by kernel_rfl) ?_ _;go_wp2;go_meet
      case rel=>exact ⟨by simp [hpl,hpm],1,rfl⟩
     ·skip
      refine zac (fun W=>W.cell? ⟨vb,4,none⟩=some (.int .i64 P)∧W.cell? ⟨xb,5,none⟩=some (.int .i64 least)∧W.cell? ⟨xb,6,none⟩=some (.int .i64 most)) (fun _=>true) (by kernel_rfl) ?_;refine tk3 0 _ 31 rfl rfl KK ?_;refine tk3 1 _ 32 rfl rfl KK ?_;refine tk3 2 _ 33 rfl rfl KK ?_;refine tk3 3 _ 34 rfl rfl KK ?_;refine tk3 4 _ 35 rfl rfl KK ?_;refine tk3 5 _ 36 rfl rfl KK ?_;refine tk3 6 _ 37 rfl rfl KK ?_;refine tk3 7 _ 38 rfl rfl KK ?_;refine tk3 8 _ 39 rfl rfl KK ?_;refine tk3 9 _ 40 rfl rfl KK ?_;refine tk3 10 _ 41 rfl rfl KK ?_;refine tk3 11 _ 42 rfl rfl KK ?_;refine tk3 12 _ 43 rfl rfl KK ?_;refine tk3 13 _ 44 rfl rfl KK ?_;refine tk3 14 _ 45 rfl rfl KK ?_;refine tk3 15 _ 46 rfl rfl KK ?_;refine zab.one (i:=16) (by kernel_rfl) rfl (fun KQ hK=>?_);go_simp;refine hK.out _ _ (fun _=>KK) ?_;clear hK KQ
      (try simp only [jS])
      refine zab.done (by kernel_rfl) ?_ _;go_wp2;go_meet
      case rel=>exact ⟨by simp [hpl,hpm],1,rfl⟩
   case rest=>
    obtain ⟨rfl,n1,rfl⟩:=hcut
    have hat:atV (lastO begun last) least most v=if (decide (P<least)||decide (most<P))=true then 3 else 0:=by
     unfold atV;rw [X2.out.2.2.2,HP.out,if_neg (by decide)];simp only [Bool.or_eq_true,decide_eq_true_eq]
    obtain ⟨bb,hbb⟩:=jE ((decide (P<least)||decide (most<P)));rw [hbb] at hat ⊢;have HAT:=jh1 hat;have X3:=jh3 (X2.out.1.keep (Step.rf.drewN (K:=No) n1) jI) (X2.out.2.1.drewN n1) (X2.out.2.2.1.drewN n1);clear hat hbb X2
    rcases bb with _ | _
    ·go_wp2
     go_ret;exact ⟨by rw [HAT.out];rfl,c,X3.out⟩
    ·go_wp2
     go_ret;exact ⟨by rw [HAT.out];rfl,c,X3.out⟩
  ·go_wp2
   go_ret;exact ⟨by unfold atV;rw [if_pos X2.out.2.2.2];rfl,c,X2.out.1,X2.out.2.1,X2.out.2.2.1⟩
end
def zbk (l:List Nat):List Value:=l.map fun (x:Nat)=>Value.int .u32 (x:Int)
theorem zaZ (l:List Nat):(zbk l).length=l.length:=by simp [zbk]
theorem u32C_one (l:List Nat):∀v∈zbk l,v.oneCell'=true:=by
 intro v hv;simp [zbk] at hv;obtain ⟨x,_,rfl⟩:=hv;rfl
def zbi:List Nat:=[0x6a09e667,0xbb67ae85,0x3c6ef372,0xa54ff53a,0x510e527f,0x9b05688c,0x1f83d9ab,0x5be0cd19]
theorem zbA:(prog.info? 271).map (·.size)=some 8:=by kernel_rfl
section
variable {c:Col}{w:World}
theorem begin_any (hok:Ok c w) :
  Calls prog 202 #[] w fun r w'=>r=.returned (.agg (zbk zbi).toArray)∧∃c',Step No c w c' w'∧Ok c' w':=by
 obtain ⟨a0,o0,s0⟩:=zan hok (zbk zbi) 271 0;have HX:=jh3 a0 s0 o0;have hi:=jh1 zbA;clear a0 o0 s0 hok;go_enter func202,ntmps202;go_wp2_with fail;exact bodyPost_ret (zad rfl _ _ w.heap.size 0 (zbk zbi) _ rfl HX.out.1.cells underlying271 rfl hi.out) rfl ⟨rfl,_,HX.out.2⟩
end
theorem rot_any (x:Nat) (hx:x<4294967296) (k:Int) (hk:k = -16∨k = -12∨k = -8∨k = -7) (w:World) :
  Calls prog 219 #[.int .u32 x,.int .i64 k] w fun r w'=>(∃y:Nat,y<4294967296∧r=.returned (.int .u32 y))∧w'=w:=by
 rcases hk with rfl | rfl | rfl | rfl
 ·have hb:bits BinOp.and IntKind.u64 (IntKind.u64.wrap (-16)) 31=16:=by kernel_rfl
  go_enter func219,ntmps219;go_wp2;go_ret;have h:=u32_or_nat (x*65536 % 4294967296) (x / 65536) (by omega) (by omega);refine ⟨⟨_,Nat.or_lt_two_pow (n:=32) (x:=x*65536 % 4294967296) (y:=x / 65536) (by omega) (by omega),?_⟩,rfl⟩;rw [←h]
  rfl
 ·have hb:bits BinOp.and IntKind.u64 (IntKind.u64.wrap (-12)) 31=20:=by kernel_rfl
  go_enter func219,ntmps219;go_wp2;go_ret;have h:=u32_or_nat (x*1048576 % 4294967296) (x / 4096) (by omega) (by omega);refine ⟨⟨_,Nat.or_lt_two_pow (n:=32) (x:=x*1048576 % 4294967296) (y:=x / 4096) (by omega) (by omega),?_⟩,rfl⟩;rw [←h]
  rfl
 ·have hb:bits BinOp.and IntKind.u64 (IntKind.u64.wrap (-8)) 31=24:=by kernel_rfl
  go_enter func219,ntmps219;go_wp2;go_ret;have h:=u32_or_nat (x*16777216 % 4294967296) (x / 256) (by omega) (by omega);refine ⟨⟨_,Nat.or_lt_two_pow (n:=32) (x:=x*16777216 % 4294967296) (y:=x / 256) (by omega) (by omega),?_⟩,rfl⟩;rw [←h]
  rfl
 ·have hb:bits BinOp.and IntKind.u64 (IntKind.u64.wrap (-7)) 31=25:=by kernel_rfl
  go_enter func219,ntmps219;go_wp2;go_ret;have h:=u32_or_nat (x*33554432 % 4294967296) (x / 128) (by omega) (by omega);refine ⟨⟨_,Nat.or_lt_two_pow (n:=32) (x:=x*33554432 % 4294967296) (y:=x / 128) (by omega) (by omega),?_⟩,rfl⟩;rw [←h]
  rfl
