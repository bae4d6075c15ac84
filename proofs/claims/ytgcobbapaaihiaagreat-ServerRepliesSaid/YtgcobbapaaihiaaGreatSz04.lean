/- ServerReplies, part 04: lemmas, each with its own conditions. -/
import Derived.Test.YtgcobbapaaihiaaGreatSz03
import Derived.Lib.IfaceEq
import Derived.Laws.Bits64b
set_option linter.all false
set_option maxHeartbeats 12800000
set_option maxRecDepth 100000
open Go.Proofs.Tryz
namespace Go.Proofs.YtgcobbapaaihiaaGreat
open Go.RowKit
section
variable {c:Col}{w:World}
theorem hash_any (hok:Ok c w) {k kb:Nat}{p:Nat}{lim:Int}{s:List UInt8×Int}(h:IsWr c k kb w p lim s) (hk0:k≠0) (hb0:kb≠0) (hkb:kb≠k) (hlim:lim≤1048576) (hl0:(s.1.length:Int)≤lim)
  (x:List UInt8) (hx:x.length=32) :
  Calls prog 208 #[.pointer (some ⟨p,0,none⟩),.agg (bC x).toArray] w fun r w'=>r=.returned (.int .i64 (putS lim s true x).2) ∧
   ∃c',IsWr c' k kb w' p lim (putS lim s true x)∧Step (Two k kb) c w c' w'∧Ok c' w':=by
 have a1:=At.new0 hok (bC x) 51;have o1:=hok.alloc (.cells (bC x).toArray 51);have s1:Step No c w c (w.alloc (.cells (bC x).toArray 51)):=Step.refl.alloc _;have sl1:=a1.sl (k2:=0) 0 32 (by omega) 32 (Nat.le_refl _) (by simp only [maxLen];omega);rw [List.drop_zero,List.take_of_length_le (by omega)] at sl1;have P:=put1 o1 (h.kn s1) hk0 hb0 hkb hlim hl0 sl1 (by omega);have hsl:=fun W=>run_arr0 (t:=51) underlying51 W w.heap.size;rw [World.size_alloc] at P;obtain ⟨B,hB⟩:=jE (bC x);rw [hB] at P s1 ⊢;have S:=jh1 s1;clear a1 o1 s1 sl1 h hok hB hx;go_enter func208,ntmps208;go_wp2_with fail;refine P.mono ?_;rintro e w2 ⟨rfl,c2,i2,s2,o2⟩;have P2:=jh3 i2 s2 o2;clear P i2 s2 o2;go_wp2;go_ret;obtain ⟨i2,s2,o2⟩:=P2.out;exact ⟨rfl,c2,i2,S.out.ofNo.trans s2,o2⟩
theorem key_any (hok:Ok c w) {k kb:Nat}{p:Nat}{lim:Int}{s:List UInt8×Int}(h:IsWr c k kb w p lim s) (hk0:k≠0) (hb0:kb≠0) (hkb:kb≠k) (hlim:lim≤1048576) (hl0:(s.1.length:Int)≤lim)
  (x:List UInt8) (hx:x.length=4) :
  Calls prog 190 #[.pointer (some ⟨p,0,none⟩),.agg (bC x).toArray] w fun r w'=>r=.returned (.int .i64 (putS lim s true x).2) ∧
   ∃c',IsWr c' k kb w' p lim (putS lim s true x)∧Step (Two k kb) c w c' w'∧Ok c' w':=by
 have a1:=At.new0 hok (bC x) 91;have o1:=hok.alloc (.cells (bC x).toArray 91);have s1:Step No c w c (w.alloc (.cells (bC x).toArray 91)):=Step.refl.alloc _;have sl1:=a1.sl (k2:=0) 0 4 (by omega) 4 (Nat.le_refl _) (by simp only [maxLen];omega);rw [List.drop_zero,List.take_of_length_le (by omega)] at sl1;have P:=put1 o1 (h.kn s1) hk0 hb0 hkb hlim hl0 sl1 (by omega);have hsl:=fun W=>run_arr0 (t:=91) underlying91 W w.heap.size;rw [World.size_alloc] at P;obtain ⟨B,hB⟩:=jE (bC x);rw [hB] at P s1 ⊢;have S:=jh1 s1;clear a1 o1 s1 sl1 h hok hB hx;go_enter func190,ntmps190;go_wp2_with fail;refine P.mono ?_;rintro e w2 ⟨rfl,c2,i2,s2,o2⟩;have P2:=jh3 i2 s2 o2;clear P i2 s2 o2;go_wp2;go_ret;obtain ⟨i2,s2,o2⟩:=P2.out;exact ⟨rfl,c2,i2,S.out.ofNo.trans s2,o2⟩
theorem wword_any (hok:Ok c w) {k kb:Nat}{p:Nat}{lim:Int}{s:List UInt8×Int}(h:IsWr c k kb w p lim s) (hk0:k≠0) (hb0:kb≠0) (hkb:kb≠k) (hlim:lim≤1048576) (hl0:(s.1.length:Int)≤lim)
  (n:Nat) (hn:n<18446744073709551616) :
  Calls prog 252 #[.pointer (some ⟨p,0,none⟩),.int .u64 n] w fun r w'=>r=.returned (.int .i64 (putS lim s true (wordB n)).2) ∧
   ∃c',IsWr c' k kb w' p lim (putS lim s true (wordB n))∧Step (Two k kb) c w c' w'∧Ok c' w':=by
 have N:=word_any hok n hn;have H:=jh1 h;have hB1:=zaD (wordB n);have hBl:(bC (wordB n)).length=8:=by rw [zaf,wordB,zbr]
 have hxl:(wordB n).length=8:=zbr 8 n;obtain ⟨x,hx⟩:=jE (wordB n);rw [hx] at N hB1 hBl hxl;clear h hok;go_enter func252,ntmps252;go_wp2_with fail;refine N.mono ?_;rintro e w1 ⟨rfl,c1,s1,o1⟩;obtain ⟨B,hB⟩:=jE (bC x);have h1:=H.out.kn s1;obtain ⟨q,hq,hqc⟩:=o1.spare 0;have hq0:q≠0:=by omega
 obtain ⟨a2,o2,s2⟩:=zan o1 (bC (List.replicate 8 0)) 319 q;have hi1:(prog.info? 319).map (·.size)=some (bC x).length:=by rw [info8,hBl]
 obtain ⟨S0,a3⟩:=a2.st o2 hq0 (ty:=319) (us:=bC x) (by rw [hBl];simp [zaf]) hi1 hB1;have ht0:=a2.there (o:=0) (n:=(bC x).toArray.size) o2 hq0 (by simp [zaf,hxl]);have s3:Step No c1 w1 (c1.put w1.heap.size q) ((w1.alloc (.cells (bC (List.replicate 8 0)).toArray 319)).setCells w1.heap.size 0 (bC x)):=Step.setCells (.inl (Nat.le_refl _)) _ _ _ s2;have o3:Ok (c1.put w1.heap.size q) ((w1.alloc (.cells (bC (List.replicate 8 0)).toArray 319)).setCells w1.heap.size 0 (bC x)):=Ok.setCells _ _ _ o2;have sl3:=a3.sl (k2:=0) 0 8 (by omega) 8 (Nat.le_refl _) (by simp only [maxLen];omega);rw [List.drop_zero,List.take_of_length_le (by omega)] at sl3;obtain ⟨c4,sl4,s4,o4⟩:=Sl.out1 sl3 s3.ofNo o3 hqc hq0 (by omega) 0;have P:=put1 o4 (h1.kn s4) hk0 hb0 hkb hlim hl0 sl4 (by omega);have hsl:=fun W=>run_arr0 (t:=319) underlying319 W w1.heap.size;rw [show (bC (List.replicate 8 0)).toArray=#[.int .u8 0,.int .u8 0,.int .u8 0,.int .u8 0,.int .u8 0,.int .u8 0,.int .u8 0,.int .u8 0] from rfl] at P;have hi2:(prog.info? 319).map (·.size)=some (bC x).toArray.size:=by rw [info8];simp [hBl]
 have hB2:=all_oneCell_toArray hB1;have sx:=s1.trans s4;rw [hB] at P ht0 hi2 hB2 sx ⊢;have S:=jh2 sx hx;have SH:=jh3 ht0 hi2 hB2;clear sx N s1 o1 h1 a2 o2 s2 S0 a3 ht0 s3 o3 sl3 sl4 s4 o4 hi1 hB1 hBl hB hx hi2 hB2;go_wp2_with (refine wpList_store_mid rfl 319 _ _ rfl w1.heap.size 0 B.toArray rfl rfl SH.out.1 SH.out.2.1 SH.out.2.2 ?_);refine P.mono ?_;rintro e w2 ⟨rfl,c2,i2,s2,o2⟩;have P2:=jh3 i2 s2 o2;clear P i2 s2 o2;go_wp2;go_ret;obtain ⟨i2,s2,o2⟩:=P2.out;rw [S.out.2];exact ⟨rfl,c2,i2,S.out.1.ofNo.trans s2,o2⟩
theorem clone_any (hok:Ok c w) {kx:Nat}(k:Nat) {v:Value}{l:List UInt8}(hv:Sl zag c kx 0 w v l) (hlen:l.length≤1000000000) :
  Calls prog 95 #[v] w fun e w'=>∃v' c',e=.returned v'∧Own zag 5 c' k 0 w' v' l∧Step No c w c' w'∧Ok c' w':=by
 have hn:=fun (w:World) a n c=>Lib.run_eql_slice_nil (P:=prog) w 26 5 a n c 0 0 underlying26;obtain ⟨va,vc,rfl,hva⟩:=hv.form
 cases va with
 | none=>
  obtain ⟨rfl,rfl⟩:=hva rfl;clear hv hva hlen;simp only [List.length_nil];go_enter func95,ntmps95;go_wp2;go_ret;exact ⟨_,c,rfl,Own.nil _ _ _ _ _ _,Step.refl,hok⟩
 | some ad=>
  obtain ⟨q,hq,hqc⟩:=hok.spare 0;have hqk:0≠q:=by omega
  have hq0:q≠0:=by omega
  obtain ⟨o1,o2,o3⟩:=Own.new0 zag 5 hok q 0;have hx':=hv.keep o3 jI jI;have hml:([]:List UInt8).length+l.length≤maxLen:=by simp [maxLen];omega
  have hbl:(([]:List UInt8).length+l.length)*1≤140737488355328:=by simp;omega
  clear hv hva;go_enter func95,ntmps95;go_wp2_with (at_builtin;refine zaq zag o2 rfl _ _ 26 rfl 5 underlying26 zbp rfl (by decide) rfl rfl o1 hx' hqk hml hbl ?_;intro v' w' c' a1 a2 a3 _);go_ret;exact ⟨v',c'.turn q k,rfl,a1.turn hqk,((o3.ofNo.trans a2).turn rfl).own hqc,a3.turn hq0⟩
theorem done_any (hok:Ok c w) {k kb:Nat}{p:Nat}{lim:Int}{s:List UInt8×Int}(h:IsWr c k kb w p lim s) (he:s.2=0) (hl:s.1.length≤1000000000) (kx:Nat) :
  Calls prog 92 #[.pointer (some ⟨p,0,none⟩)] w fun r w'=>∃v,r=.returned (.tuple #[v,.int .i64 0])∧∃c',Sl zag c' kx 0 w' v s.1∧Step No c w c' w'∧Ok c' w':=by
 obtain ⟨bs,e⟩:=s;obtain ⟨bv,a,ow⟩:=h.row;have he:e=0:=he;subst he;have y1:=a.get (i:=1) rfl;have y2:=a.get (i:=2) rfl;have y3:=a.get (i:=3) rfl;have C:=clone_any hok kx ow.sl hl;clear h a ow hok hl;go_enter func92,ntmps92;go_wp2_with fail;refine C.mono ?_;rintro e1 w1 ⟨v1,c1,rfl,p1,s1,o1⟩;have P1:=jh3 p1.sl s1 o1;clear C p1 s1 o1;go_wp2;go_ret2;exact ⟨v1,rfl,c1,P1.out⟩
end
def bigF:Nat→List UInt8→Nat
 | a,[]=>a
 | a,x::l=>bigF (a*256+x.toNat) l
def bigN (l:List UInt8):Nat:=bigF 0 l
theorem bigF_app (a:Nat) (l:List UInt8) (x:UInt8):bigF a (l++[x])=bigF a l*256+x.toNat:=by
 induction l generalizing a with
 | nil=>rfl
 | cons y l ih=>exact ih _
theorem bigN_app (l:List UInt8) (x:UInt8):bigN (l++[x])=bigN l*256+x.toNat:=bigF_app 0 l x
theorem bigF_lt:∀(l:List UInt8) (a:Nat),bigF a l<(a+1)*256 ^ l.length
 | [],a=>by simp [bigF]
 | x::l,a=>by
  have h1:=bigF_lt l (a*256+x.toNat);have h2:=x.toNat_lt;have h3:(a*256+x.toNat+1)*256 ^ l.length≤(a+1)*256*256 ^ l.length:=Nat.mul_le_mul_right _ (by omega);rw [List.length_cons,Nat.pow_succ,Nat.mul_comm (256 ^ l.length),←Nat.mul_assoc];exact Nat.lt_of_lt_of_le h1 h3
theorem bigN_lt (l:List UInt8):bigN l<256 ^ l.length:=by have:=bigF_lt l 0;simpa [bigN] using this
theorem or_byte (m:Nat) (x:UInt8) (hm:m<72057594037927936):bits .or .u64 (IntKind.u64.wrap ((m:Int)*256)) (IntKind.u64.wrap (x.toNat:Int))=((m*256+x.toNat:Nat):Int):=by
 have hx:=x.toNat_lt;have e1:IntKind.u64.wrap ((m:Int)*256)=((m*256:Nat):Int):=by rw [IntWalk.u64_in _ (by omega),Int.natCast_mul];rfl
 have e2:IntKind.u64.wrap (x.toNat:Int)=(x.toNat:Int):=IntWalk.u64_in _ (by omega);rw [e1,e2,bits_or_u64_nat _ _ (by omega) (by omega)];have:=Nat.shiftLeft_add_eq_or_of_lt (i:=8) (b:=x.toNat) (by omega) m;rw [Nat.shiftLeft_eq] at this;rw [←this]
section
variable {c:Col}{w:World}
theorem zbF (w:World) (e at_:Int):Calls prog 101 #[.bool true,.int .i64 e,.int .i64 at_] w fun r w'=>r=.returned (.tuple #[])∧w'=w:=by
 go_enter func101,ntmps101;go_wp2
 first | go_end0 | refine bodyPost_ret (results_none rfl _ _ _) rfl ?_
 exact ⟨rfl,rfl⟩
theorem must_no (w:World) (e at_:Int):Calls prog 101 #[.bool false,.int .i64 e,.int .i64 at_] w fun r w'=>r=.panicked [{ v:=.iface 210 (.agg #[.int .i64 e,.int .i64 at_]),recovered:=false }]∧w'=w:=by
 go_enter func101,ntmps101;go_wp2;exact ⟨rfl,rfl,rfl⟩
theorem big_any {kx:Nat}{v:Value}{l:List UInt8}(h:Sl zag c kx 0 w v l) (hl:l.length≤8) :
  Calls prog 136 #[v] w fun r w'=>r=.returned (.int .u64 (bigN l))∧w'=w:=by
 by_cases h0:l.length=0
 ·obtain ⟨va,vc,rfl,_⟩:=h.form
  obtain rfl:=List.eq_nil_of_length_eq_zero h0;clear h;simp only [List.length_nil];go_enter func136,ntmps136;go_wp2_with fail;refine wp_loop_once ?_;go_wp2;go_ret;exact ⟨rfl,rfl⟩
 obtain ⟨g,off,cap,rfl,_⟩:=h.ex (by omega);go_enter func136,ntmps136;go_wp2;go_loopw [2,7] (fun vn vi wr=>∃(j m:Nat),j≤l.length∧vi=.int .i64 j∧vn=.int .u64 m∧bigN (l.take j)=m∧w=wr) (fun _ vi _=>l.length-(intOf vi).toNat)
 case atStart=>exact ⟨0,0,Nat.zero_le _,rfl,rfl,rfl,rfl⟩
 case round=>
  obtain ⟨j,m,hj,rfl,rfl,hm,rfl⟩:=hrel;by_cases hlt:j<l.length
  ·obtain ⟨x,hx⟩:∃x,l[j]? = some x:=⟨l[j],by simp [hlt]⟩
   obtain ⟨vs,rfl,hcs⟩:=h.at hx;have y0:=hcs.get 0 rfl;simp only [zag,Nat.mul_one,Nat.add_zero] at y0;have hb:=bigN_lt (l.take j);have hj0:(0:Int)≤(j:Int):=by omega
   have hj1:(j:Int)<(l.length:Int):=by omega
   clear hcs;go_wp2;go_roundw
   case rel=>
    have h7:m<72057594037927936:=by
     rw [List.length_take,Nat.min_eq_left hj] at hb;rw [←hm];exact Nat.lt_of_lt_of_le hb (Nat.le_trans (Nat.pow_le_pow_right (n:=256) (j:=7) (by decide) (by omega)) (by decide))
    exact ⟨j+1,m*256+x.toNat,by omega,by go_num,by rw [or_byte _ _ h7],by rw [List.take_add_one,hx];simp only [Option.toList_some];rw [bigN_app,hm],trivial⟩
   case measure=>simp [intOf];omega
  ·have hjl:j=l.length:=by omega
   subst hjl;rw [List.take_length] at hm;clear h;go_wp2;go_ret;exact ⟨by rw [hm];rfl,rfl⟩
end
structure IsRd (c:Col) (k:Nat) (w:World) (p:Nat) (bs:List UInt8) (at_:Nat) (f:Int×Int):Prop where
 row:∃bv,At c w p k [bv,.int .i64 at_,.int .i64 f.1,.int .i64 f.2,.bool true]∧Own zag 5 c 0 0 w bv bs
 le:at_≤bs.length
 few:bs.length≤1000000000
theorem IsRd.keep {K:Nat→Prop}{c c':Col}{k:Nat}{w w':World}{p:Nat}{bs:List UInt8}{a:Nat}{f:Int×Int}(h:IsRd c k w p bs a f) (hs:Step K c w c' w') (hk:¬K k) (h0:¬K 0):IsRd c' k w' p bs a f:=by
 obtain ⟨bv,x,o⟩:=h.row;exact ⟨⟨bv,x.keep hs hk,o.keep hs h0 h0⟩,h.le,h.few⟩
theorem IsRd.kn {c c':Col}{k:Nat}{w w':World}{p:Nat}{bs:List UInt8}{a:Nat}{f:Int×Int}(h:IsRd c k w p bs a f) (hs:Step No c w c' w'):IsRd c' k w' p bs a f:=h.keep hs jI jI
theorem IsRd.move {c:Col}{k:Nat}{w:World}{p:Nat}{bs:List UInt8}{a:Nat}{f:Int×Int}(h:IsRd c k w p bs a f) (hk:k≠0) {a':Nat}(hl:a'≤bs.length) :
  IsRd c k (w.setCell ⟨p,1,none⟩ (.int .i64 a')) p bs a' f:=by
 obtain ⟨bv,x,o⟩:=h.row;have hc:c p=k:=x.col;exact ⟨⟨bv,x.setN (i:=1) (by simp) (.int .i64 a'),o.set (a:=⟨p,1,none⟩) (by show c p≠0;omega) (by show c p≠0;omega) _⟩,hl,h.few⟩
section
variable {c:Col}{w:World}
theorem zaM (hok:Ok c w) {kx:Nat}{v:Value}{bs:List UInt8}(hv:Sl zag c kx 0 w v bs) (hl:bs.length≤1000000000) (k:Nat) :
  Calls prog 50 #[v] w fun r w'=>∃p,r=.returned (.pointer (some ⟨p,0,none⟩))∧∃c',IsRd c' k w' p bs 0 (0,0)∧Step No c w c' w'∧Ok c' w'∧w.heap.size≤p:=by
 have C:=clone_any hok 0 hv hl;clear hv hok;go_enter func50,ntmps50;go_wp2_with fail;refine C.mono ?_;rintro e w1 ⟨v1,c1,rfl,p1,s1,o1⟩;obtain ⟨va,vc,rfl,_⟩:=p1.sl.form;obtain ⟨a2,o2,s2⟩:=zan o1 [.slice va bs.length vc,.int .i64 0,.int .i64 0,.int .i64 0,.bool true] 163 k;have H:=jh5 a2 o2 (s1.trans s2) (p1.kn s2) s1.size;clear C p1 s1 o1 a2 o2 s2;go_wp2;go_ret;obtain ⟨a2,o2,s2,sl,hz⟩:=H.out;exact ⟨_,rfl,_,⟨⟨_,a2,sl⟩,Nat.zero_le _,hl⟩,s2,o2,hz⟩
theorem Own.form2 {α:Type}{T:Ty α}{e:TypeId}{c:Col}{k k2:Nat}{w:World}{v:Value}{l:List α}(h:Own T e c k k2 w v l):(v=.slice none 0 0∧l=[])∨∃g cap,v=.slice (some ⟨g,0,none⟩) l.length cap∧l.length≤cap:=by
 obtain ⟨xss,hx,_,_,hown,_⟩:=h
 rcases hown.2 with ⟨rfl,hn⟩ | ⟨g,cap,cur,rfl,_,_,h1,_⟩
 ·exact .inl ⟨rfl,List.eq_nil_of_length_eq_zero hn⟩
 ·exact .inr ⟨g,cap,rfl,h1⟩
theorem Sl.sub {c:Col}{k k2:Nat}{w:World}{g off cap:Nat}{l:List UInt8}(h:Sl zag c k k2 w (.slice (some ⟨g,off,none⟩) l.length cap) l) (i n:Nat) (hn:i+n≤l.length) :
  Sl zag c k k2 w (.slice (some ⟨g,off+i,none⟩) n (cap-i)) ((l.drop i).take n):=by
 have hlen:((l.drop i).take n).length=n:=by rw [List.length_take,List.length_drop];omega
 rcases h with ⟨rfl,a',cp,hv,h1,_⟩ | ⟨b,o,cp,hv,h1,h2,h3,h4,h5⟩
 ·cases hv
  have:n=0:=by simp at hn;omega
  subst this;exact .inl ⟨by simp,_,_,rfl,by omega,fun h=>by cases h⟩
 ·cases hv
  refine .inr ⟨g,off+i,cap-i,by rw [hlen],by rw [hlen];omega,by omega,h3,h4,fun j x hj=>?_⟩;have hjn:j<n:=by have:=(List.getElem?_eq_some_iff.1 hj).1;omega
  rw [List.getElem?_take_of_lt hjn,List.getElem?_drop] at hj;obtain ⟨vs,r1,r2⟩:=h5 (i+j) x hj;exact ⟨vs,r1,by rw [show off+i+j*zag.n=off+(i+j)*zag.n by simp [zag];omega];exact r2⟩
end
section
variable {c:Col}{w:World}
theorem takeN_any (hok:Ok c w) {k p:Nat}{bs:List UInt8}{a:Nat}{f:Int×Int}(h:IsRd c k w p bs a f) (hk0:k≠0) (n:Nat) (hn:a+n≤bs.length) (h8:n≤8) (at0:Int) :
  Calls prog 135 #[.pointer (some ⟨p,0,none⟩),.int .i64 n,.int .i64 at0,.func (.func 136) #[] #[]] w fun r w'=>r=.returned (.int .u64 (bigN ((bs.drop a).take n)))∧IsRd c k w' p bs (a+n) f∧Step (One k) c w c w'∧Ok c w':=by
 obtain ⟨bv,x,ow⟩:=h.row;have hle:=h.le;have hfew:=h.few
 obtain ⟨va,vc,hbv,hcap,hcase⟩:∃va vc,bv=.slice va bs.length vc∧bs.length≤vc∧((va=none∧vc=0)∨∃g,va=some ⟨g,0,none⟩):=by
  rcases ow.form2 with ⟨rfl,rfl⟩ | ⟨g,cap,rfl,hc⟩
  ·exact ⟨none,0,rfl,Nat.le_refl _,.inl ⟨rfl,rfl⟩⟩
  ·exact ⟨_,cap,rfl,hc,.inr ⟨g,rfl⟩⟩
 subst hbv;have y0:=x.get (i:=0) rfl;have y1:=x.get (i:=1) rfl;have y1f:=x.fz hok hk0 1;have hcp:c p=k:=x.col;have hd:decide ((n:Int)≤(bs.length:Int)-(a:Int))=true:=by simp;omega
 have hw:IntKind.i64.wrap ((bs.length:Int)-(a:Int))=(bs.length:Int)-(a:Int):=IntWalk.i64_in _ (by omega);have hw2:IntKind.i64.wrap ((a:Int)+(n:Int))=(a:Int)+(n:Int):=IntWalk.i64_in _ (by omega);have hw3:IntKind.i64.wrap (a:Int)=(a:Int):=IntWalk.i64_in _ (by omega);have ht:((a:Int)+(n:Int)).toNat-a=n:=by omega
 have ha0:(0:Int)≤(a:Int):=by omega
 have ha1:(a:Int)≤(a:Int)+(n:Int):=by omega
 have ha2:(a:Int)+(n:Int)≤(vc:Int):=by omega
 have M:=zbF w.drew 6 at0;have m1:=h.move hk0 (a':=a+n) hn;rw [Int.natCast_add] at m1
 have z0:(w.setCell ⟨p,1,none⟩ (.int .i64 ((a:Int)+(n:Int)))).drew.drew.cell? ⟨p,0,none⟩=some (.slice va bs.length vc):=by
  show (w.setCell ⟨p,1,none⟩ (.int .i64 ((a:Int)+(n:Int)))).cell? ⟨p,0,none⟩=_;rw [World.cell?_setCell_other _ _ _ _ (by intro e;injection e with e1 e2;cases e2)];exact y0
 have z1:(w.setCell ⟨p,1,none⟩ (.int .i64 ((a:Int)+(n:Int)))).drew.drew.cell? ⟨p,1,none⟩=some (.int .i64 ((a:Int)+(n:Int))):=
  World.cell?_setCell_same' _ _ _ (by rw [y1];rfl)
 have s1:Step (One k) c w c ((w.setCell ⟨p,1,none⟩ (.int .i64 ((a:Int)+(n:Int)))).drewN 2):=((Step.refl (K:=One k)).setCell (a:=⟨p,1,none⟩) (.inr x.col) _).drewN 2;have ok1:Ok c ((w.setCell ⟨p,1,none⟩ (.int .i64 ((a:Int)+(n:Int)))).drewN 2):=(hok.setCell _ _).drewN 2;have ow1:Own zag 5 c 0 0 ((w.setCell ⟨p,1,none⟩ (.int .i64 ((a:Int)+(n:Int)))).drewN 2) (.slice va bs.length vc) bs:=(ow.set (a:=⟨p,1,none⟩) (by show c p≠0;omega) (by show c p≠0;omega) _).kn (Step.rf.drewN 2);have hm2:=m1.kn (Step.rf.drewN 2);have HH:=jh2 hm2 s1;have OK:=jh1 ok1;have K1:(fun W=>W.cell? ⟨p,0,none⟩=some (.slice va bs.length vc)∧W.cell? ⟨p,1,none⟩=some (.int .i64 a)) w.drew:=⟨y0,y1⟩;by_cases hca:vc=a
 ·have HN:=jh1 (show n=0 by omega)
  have hca1:(vc=a)=True:=eq_true hca;have hva:vc-a=0:=by omega
  clear hca;have SL:Sl zag c 0 0 ((w.setCell ⟨p,1,none⟩ (.int .i64 ((a:Int)+(n:Int)))).drewN 2) (.slice va n 0) ((bs.drop a).take n):=by rw [HN.out];exact .inl ⟨by simp,_,_,rfl,Nat.zero_le _,fun _=>rfl⟩
  have B:=big_any SL (by rw [List.length_take];omega);clear x ow hok h m1 hm2 s1 ok1 ow1 SL;go_enter func135,ntmps135;go_wp2_with fail;refine zac (fun W=>W.cell? ⟨p,0,none⟩=some (.slice va bs.length vc)∧W.cell? ⟨p,1,none⟩=some (.int .i64 a)) (fun _=>true) (by kernel_rfl) ?_;refine tk2 0 _ 9 rfl rfl K1 ?_;refine tk2 1 _ 10 rfl rfl K1 ?_;refine tk2 2 _ 11 rfl rfl K1 ?_;refine tk2 3 _ 12 rfl rfl K1 ?_;refine tk2 4 _ 13 rfl rfl K1 ?_;refine tk2 5 _ 14 rfl rfl K1 ?_;refine tk2 6 _ 15 rfl rfl K1 ?_;refine tk2 7 _ 16 rfl rfl K1 ?_;refine tk2 8 _ 17 rfl rfl K1 ?_;refine tk2 9 _ 18 rfl rfl K1 ?_;refine tk2 10 _ 19 rfl rfl K1 ?_;refine tk2 11 (.bool true) 20 rfl rfl K1 ?_;refine tk2 12 _ 21 rfl rfl K1 ?_;refine zab.one (i:=13) (by kernel_rfl) rfl (fun KQ hK=>?_);go_simp;refine M.mono ?_;rintro e w1 ⟨rfl,rfl⟩;refine hK.out _ _ (fun _=>K1) ?_;clear hK KQ
  (try simp only [jS])
  refine zab.done (by kernel_rfl) ?_ _;go_wp2_with fail;clear y0 y1 K1 M hd hw;have K2:(fun W=>W.cell? ⟨p,0,none⟩=some (.slice va bs.length vc)∧W.cell? ⟨p,1,none⟩=some (.int .i64 ((a:Int)+(n:Int)))) (w.setCell ⟨p,1,none⟩ (.int .i64 ((a:Int)+(n:Int)))).drew.drew:=⟨z0,z1⟩;refine zac (fun W=>W.cell? ⟨p,0,none⟩=some (.slice va bs.length vc)∧W.cell? ⟨p,1,none⟩=some (.int .i64 ((a:Int)+(n:Int)))) (fun _=>true) (by kernel_rfl) ?_;refine tk2 0 _ 31 rfl rfl K2 ?_;refine tk2 1 _ 32 rfl rfl K2 ?_;refine tk2 2 _ 33 rfl rfl K2 ?_;refine tk2 3 _ 34 rfl rfl K2 ?_;refine tk2 4 _ 35 rfl rfl K2 ?_;refine tk2 5 _ 36 rfl rfl K2 ?_;refine tk2 6 _ 37 rfl rfl K2 ?_;refine tk2 7 _ 38 rfl rfl K2 ?_;refine tk2 8 _ 39 rfl rfl K2 ?_;refine tk2 9 _ 40 rfl rfl K2 ?_;refine tk2 10 (.int .i64 a) 41 rfl rfl K2 ?_;refine tk2 11 _ 42 rfl rfl K2 ?_;refine tk2 12 _ 43 rfl rfl K2 ?_;refine tk2 13 _ 44 rfl rfl K2 ?_;refine tk2 14 _ 45 rfl rfl K2 ?_;refine tk2 15 (.slice va n 0) 46 rfl rfl K2 ?_;refine zab.one (i:=16) (by kernel_rfl) rfl (fun KQ hK=>?_);go_simp;refine B.mono ?_;rintro e w1 ⟨rfl,rfl⟩;refine hK.out _ _ (fun _=>K2) ?_;clear hK KQ
  (try simp only [jS])
  refine zab.one (i:=17) (by kernel_rfl) rfl (fun KQ hK=>?_);go_simp;refine hK.out _ _ (fun _=>K2) ?_;clear hK KQ
  (try simp only [jS])
  refine zab.done (by kernel_rfl) ?_ _;go_wp2;go_ret;exact ⟨rfl,HH.out.1,HH.out.2,OK.out⟩
 ·obtain ⟨g,rfl⟩:∃g,va=some ⟨g,0,none⟩:=by
   rcases hcase with ⟨rfl,rfl⟩ | h
   ·exact absurd (by omega) hca
   ·exact h
  have SL:Sl zag c 0 0 ((w.setCell ⟨p,1,none⟩ (.int .i64 ((a:Int)+(n:Int)))).drewN 2) (.slice (some ⟨g,a,none⟩) n (vc-a)) ((bs.drop a).take n):=by have:=ow1.sl.sub a n hn;rwa [Nat.zero_add] at this
  have B:=big_any SL (by rw [List.length_take];omega);clear x ow hok h m1 hm2 s1 ok1 ow1 SL;go_enter func135,ntmps135;go_wp2_with fail;refine zac (fun W=>W.cell? ⟨p,0,none⟩=some (.slice (some ⟨g,0,none⟩) bs.length vc)∧W.cell? ⟨p,1,none⟩=some (.int .i64 a)) (fun _=>true) (by kernel_rfl) ?_;refine tk2 0 _ 9 rfl rfl K1 ?_;refine tk2 1 _ 10 rfl rfl K1 ?_;refine tk2 2 _ 11 rfl rfl K1 ?_;refine tk2 3 _ 12 rfl rfl K1 ?_;refine tk2 4 _ 13 rfl rfl K1 ?_;refine tk2 5 _ 14 rfl rfl K1 ?_;refine tk2 6 _ 15 rfl rfl K1 ?_;refine tk2 7 _ 16 rfl rfl K1 ?_;refine tk2 8 _ 17 rfl rfl K1 ?_;refine tk2 9 _ 18 rfl rfl K1 ?_;refine tk2 10 _ 19 rfl rfl K1 ?_;refine tk2 11 (.bool true) 20 rfl rfl K1 ?_;refine tk2 12 _ 21 rfl rfl K1 ?_;refine zab.one (i:=13) (by kernel_rfl) rfl (fun KQ hK=>?_);go_simp;refine M.mono ?_;rintro e w1 ⟨rfl,rfl⟩;refine hK.out _ _ (fun _=>K1) ?_;clear hK KQ
  (try simp only [jS])
  refine zab.done (by kernel_rfl) ?_ _;go_wp2_with fail;clear y0 y1 K1 M hd hw;have K2:(fun W=>W.cell? ⟨p,0,none⟩=some (.slice (some ⟨g,0,none⟩) bs.length vc)∧W.cell? ⟨p,1,none⟩=some (.int .i64 ((a:Int)+(n:Int)))) (w.setCell ⟨p,1,none⟩ (.int .i64 ((a:Int)+(n:Int)))).drew.drew:=⟨z0,z1⟩;refine zac (fun W=>W.cell? ⟨p,0,none⟩=some (.slice (some ⟨g,0,none⟩) bs.length vc)∧W.cell? ⟨p,1,none⟩=some (.int .i64 ((a:Int)+(n:Int)))) (fun _=>true) (by kernel_rfl) ?_;refine tk2 0 _ 31 rfl rfl K2 ?_;refine tk2 1 _ 32 rfl rfl K2 ?_;refine tk2 2 _ 33 rfl rfl K2 ?_;refine tk2 3 _ 34 rfl rfl K2 ?_;refine tk2 4 _ 35 rfl rfl K2 ?_;refine tk2 5 _ 36 rfl rfl K2 ?_;refine tk2 6 _ 37 rfl rfl K2 ?_;refine tk2 7 _ 38 rfl rfl K2 ?_;refine tk2 8 _ 39 rfl rfl K2 ?_;refine tk2 9 _ 40 rfl rfl K2 ?_;refine tk2 10 (.int .i64 a) 41 rfl rfl K2 ?_;refine tk2 11 _ 42 rfl rfl K2 ?_;refine tk2 12 _ 43 rfl rfl K2 ?_;refine tk2 13 _ 44 rfl rfl K2 ?_;refine tk2 14 _ 45 rfl rfl K2 ?_;refine tk2 15 (.slice (some ⟨g,a,none⟩) n (vc-a)) 46 rfl rfl K2 ?_;refine zab.one (i:=16) (by kernel_rfl) rfl (fun KQ hK=>?_);go_simp;refine B.mono ?_;rintro e w1 ⟨rfl,rfl⟩;refine hK.out _ _ (fun _=>K2) ?_;clear hK KQ
  (try simp only [jS])
  refine zab.one (i:=17) (by kernel_rfl) rfl (fun KQ hK=>?_);go_simp;refine hK.out _ _ (fun _=>K2) ?_;clear hK KQ
  (try simp only [jS])
  refine zab.done (by kernel_rfl) ?_ _;go_wp2;go_ret;exact ⟨rfl,HH.out.1,HH.out.2,OK.out⟩
end
