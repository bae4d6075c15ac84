/- ServerReplies, part j: lemmas, each with its own conditions. -/
import Derived.Test.YtgcobbapaaihiaaGreatRows
import Derived.Lib.Hide
namespace Go.Proofs.YtgcobbapaaihiaaGreat
theorem jI {A:Prop} (h:A):A:=h
theorem jh1 {A:Prop} (h:A):Go.RowKit.Hid A:=h
theorem jz (n:Nat):n+1≠0:=Nat.succ_ne_zero n
theorem jS:(∀(a:Act) (d:Tmp) (v:Value),a.put (some d) v={a with tmps:=a.tmps.setIfInBounds d v})∧(∀(a:Act) (v:Value),a.put none v=a)∧(∀(l:List Value) (i:Nat) (a:Value),l.toArray.setIfInBounds i a=(l.set i a).toArray)∧(∀(a b:Value) (l:List Value),(a::l).set 0 b=b::l)∧(∀(a b:Value) (l:List Value) (n:Nat),(a::l).set (n+1) b=a::l.set n b):=⟨fun _ _ _=>rfl,fun _ _=>rfl,fun _ _ _=>List.setIfInBounds_toArray _ _ _,fun _ _ _=>rfl,fun _ _ _ _=>rfl⟩
theorem jE {α:Sort _} (a:α):∃ x,a=x:=⟨_,rfl⟩
theorem jn2 {A B:Prop} (hA:A) (hB:B):A∧B:=⟨hA,hB⟩
theorem jh2 {A B:Prop} (hA:A) (hB:B):Go.RowKit.Hid (A∧B):=⟨hA,hB⟩
theorem jn3 {A B C:Prop} (hA:A) (hB:B) (hC:C):A∧B∧C:=⟨hA,hB,hC⟩
theorem jh3 {A B C:Prop} (hA:A) (hB:B) (hC:C):Go.RowKit.Hid (A∧B∧C):=⟨hA,hB,hC⟩
theorem jn4 {A B C D:Prop} (hA:A) (hB:B) (hC:C) (hD:D):A∧B∧C∧D:=⟨hA,hB,hC,hD⟩
theorem jh4 {A B C D:Prop} (hA:A) (hB:B) (hC:C) (hD:D):Go.RowKit.Hid (A∧B∧C∧D):=⟨hA,hB,hC,hD⟩
theorem jn5 {A B C D E:Prop} (hA:A) (hB:B) (hC:C) (hD:D) (hE:E):A∧B∧C∧D∧E:=⟨hA,hB,hC,hD,hE⟩
theorem jh5 {A B C D E:Prop} (hA:A) (hB:B) (hC:C) (hD:D) (hE:E):Go.RowKit.Hid (A∧B∧C∧D∧E):=⟨hA,hB,hC,hD,hE⟩
theorem jn6 {A B C D E F:Prop} (hA:A) (hB:B) (hC:C) (hD:D) (hE:E) (hF:F):A∧B∧C∧D∧E∧F:=⟨hA,hB,hC,hD,hE,hF⟩
theorem jh6 {A B C D E F:Prop} (hA:A) (hB:B) (hC:C) (hD:D) (hE:E) (hF:F):Go.RowKit.Hid (A∧B∧C∧D∧E∧F):=⟨hA,hB,hC,hD,hE,hF⟩
theorem jn7 {A B C D E F G:Prop} (hA:A) (hB:B) (hC:C) (hD:D) (hE:E) (hF:F) (hG:G):A∧B∧C∧D∧E∧F∧G:=⟨hA,hB,hC,hD,hE,hF,hG⟩
theorem jh7 {A B C D E F G:Prop} (hA:A) (hB:B) (hC:C) (hD:D) (hE:E) (hF:F) (hG:G):Go.RowKit.Hid (A∧B∧C∧D∧E∧F∧G):=⟨hA,hB,hC,hD,hE,hF,hG⟩
theorem jn8 {A B C D E F G H:Prop} (hA:A) (hB:B) (hC:C) (hD:D) (hE:E) (hF:F) (hG:G) (hH:H):A∧B∧C∧D∧E∧F∧G∧H:=⟨hA,hB,hC,hD,hE,hF,hG,hH⟩
theorem jh8 {A B C D E F G H:Prop} (hA:A) (hB:B) (hC:C) (hD:D) (hE:E) (hF:F) (hG:G) (hH:H):Go.RowKit.Hid (A∧B∧C∧D∧E∧F∧G∧H):=⟨hA,hB,hC,hD,hE,hF,hG,hH⟩
theorem jn9 {A B C D E F G H I:Prop} (hA:A) (hB:B) (hC:C) (hD:D) (hE:E) (hF:F) (hG:G) (hH:H) (hI:I):A∧B∧C∧D∧E∧F∧G∧H∧I:=⟨hA,hB,hC,hD,hE,hF,hG,hH,hI⟩
theorem jh9 {A B C D E F G H I:Prop} (hA:A) (hB:B) (hC:C) (hD:D) (hE:E) (hF:F) (hG:G) (hH:H) (hI:I):Go.RowKit.Hid (A∧B∧C∧D∧E∧F∧G∧H∧I):=⟨hA,hB,hC,hD,hE,hF,hG,hH,hI⟩
theorem jn10 {A B C D E F G H I J:Prop} (hA:A) (hB:B) (hC:C) (hD:D) (hE:E) (hF:F) (hG:G) (hH:H) (hI:I) (hJ:J):A∧B∧C∧D∧E∧F∧G∧H∧I∧J:=⟨hA,hB,hC,hD,hE,hF,hG,hH,hI,hJ⟩
theorem jh10 {A B C D E F G H I J:Prop} (hA:A) (hB:B) (hC:C) (hD:D) (hE:E) (hF:F) (hG:G) (hH:H) (hI:I) (hJ:J):Go.RowKit.Hid (A∧B∧C∧D∧E∧F∧G∧H∧I∧J):=⟨hA,hB,hC,hD,hE,hF,hG,hH,hI,hJ⟩
theorem jn11 {A B C D E F G H I J K:Prop} (hA:A) (hB:B) (hC:C) (hD:D) (hE:E) (hF:F) (hG:G) (hH:H) (hI:I) (hJ:J) (hK:K):A∧B∧C∧D∧E∧F∧G∧H∧I∧J∧K:=⟨hA,hB,hC,hD,hE,hF,hG,hH,hI,hJ,hK⟩
theorem jh11 {A B C D E F G H I J K:Prop} (hA:A) (hB:B) (hC:C) (hD:D) (hE:E) (hF:F) (hG:G) (hH:H) (hI:I) (hJ:J) (hK:K):Go.RowKit.Hid (A∧B∧C∧D∧E∧F∧G∧H∧I∧J∧K):=⟨hA,hB,hC,hD,hE,hF,hG,hH,hI,hJ,hK⟩
theorem jn12 {A B C D E F G H I J K L:Prop} (hA:A) (hB:B) (hC:C) (hD:D) (hE:E) (hF:F) (hG:G) (hH:H) (hI:I) (hJ:J) (hK:K) (hL:L):A∧B∧C∧D∧E∧F∧G∧H∧I∧J∧K∧L:=⟨hA,hB,hC,hD,hE,hF,hG,hH,hI,hJ,hK,hL⟩
theorem jh12 {A B C D E F G H I J K L:Prop} (hA:A) (hB:B) (hC:C) (hD:D) (hE:E) (hF:F) (hG:G) (hH:H) (hI:I) (hJ:J) (hK:K) (hL:L):Go.RowKit.Hid (A∧B∧C∧D∧E∧F∧G∧H∧I∧J∧K∧L):=⟨hA,hB,hC,hD,hE,hF,hG,hH,hI,hJ,hK,hL⟩
theorem jn13 {A B C D E F G H I J K L M:Prop} (hA:A) (hB:B) (hC:C) (hD:D) (hE:E) (hF:F) (hG:G) (hH:H) (hI:I) (hJ:J) (hK:K) (hL:L) (hM:M):A∧B∧C∧D∧E∧F∧G∧H∧I∧J∧K∧L∧M:=⟨hA,hB,hC,hD,hE,hF,hG,hH,hI,hJ,hK,hL,hM⟩
theorem jh13 {A B C D E F G H I J K L M:Prop} (hA:A) (hB:B) (hC:C) (hD:D) (hE:E) (hF:F) (hG:G) (hH:H) (hI:I) (hJ:J) (hK:K) (hL:L) (hM:M):Go.RowKit.Hid (A∧B∧C∧D∧E∧F∧G∧H∧I∧J∧K∧L∧M):=⟨hA,hB,hC,hD,hE,hF,hG,hH,hI,hJ,hK,hL,hM⟩
theorem jn14 {A B C D E F G H I J K L M N:Prop} (hA:A) (hB:B) (hC:C) (hD:D) (hE:E) (hF:F) (hG:G) (hH:H) (hI:I) (hJ:J) (hK:K) (hL:L) (hM:M) (hN:N):A∧B∧C∧D∧E∧F∧G∧H∧I∧J∧K∧L∧M∧N:=⟨hA,hB,hC,hD,hE,hF,hG,hH,hI,hJ,hK,hL,hM,hN⟩
theorem jh14 {A B C D E F G H I J K L M N:Prop} (hA:A) (hB:B) (hC:C) (hD:D) (hE:E) (hF:F) (hG:G) (hH:H) (hI:I) (hJ:J) (hK:K) (hL:L) (hM:M) (hN:N):Go.RowKit.Hid (A∧B∧C∧D∧E∧F∧G∧H∧I∧J∧K∧L∧M∧N):=⟨hA,hB,hC,hD,hE,hF,hG,hH,hI,hJ,hK,hL,hM,hN⟩
theorem jn15 {A B C D E F G H I J K L M N O:Prop} (hA:A) (hB:B) (hC:C) (hD:D) (hE:E) (hF:F) (hG:G) (hH:H) (hI:I) (hJ:J) (hK:K) (hL:L) (hM:M) (hN:N) (hO:O):A∧B∧C∧D∧E∧F∧G∧H∧I∧J∧K∧L∧M∧N∧O:=⟨hA,hB,hC,hD,hE,hF,hG,hH,hI,hJ,hK,hL,hM,hN,hO⟩
theorem jh15 {A B C D E F G H I J K L M N O:Prop} (hA:A) (hB:B) (hC:C) (hD:D) (hE:E) (hF:F) (hG:G) (hH:H) (hI:I) (hJ:J) (hK:K) (hL:L) (hM:M) (hN:N) (hO:O):Go.RowKit.Hid (A∧B∧C∧D∧E∧F∧G∧H∧I∧J∧K∧L∧M∧N∧O):=⟨hA,hB,hC,hD,hE,hF,hG,hH,hI,hJ,hK,hL,hM,hN,hO⟩
theorem jn16 {A B C D E F G H I J K L M N O Q:Prop} (hA:A) (hB:B) (hC:C) (hD:D) (hE:E) (hF:F) (hG:G) (hH:H) (hI:I) (hJ:J) (hK:K) (hL:L) (hM:M) (hN:N) (hO:O) (hQ:Q):A∧B∧C∧D∧E∧F∧G∧H∧I∧J∧K∧L∧M∧N∧O∧Q:=⟨hA,hB,hC,hD,hE,hF,hG,hH,hI,hJ,hK,hL,hM,hN,hO,hQ⟩
theorem jh16 {A B C D E F G H I J K L M N O Q:Prop} (hA:A) (hB:B) (hC:C) (hD:D) (hE:E) (hF:F) (hG:G) (hH:H) (hI:I) (hJ:J) (hK:K) (hL:L) (hM:M) (hN:N) (hO:O) (hQ:Q):Go.RowKit.Hid (A∧B∧C∧D∧E∧F∧G∧H∧I∧J∧K∧L∧M∧N∧O∧Q):=⟨hA,hB,hC,hD,hE,hF,hG,hH,hI,hJ,hK,hL,hM,hN,hO,hQ⟩
theorem jn17 {A B C D E F G H I J K L M N O Q R:Prop} (hA:A) (hB:B) (hC:C) (hD:D) (hE:E) (hF:F) (hG:G) (hH:H) (hI:I) (hJ:J) (hK:K) (hL:L) (hM:M) (hN:N) (hO:O) (hQ:Q) (hR:R):A∧B∧C∧D∧E∧F∧G∧H∧I∧J∧K∧L∧M∧N∧O∧Q∧R:=⟨hA,hB,hC,hD,hE,hF,hG,hH,hI,hJ,hK,hL,hM,hN,hO,hQ,hR⟩
theorem jh17 {A B C D E F G H I J K L M N O Q R:Prop} (hA:A) (hB:B) (hC:C) (hD:D) (hE:E) (hF:F) (hG:G) (hH:H) (hI:I) (hJ:J) (hK:K) (hL:L) (hM:M) (hN:N) (hO:O) (hQ:Q) (hR:R):Go.RowKit.Hid (A∧B∧C∧D∧E∧F∧G∧H∧I∧J∧K∧L∧M∧N∧O∧Q∧R):=⟨hA,hB,hC,hD,hE,hF,hG,hH,hI,hJ,hK,hL,hM,hN,hO,hQ,hR⟩
theorem jn18 {A B C D E F G H I J K L M N O Q R S:Prop} (hA:A) (hB:B) (hC:C) (hD:D) (hE:E) (hF:F) (hG:G) (hH:H) (hI:I) (hJ:J) (hK:K) (hL:L) (hM:M) (hN:N) (hO:O) (hQ:Q) (hR:R) (hS:S):A∧B∧C∧D∧E∧F∧G∧H∧I∧J∧K∧L∧M∧N∧O∧Q∧R∧S:=⟨hA,hB,hC,hD,hE,hF,hG,hH,hI,hJ,hK,hL,hM,hN,hO,hQ,hR,hS⟩
theorem jh18 {A B C D E F G H I J K L M N O Q R S:Prop} (hA:A) (hB:B) (hC:C) (hD:D) (hE:E) (hF:F) (hG:G) (hH:H) (hI:I) (hJ:J) (hK:K) (hL:L) (hM:M) (hN:N) (hO:O) (hQ:Q) (hR:R) (hS:S):Go.RowKit.Hid (A∧B∧C∧D∧E∧F∧G∧H∧I∧J∧K∧L∧M∧N∧O∧Q∧R∧S):=⟨hA,hB,hC,hD,hE,hF,hG,hH,hI,hJ,hK,hL,hM,hN,hO,hQ,hR,hS⟩
theorem jn19 {A B C D E F G H I J K L M N O Q R S T:Prop} (hA:A) (hB:B) (hC:C) (hD:D) (hE:E) (hF:F) (hG:G) (hH:H) (hI:I) (hJ:J) (hK:K) (hL:L) (hM:M) (hN:N) (hO:O) (hQ:Q) (hR:R) (hS:S) (hT:T):A∧B∧C∧D∧E∧F∧G∧H∧I∧J∧K∧L∧M∧N∧O∧Q∧R∧S∧T:=⟨hA,hB,hC,hD,hE,hF,hG,hH,hI,hJ,hK,hL,hM,hN,hO,hQ,hR,hS,hT⟩
theorem jh19 {A B C D E F G H I J K L M N O Q R S T:Prop} (hA:A) (hB:B) (hC:C) (hD:D) (hE:E) (hF:F) (hG:G) (hH:H) (hI:I) (hJ:J) (hK:K) (hL:L) (hM:M) (hN:N) (hO:O) (hQ:Q) (hR:R) (hS:S) (hT:T):Go.RowKit.Hid (A∧B∧C∧D∧E∧F∧G∧H∧I∧J∧K∧L∧M∧N∧O∧Q∧R∧S∧T):=⟨hA,hB,hC,hD,hE,hF,hG,hH,hI,hJ,hK,hL,hM,hN,hO,hQ,hR,hS,hT⟩
theorem jn20 {A B C D E F G H I J K L M N O Q R S T U:Prop} (hA:A) (hB:B) (hC:C) (hD:D) (hE:E) (hF:F) (hG:G) (hH:H) (hI:I) (hJ:J) (hK:K) (hL:L) (hM:M) (hN:N) (hO:O) (hQ:Q) (hR:R) (hS:S) (hT:T) (hU:U):A∧B∧C∧D∧E∧F∧G∧H∧I∧J∧K∧L∧M∧N∧O∧Q∧R∧S∧T∧U:=⟨hA,hB,hC,hD,hE,hF,hG,hH,hI,hJ,hK,hL,hM,hN,hO,hQ,hR,hS,hT,hU⟩
theorem jh20 {A B C D E F G H I J K L M N O Q R S T U:Prop} (hA:A) (hB:B) (hC:C) (hD:D) (hE:E) (hF:F) (hG:G) (hH:H) (hI:I) (hJ:J) (hK:K) (hL:L) (hM:M) (hN:N) (hO:O) (hQ:Q) (hR:R) (hS:S) (hT:T) (hU:U):Go.RowKit.Hid (A∧B∧C∧D∧E∧F∧G∧H∧I∧J∧K∧L∧M∧N∧O∧Q∧R∧S∧T∧U):=⟨hA,hB,hC,hD,hE,hF,hG,hH,hI,hJ,hK,hL,hM,hN,hO,hQ,hR,hS,hT,hU⟩
end Go.Proofs.YtgcobbapaaihiaaGreat
