/- A store that no call made: its methods. No condition. Stores through several calls: what stays, and what may turn. No condition. -/
import Derived.Test.YtakkfabaeolbdaaGreatCn23
import Derived.Test.YtakkfabaeolbdaaGreatCn24
namespace Go.Proofs.YtakkfabaeolbdaaGreat
section
open Go.RowKit

def NotMade (w:World) (x:Option Addr):Prop:=x=none∨∃ g cs T,x=some ⟨g,0,none⟩∧w.heap[g]? = some (.cells cs T (0,0))∧cs[0]? = some (.bool false)
theorem NotMade.later {w w':World} {x:Option Addr} (h:NotMade w x) (hb:Below w.heap.size w w'):NotMade w' x:=by
 rcases h with h | ⟨g,cs,T,h1,h2,h3⟩
 ·exact .inl h
 ·exact .inr ⟨g,cs,T,h1,(hb.block g (a0b h2)).trans h2,h3⟩
theorem o0U {w:World} {x:Option Addr} (h:NotMade w x):Calls Tryz.prog 79 #[.pointer x] w fun e w'=>e = .returned (.bool false)∧w=w':=by
 rcases h with rfl | ⟨g,cs,T,rfl,h1,h2⟩
 ·exact t0t w
 ·exact s0n g w cs T h1 h2
theorem r0u {w:World} {x:Option Addr} (h:NotMade w x) (k:Txt):Calls Tryz.prog 95 #[.pointer x,.string (bs k)] w fun e w'=>e = .returned (.tuple #[.string (bs []),.bool false])∧w=w':=by
 have H:=hh h;clear h
 go_enter Tryz.func95,Tryz.ntmps95
 go_wp2_with fail;refine (o0U H.out).mono ?_;rintro e w1 ⟨rfl,rfl⟩;go_wp2_with fail
 go_ret2
 exact ⟨rfl,rfl⟩
theorem i0G {w:World} {x:Option Addr} (h:NotMade w x):Calls Tryz.prog 31 #[.pointer x] w fun e w'=>e = .returned (.bool false)∧w=w':=by
 have H:=hh h;clear h
 go_enter Tryz.func31,Tryz.ntmps31
 go_wp2_with fail;refine (o0U H.out).mono ?_;rintro e w1 ⟨rfl,rfl⟩;go_wp2_with fail
 go_ret
 exact ⟨rfl,rfl⟩
theorem m0q {w:World} {x:Option Addr} (h:NotMade w x) (k:Txt):Calls Tryz.prog 71 #[.pointer x,.string (bs k)] w fun e w'=>e = .returned (.slice none 0 0)∧w=w':=by
 have H:=hh h;clear h
 go_enter Tryz.func71,Tryz.ntmps71
 go_wp2_with fail;refine (o0U H.out).mono ?_;rintro e w1 ⟨rfl,rfl⟩;go_wp2_with fail
 go_ret
 exact ⟨rfl,rfl⟩
end
section
open Go.RowKit

def Liv (w0:World) (F0:List Nat) (w:World) (g:Nat) (s:PS):Prop:=∃ F,St w g s F∧Keep (·∈F0) w0 w∧∀ x∈F,x∈F0∨w0.heap.size≤x
def RLiv (w0:World) (F0:List Nat) (w:World) (g:Nat) (s:PS):Prop:=∃ F,RS w g s F∧Keep (·∈F0) w0 w∧∀ x∈F,x∈F0∨w0.heap.size≤x
theorem Liv.start {w:World} {g:Nat} {s:PS} {F:List Nat} (h:St w g s F):Liv w F w g s:=⟨F,h,Keep.refl _ _,fun _ hx=>.inl hx⟩
theorem RLiv.start {w:World} {g:Nat} {s:PS} {F:List Nat} (h:RS w g s F):RLiv w F w g s:=⟨F,h,Keep.refl _ _,fun _ hx=>.inl hx⟩
theorem Liv.later {w0 w w':World} {F0:List Nat} {g:Nat} {s:PS} (h:Liv w0 F0 w g s) (hb:Below w.heap.size w w'):Liv w0 F0 w' g s:=by
 obtain ⟨F,h1,h2,h3⟩:=h
 exact ⟨F,h1.later hb,h2.then_below hb,h3⟩
theorem RLiv.later {w0 w w':World} {F0:List Nat} {g:Nat} {s:PS} (h:RLiv w0 F0 w g s) (hb:Below w.heap.size w w'):RLiv w0 F0 w' g s:=by
 obtain ⟨F,h1,h2,h3⟩:=h
 exact ⟨F,h1.later hb,h2.then_below hb,h3⟩
theorem Liv.keep {w0 w:World} {F0:List Nat} {g:Nat} {s:PS} (h:Liv w0 F0 w g s):Keep (·∈F0) w0 w:=by obtain ⟨F,h1,h2,h3⟩:=h;exact h2
theorem RLiv.keep {w0 w:World} {F0:List Nat} {g:Nat} {s:PS} (h:RLiv w0 F0 w g s):Keep (·∈F0) w0 w:=by obtain ⟨F,h1,h2,h3⟩:=h;exact h2
theorem Liv.up {w0 w:World} {F0:List Nat} {g:Nat} {s:PS} (h:Liv w0 F0 w g s):Up s.t:=by obtain ⟨F,h1,h2,h3⟩:=h;exact h1.up
def Oth (w w':World):Prop:=w.heap.size≤w'.heap.size∧∀ (R:Nat) (o:Obj),w.heap[R]? = some o→stoKind o=false→rstKind o=false→w'.heap[R]? = some o
theorem Oth.of_st {w w':World} {g:Nat} {s:PS} {F:List Nat} (h:St w g s F) (hk:Keep (·∈F) w w'):Oth w w':=by
 refine ⟨hk.size,fun R o ho h1 _=>hk.at ho fun hR=>?_⟩;obtain ⟨o',ho',k1⟩:=h.kind R hR;rw [ho] at ho';cases ho';rw [h1] at k1;cases k1
theorem Oth.of_rs {w w':World} {g:Nat} {s:PS} {F:List Nat} (h:RS w g s F) (hk:Keep (·∈F) w w'):Oth w w':=by
 refine ⟨hk.size,fun R o ho _ h1=>hk.at ho fun hR=>?_⟩;obtain ⟨o',ho',k1⟩:=h.kind R hR;rw [ho] at ho';cases ho';rw [h1] at k1;cases k1
theorem Liv.call {P:Program} {f:FuncId} {args:Array Value} {w0 w:World} {F0:List Nat} {g:Nat} {s s':PS} {v:Value} (L:Liv w0 F0 w g s) (h:∀ F,St w g s F→Calls P f args w (StRet w g F s' v)) :
  Calls P f args w (fun e w'=>e = .returned v∧Liv w0 F0 w' g s'∧Oth w w'):=by
 obtain ⟨F,h1,h2,h3⟩:=L;refine (h F h1).mono ?_;rintro e w' ⟨he,F',q1,q2,q3⟩;refine ⟨he,⟨F',q1,h2.trans (q2.mono fun x _ hx=>h3 x hx),fun x hx=>?_⟩,Oth.of_st h1 q2⟩
 rcases q3 x hx with h | h
 ·exact h3 x h
 ·exact .inr (Nat.le_trans h2.size h)
theorem RLiv.call {P:Program} {f:FuncId} {args:Array Value} {w0 w:World} {F0:List Nat} {g:Nat} {s s':PS} {v:Value} (L:RLiv w0 F0 w g s) (h:∀ F,RS w g s F→Calls P f args w (RRet w g F s' v)) :
  Calls P f args w (fun e w'=>e = .returned v∧RLiv w0 F0 w' g s'∧Oth w w'):=by
 obtain ⟨F,h1,h2,h3⟩:=L;refine (h F h1).mono ?_;rintro e w' ⟨he,F',q1,q2,q3⟩;refine ⟨he,⟨F',q1,h2.trans (q2.mono fun x _ hx=>h3 x hx),fun x hx=>?_⟩,Oth.of_rs h1 q2⟩
 rcases q3 x hx with h | h
 ·exact h3 x h
 ·exact .inr (Nat.le_trans h2.size h)
theorem Liv.ret {w0 w:World} {F0:List Nat} {g:Nat} {s:PS} {v:Value} (h:Liv w0 F0 w g s):StRet w0 g F0 s v (.returned v) w:=⟨rfl,h⟩
theorem RLiv.ret {w0 w:World} {F0:List Nat} {g:Nat} {s:PS} {v:Value} (h:RLiv w0 F0 w g s):RRet w0 g F0 s v (.returned v) w:=⟨rfl,h⟩

def Two (w0 w:World) (g h:Nat) (s1 s2:PS):Prop:=∃ F G,St w g s1 F∧RS w h s2 G∧(∀ x∈F,w0.heap.size≤x)∧(∀ x∈G,w0.heap.size≤x)∧Below w0.heap.size w0 w
theorem Two.below {w0 w:World} {g h:Nat} {s1 s2:PS} (t:Two w0 w g h s1 s2):Below w0.heap.size w0 w:=by
 obtain ⟨F,G,h1,h2,h3,h4,h5⟩:=t;exact h5
theorem Two.later {w0 w w':World} {g h:Nat} {s1 s2:PS} (t:Two w0 w g h s1 s2) (hk:Below w.heap.size w w'):Two w0 w' g h s1 s2:=by
 obtain ⟨F,G,h1,h2,h3,h4,h5⟩:=t
 exact ⟨F,G,h1.later hk,h2.later hk,h3,h4,h5.trans (hk.mono h5.size)⟩
theorem Two.st {P:Program} {f:FuncId} {args:Array Value} {w0 w:World} {g h:Nat} {s1 s2 s':PS} {v:Value} (t:Two w0 w g h s1 s2) (hc:∀ F,St w g s1 F→Calls P f args w (StRet w g F s' v)) :
  Calls P f args w (fun e w'=>e = .returned v∧Two w0 w' g h s' s2∧Oth w w'):=by
 obtain ⟨F,G,h1,h2,h3,h4,h5⟩:=t;refine (hc F h1).mono ?_;rintro e w' ⟨he,F',q1,q2,q3⟩;refine ⟨he,⟨F',G,q1,h2.keep q2 fun x hx hx'=>e0P h1 h2 x hx' hx,fun x hx=>?_,h4,h5.trans (q2.below (B:=w0.heap.size) (fun q hq e=>by have:=h3 q e;omega) h5.size)⟩,Oth.of_st h1 q2⟩
 rcases q3 x hx with h | h
 ·exact h3 x h
 ·exact Nat.le_trans h5.size h
theorem Two.rs {P:Program} {f:FuncId} {args:Array Value} {w0 w:World} {g h:Nat} {s1 s2 s':PS} {v:Value} (t:Two w0 w g h s1 s2) (hc:∀ F,RS w h s2 F→Calls P f args w (RRet w h F s' v)) :
  Calls P f args w (fun e w'=>e = .returned v∧Two w0 w' g h s1 s'∧Oth w w'):=by
 obtain ⟨F,G,h1,h2,h3,h4,h5⟩:=t;refine (hc G h2).mono ?_;rintro e w' ⟨he,G',q1,q2,q3⟩;refine ⟨he,⟨F,G',h1.keep q2 fun x hx hx'=>e0P h1 h2 x hx hx',q1,h3,fun x hx=>?_,h5.trans (q2.below (B:=w0.heap.size) (fun q hq e=>by have:=h4 q e;omega) h5.size)⟩,Oth.of_rs h2 q2⟩
 rcases q3 x hx with h | h
 ·exact h4 x h
 ·exact Nat.le_trans h5.size h
def One (w0 w:World) (g:Nat) (s:PS):Prop:=∃ F,St w g s F∧(∀ x∈F,w0.heap.size≤x)∧Below w0.heap.size w0 w
theorem One.below {w0 w:World} {g:Nat} {s1:PS} (t:One w0 w g s1):Below w0.heap.size w0 w:=by
 obtain ⟨F,h1,h3,h5⟩:=t;exact h5
theorem One.later {w0 w w':World} {g:Nat} {s1:PS} (t:One w0 w g s1) (hk:Below w.heap.size w w'):One w0 w' g s1:=by
 obtain ⟨F,h1,h3,h5⟩:=t
 exact ⟨F,h1.later hk,h3,h5.trans (hk.mono h5.size)⟩
theorem One.st {P:Program} {f:FuncId} {args:Array Value} {w0 w:World} {g:Nat} {s1 s':PS} {v:Value} (t:One w0 w g s1) (hc:∀ F,St w g s1 F→Calls P f args w (StRet w g F s' v)) :
  Calls P f args w (fun e w'=>e = .returned v∧One w0 w' g s'∧Oth w w'):=by
 obtain ⟨F,h1,h3,h5⟩:=t;refine (hc F h1).mono ?_;rintro e w' ⟨he,F',q1,q2,q3⟩;refine ⟨he,⟨F',q1,fun x hx=>?_,h5.trans (q2.below (B:=w0.heap.size) (fun q hq e=>by have:=h3 q e;omega) h5.size)⟩,Oth.of_st h1 q2⟩
 rcases q3 x hx with h | h
 ·exact h3 x h
 ·exact Nat.le_trans h5.size h
theorem One.get {w0 w:World} {g:Nat} {s1:PS} (t:One w0 w g s1):∃ F,St w g s1 F:=by
 obtain ⟨F,h1,h3,h5⟩:=t;exact ⟨F,h1⟩
theorem One.two {w0 w w':World} {g h:Nat} {s1 s2:PS} {G:List Nat} (t:One w0 w g s1) (hb:Below w.heap.size w w') (hr:RS w' h s2 G) (hn:∀ x∈G,w.heap.size≤x):Two w0 w' g h s1 s2:=by
 obtain ⟨F,h1,h3,h5⟩:=t
 exact ⟨F,G,h1.later hb,hr,h3,fun x hx=>Nat.le_trans h5.size (hn x hx),h5.trans (hb.mono h5.size)⟩
theorem Two.one {w0 w:World} {g h:Nat} {s1 s2:PS} (t:Two w0 w g h s1 s2):One w0 w g s1:=by
 obtain ⟨F,G,h1,h2,h3,h4,h5⟩:=t;exact ⟨F,h1,h3,h5⟩

def Look (w:World) (x:Option Addr) (m:Bool) (f:Txt→Option Txt):Prop:=(m=true∧∃ g s F,x=some ⟨g,0,none⟩∧St w g s F∧f=getP s.t)∨(m=false∧NotMade w x∧f=fun _=>none)
theorem Look.of_st {w:World} {g:Nat} {s:PS} {F:List Nat} (h:St w g s F):Look w (some ⟨g,0,none⟩) true (getP s.t):=.inl ⟨rfl,g,s,F,rfl,h,rfl⟩
theorem Look.of_not {w:World} {x:Option Addr} (h:NotMade w x):Look w x false (fun _=>none):=.inr ⟨rfl,h,rfl⟩
theorem Look.later {w w':World} {x:Option Addr} {m:Bool} {f:Txt→Option Txt} (h:Look w x m f) (hb:Below w.heap.size w w'):Look w' x m f:=by
 rcases h with ⟨h0,g,s,F,h1,h2,h3⟩ | ⟨h0,h1,h2⟩
 ·exact .inl ⟨h0,g,s,F,h1,h2.later hb,h3⟩
 ·exact .inr ⟨h0,h1.later hb,h2⟩
theorem h0K {w:World} {x:Option Addr} {m:Bool} {f:Txt→Option Txt} (h:Look w x m f) (k:Txt):Calls Tryz.prog 95 #[.pointer x,.string (bs k)] w fun e w'=>e = .returned (.tuple #[.string (bs ((f k).getD [])),.bool (f k).isSome])∧w=w':=by
 rcases h with ⟨_,g,s,F,rfl,h2,rfl⟩ | ⟨_,h1,rfl⟩
 ·exact h0Q h2 k
 ·exact r0u h1 k

theorem oA {a b:World} {R:Nat} {cs:Array Value} {T:TypeId} (h:Oth a b) (H:Hid (a.heap[R]? = some (.cells cs T (0,0)))) (h1:stoKind (.cells cs T (0,0))=false:=by rfl) (h2:rstKind (.cells cs T (0,0))=false:=by rfl):Hid (b.heap[R]? = some (.cells cs T (0,0))):=hh (h.2 R _ H.out h1 h2)
end
end Go.Proofs.YtakkfabaeolbdaaGreat
