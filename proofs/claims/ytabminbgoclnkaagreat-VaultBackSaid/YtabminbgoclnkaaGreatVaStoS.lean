/- A store in memory; is, Made, New, Get, Len, Mark: no condition. -/
import Derived.Test.YtabminbgoclnkaaGreatVa3
import Derived.Test.YtabminbgoclnkaaGreatVaStoR
import Derived.Test.YtabminbgoclnkaaGreatVaMapS
namespace Go.Proofs.YtabminbgoclnkaaGreat
open Go.RowKit

def tE (k:Txt):List Value:=[.string (bs k)]
def wasE (r:WasP):List Value:=[.string (bs r.1),.string (bs r.2.1),.bool r.2.2]
def pairE (p:Txt × Txt):List Value:=[.string (bs p.1),.string (bs p.2)]
def vE (v:Value):List Value:=[v]
theorem e0A (k:Txt):(tE k).length=1:=rfl
theorem b0u (k:WasP):(wasE k).length=3:=rfl
theorem a0t (k:Txt × Txt):(pairE k).length=2:=rfl
theorem h0O (v:Value):(vE v).length=1:=rfl

structure RowsZ (w:World) (zs:List (Value × List Txt)):Prop where
 rows:∀ z∈zs,LO w 9 tE 1 z.1 z.2
 nodup:(zs.filterMap (·.1.ownBlock)).Nodup
structure Bk (w:World) (g bm:Nat) (vb vp:Value) (zs:List (Value × List Txt)):Prop where
 head:w.heap[g]? = some (.cells #[.bool true,.map (some bm),vb,vp] 67 (0,0))
 blocks:LO w 150 vE 1 vb (zs.map (·.1))
 rows:RowsZ w zs
 ne:∀ z∈zs,z.2≠[]∧z.2.length≤64
structure StAt (w:World) (g:Nat) (s:PS) (bm:Nat) (vb vp:Value) (zs:List (Value × List Txt)):Prop where
 bk:Bk w g bm vb vp zs
 map:MapIs w bm s.t
 past:LO w 131 wasE 3 vp s.past
 up:Up s.t
 flat:(zs.map (·.2)).flatten=keysP s.t
def footB (vb:Value) (zs:List (Value × List Txt)):List Nat:=vb.ownBlock.toList ++ zs.filterMap (·.1.ownBlock)
def foot (g bm:Nat) (vb vp:Value) (zs:List (Value × List Txt)):List Nat:=g :: bm :: (vp.ownBlock.toList ++ footB vb zs)
def St (w:World) (g:Nat) (s:PS) (F:List Nat):Prop:=∃ bm vb vp zs,StAt w g s bm vb vp zs∧F=foot g bm vb vp zs

theorem b0c {zs:List (Value × List Txt)} {z:Value × List Txt} {k:Nat} (h:z∈zs) (hk:z.1.ownBlock=some k):k∈zs.filterMap (·.1.ownBlock):=List.mem_filterMap.2 ⟨z,h,hk⟩
theorem RowsZ.keep {w w':World} {zs:List (Value × List Txt)} (h:RowsZ w zs) {S:Nat→Prop} (hk:Keep S w w') (hS:∀ x∈zs.filterMap (·.1.ownBlock),¬ S x):RowsZ w' zs:=
 ⟨fun z hz=>(h.rows z hz).keep hk fun k e=>hS k (b0c hz e),h.nodup⟩
theorem RowsZ.update {w w':World} {pre post:List (Value × List Txt)} {z z':Value × List Txt} (h:RowsZ w (pre ++ z :: post)) (hk:Keep (fun k=>z.1.ownBlock=some k) w w') (hz:LO w' 9 tE 1 z'.1 z'.2) (hm:MovedO w z.1 z'.1):RowsZ w' (pre ++ z' :: post):=by
 have hn:=h.nodup;rw [List.filterMap_append,List.nodup_append] at hn;obtain ⟨n1,n2,n3⟩:=hn;have hlt:∀ y∈pre ++ z :: post,∀ k,y.1.ownBlock=some k→k < w.heap.size:=fun y hy k e=>(h.rows y hy).lt k e
 have hpre:∀ y∈pre,∀ k,y.1.ownBlock=some k→z.1.ownBlock≠some k:=by
  intro y hy k e e2
  exact n3 k (b0c hy e) k (b0c List.mem_cons_self e2) rfl
 have hpost:∀ y∈post,∀ k,y.1.ownBlock=some k→z.1.ownBlock≠some k:=by
  intro y hy k e e2;rw [List.filterMap_cons,e2] at n2
  exact (List.nodup_cons.1 n2).1 (b0c hy e)
 refine ⟨fun y hy=>?_,?_⟩
 ·rcases List.mem_append.1 hy with hy | hy
  ·exact (h.rows y (List.mem_append_left _ hy)).keep hk (hpre y hy)
  ·rcases List.mem_cons.1 hy with rfl | hy
   ·exact hz
   ·exact (h.rows y (List.mem_append_right _ (List.mem_cons_of_mem _ hy))).keep hk (hpost y hy)
 ·have hz':∀ k,z'.1.ownBlock=some k→k ∉ pre.filterMap (·.1.ownBlock)∧k ∉ post.filterMap (·.1.ownBlock):=by
   intro k e;refine ⟨fun hx=>?_,fun hx=>?_⟩<;>obtain ⟨y,hy,e2⟩:=List.mem_filterMap.1 hx
   ·rcases hm with hm | ⟨g,hg,hg2⟩
    ·exact hpre y hy k e2 (by rw [← hm];exact e)
    ·have:=hlt y (List.mem_append_left _ hy) k e2;rw [e] at hg;cases hg;omega
   ·rcases hm with hm | ⟨g,hg,hg2⟩
    ·exact hpost y hy k e2 (by rw [← hm];exact e)
    ·have:=hlt y (List.mem_append_right _ (List.mem_cons_of_mem _ hy)) k e2;rw [e] at hg;cases hg;omega
  have n2':(post.filterMap (·.1.ownBlock)).Nodup:=by
   rw [List.filterMap_cons] at n2
   split at n2
   ·exact n2
   ·exact (List.nodup_cons.1 n2).2
  have n3':∀ a∈pre.filterMap (·.1.ownBlock),∀ b∈post.filterMap (·.1.ownBlock),a≠b:=fun a ha b hb=>n3 a ha b (by
   rw [List.filterMap_cons]
   split
   ·exact hb
   ·exact List.mem_cons_of_mem _ hb)
  rw [List.filterMap_append,List.nodup_append];refine ⟨n1,?_,fun a ha b hb=>?_⟩
  ·rw [List.filterMap_cons]
   split
   ·exact n2'
   ·rename_i k e
    exact List.nodup_cons.2 ⟨(hz' k e).2,n2'⟩
  ·rw [List.filterMap_cons] at hb
   split at hb
   ·exact n3' a ha b hb
   ·rename_i k e
    rcases List.mem_cons.1 hb with rfl | hb
    ·rintro rfl;exact (hz' _ e).1 ha
    ·exact n3' a ha b hb
theorem RowsZ.insert {w:World} {pre post:List (Value × List Txt)} {z:Value × List Txt} (h:RowsZ w (pre ++ post)) (hz:LO w 9 tE 1 z.1 z.2) (hm:∀ k,z.1.ownBlock=some k→k ∉ (pre ++ post).filterMap (·.1.ownBlock)):RowsZ w (pre ++ z :: post):=by
 have hn:=h.nodup;rw [List.filterMap_append,List.nodup_append] at hn;obtain ⟨n1,n2,n3⟩:=hn;refine ⟨fun y hy=>?_,?_⟩
 ·rcases List.mem_append.1 hy with hy | hy
  ·exact h.rows y (List.mem_append_left _ hy)
  ·rcases List.mem_cons.1 hy with rfl | hy
   ·exact hz
   ·exact h.rows y (List.mem_append_right _ hy)
 ·have hm':∀ k,z.1.ownBlock=some k→k ∉ pre.filterMap (·.1.ownBlock)∧k ∉ post.filterMap (·.1.ownBlock):=fun k e=>by
   have:=hm k e;rw [List.filterMap_append,List.mem_append,not_or] at this
   exact this
  rw [List.filterMap_append,List.nodup_append,List.filterMap_cons]
  split
  ·exact ⟨n1,n2,n3⟩
  ·rename_i k e
   refine ⟨n1,List.nodup_cons.2 ⟨(hm' k e).2,n2⟩,fun a ha b hb=>?_⟩
   rcases List.mem_cons.1 hb with rfl | hb
   ·rintro rfl;exact (hm' _ e).1 ha
   ·exact n3 a ha b hb
theorem RowsZ.remove {w:World} {pre post:List (Value × List Txt)} {z:Value × List Txt} (h:RowsZ w (pre ++ z :: post)):RowsZ w (pre ++ post):=by
 refine ⟨fun y hy=>h.rows y ?_,?_⟩
 ·rcases List.mem_append.1 hy with hy | hy
  ·exact List.mem_append_left _ hy
  ·exact List.mem_append_right _ (List.mem_cons_of_mem _ hy)
 ·refine List.Nodup.sublist ?_ h.nodup
  exact List.Sublist.filterMap _ (List.Sublist.append_left (List.sublist_cons_self _ _) _)
theorem Bk.keep {w w':World} {g bm:Nat} {vb vp:Value} {zs:List (Value × List Txt)} (h:Bk w g bm vb vp zs) {S:Nat→Prop} (hk:Keep S w w') (hg:¬ S g) (hS:∀ x∈footB vb zs,¬ S x):Bk w' g bm vb vp zs where
 head:=hk.at h.head hg
 blocks:=h.blocks.keep hk fun k e=>hS k (by simp [footB,e])
 rows:=h.rows.keep hk fun x hx=>hS x (List.mem_append_right _ hx)
 ne:=h.ne
theorem StAt.keep {w w':World} {g:Nat} {s:PS} {bm:Nat} {vb vp:Value} {zs:List (Value × List Txt)} (h:StAt w g s bm vb vp zs) {S:Nat→Prop} (hk:Keep S w w') (hS:∀ x∈foot g bm vb vp zs,¬ S x):StAt w' g s bm vb vp zs where
 bk:=h.bk.keep hk (hS g (by simp [foot])) fun x hx=>hS x (by simp [foot,hx])
 map:=h.map.keep hk (hS bm (by simp [foot]))
 past:=h.past.keep hk fun k e=>hS k (by simp [foot,e])
 up:=h.up
 flat:=h.flat
theorem St.keep {w w':World} {g:Nat} {s:PS} {F:List Nat} (h:St w g s F) {S:Nat→Prop} (hk:Keep S w w') (hS:∀ x∈F,¬ S x):St w' g s F:=by
 obtain ⟨bm,vb,vp,zs,h,rfl⟩:=h
 exact ⟨bm,vb,vp,zs,h.keep hk hS,rfl⟩
theorem St.later {w w':World} {g:Nat} {s:PS} {F:List Nat} (h:St w g s F) (hb:Below w.heap.size w w'):St w' g s F:=
 h.keep (Keep.of_below (S:=fun _=>False) hb) fun _ _=>id
def stoKind (o:Obj):Bool:=match o with
 | .cells _ e (0,0)=>e == 67 || e == 150 || e == 131 || e == 9
 | .map _ _=>true
 | _=>false
theorem LO.kind {α:Type} {w:World} {e:TypeId} {enc:α→List Value} {sz:Nat} {v:Value} {l:List α} (h:LO w e enc sz v l) {k:Nat} (hk:v.ownBlock=some k):∃ cs,w.heap[k]? = some (.cells cs e (0,0)):=by
 rcases h with ⟨rfl,_⟩ | ⟨g,cap,cur,rfl,hhq,_⟩
 ·cases hk
 ·cases hk;exact ⟨_,hhq⟩
theorem StAt.kind {w:World} {g:Nat} {s:PS} {bm:Nat} {vb vp:Value} {zs:List (Value × List Txt)} (h:StAt w g s bm vb vp zs):∀ x∈foot g bm vb vp zs,∃ o,w.heap[x]? = some o∧stoKind o=true:=by
 intro x hx;simp only [foot,footB,List.mem_cons,List.mem_append,Option.mem_toList] at hx
 rcases hx with rfl | rfl | hx | hx | hx
 ·exact ⟨_,h.bk.head,rfl⟩
 ·obtain ⟨es,c,hb,_⟩:=h.map
  exact ⟨_,hb,rfl⟩
 ·obtain ⟨cs,hc⟩:=h.past.kind hx;exact ⟨_,hc,rfl⟩
 ·obtain ⟨cs,hc⟩:=h.bk.blocks.kind hx;exact ⟨_,hc,rfl⟩
 ·obtain ⟨z,hz,e⟩:=List.mem_filterMap.1 hx;obtain ⟨cs,hc⟩:=(h.bk.rows.rows z hz).kind e
  exact ⟨_,hc,rfl⟩
theorem St.kind {w:World} {g:Nat} {s:PS} {F:List Nat} (h:St w g s F):∀ x∈F,∃ o,w.heap[x]? = some o∧stoKind o=true:=by
 obtain ⟨bm,vb,vp,zs,h,rfl⟩:=h
 exact h.kind
theorem St.lt {w:World} {g:Nat} {s:PS} {F:List Nat} (h:St w g s F):∀ x∈F,x < w.heap.size:=by
 intro x hx;obtain ⟨o,ho,_⟩:=h.kind x hx
 exact a0e ho
theorem St.up {w:World} {g:Nat} {s:PS} {F:List Nat} (h:St w g s F):Up s.t:=by
 obtain ⟨bm,vb,vp,zs,h,rfl⟩:=h
 exact h.up
def StRet (w:World) (g:Nat) (F:List Nat) (s':PS) (v:Value) (e:Ending) (w':World):Prop:=
 e = .returned v∧∃ F',St w' g s' F'∧Keep (·∈F) w w'∧∀ x∈F',x∈F∨w.heap.size≤x

theorem b0J (g:Nat) (w:World) (cs:Array Value) (T:TypeId) (hg:w.heap[g]? = some (.cells cs T (0,0))) (h0:cs[0]? = some (.bool true)):Calls Tryz.prog 102 #[.pointer (some ⟨g,0,none⟩)] w fun e w'=>e = .returned (.bool true)∧w=w':=by
 have c0:w.cell? ⟨g,0,none⟩=some (.bool true):=(Lib.cell_of_heap hg 0).trans h0;clear hg h0
 go_enter Tryz.func102,Tryz.ntmps102
 go_wp2
 go_ret
 exact ⟨rfl,rfl⟩
theorem n0B (w:World):Calls Tryz.prog 102 #[.pointer none] w fun e w'=>e = .returned (.bool false)∧w=w':=by
 go_enter Tryz.func102,Tryz.ntmps102
 go_wp2
 go_ret
 exact ⟨rfl,rfl⟩
theorem m0U (g:Nat) (w:World) (cs:Array Value) (T:TypeId) (hg:w.heap[g]? = some (.cells cs T (0,0))) (h0:cs[0]? = some (.bool false)):Calls Tryz.prog 102 #[.pointer (some ⟨g,0,none⟩)] w fun e w'=>e = .returned (.bool false)∧w=w':=by
 have c0:w.cell? ⟨g,0,none⟩=some (.bool false):=(Lib.cell_of_heap hg 0).trans h0;clear hg h0
 go_enter Tryz.func102,Tryz.ntmps102
 go_wp2
 go_ret
 exact ⟨rfl,rfl⟩
theorem k0F {w:World} {g:Nat} {s:PS} {F:List Nat} (h:St w g s F):Calls Tryz.prog 75 #[.pointer (some ⟨g,0,none⟩)] w fun e w'=>e = .returned (.bool true)∧w=w':=by
 obtain ⟨bm,vb,vp,zs,h,rfl⟩:=h;have H:=Lib.hid h.bk.head;clear h
 go_enter Tryz.func75,Tryz.ntmps75
 go_wp2_with fail;refine (b0J g _ _ _ H.out rfl).mono ?_;rintro e w1 ⟨rfl,rfl⟩;go_wp2_with fail
 go_ret
 exact ⟨rfl,rfl⟩
theorem i0s (w:World):Calls Tryz.prog 7 #[] w fun e w'=>∃ g F,e = .returned (.pointer (some ⟨g,0,none⟩))∧St w' g PS.new F∧Below w.heap.size w w'∧∀ x∈F,w.heap.size≤x:=by
 have hmm:=@run_makeMap Tryz.prog
 go_enter Tryz.func7,Tryz.ntmps7
 go_wp2_with fail
 go_ret
 have hb:Below w.heap.size w (w.alloc (.map #[] 0)):=(Below.refl _ _).alloc (Nat.le_refl _) _;have hb2:Below (w.alloc (.map #[] 0)).heap.size (w.alloc (.map #[] 0)) ((w.alloc (.map #[] 0)).alloc (.cells #[.bool true,.map (some w.heap.size),.slice none 0 0,.slice none 0 0] 67)):=(Below.refl _ _).alloc (Nat.le_refl _) _;refine ⟨_,_,rfl,⟨w.heap.size,.slice none 0 0,.slice none 0 0,[],⟨⟨?_,LO.nil _ _ _ _,⟨fun z hz=>absurd hz (by simp),List.Pairwise.nil⟩,fun z hz=>absurd hz (by simp)⟩,(MapIs.made w).keep (S:=fun _=>False) (Keep.of_below hb2) id,LO.nil _ _ _ _,List.Pairwise.nil,rfl⟩,rfl⟩,hb.trans (hb2.mono (by simp)),?_⟩
 ·have:=heap_alloc_new (w.alloc (.map #[] 0)) (.cells #[.bool true,.map (some w.heap.size),.slice none 0 0,.slice none 0 0] 67);rw [World.size_alloc] at this
  exact this
 ·intro x hx
  simp [foot,footB,Value.ownBlock] at hx
  omega
theorem zeroStr (w:World):(zeroValue 9).run Tryz.prog w = .ok (.string (bs [])) w:=by kernel_rfl
theorem f0O {w:World} {g:Nat} {s:PS} {F:List Nat} (h:St w g s F) (k:Txt):Calls Tryz.prog 94 #[.pointer (some ⟨g,0,none⟩),.string (bs k)] w fun e w'=>e = .returned (.tuple #[.string (bs ((getP s.t k).getD [])),.bool (getP s.t k).isSome])∧w=w':=by
 obtain ⟨bm,vb,vp,zs,h,rfl⟩:=h;have H:=Lib.hid h.bk.head;have HM:=Lib.hid h.map;clear h;have c1:w.cell? ⟨g,1,none⟩=some (.map (some bm)):=Lib.cell_of_heap H.out 1
 go_enter Tryz.func94,Tryz.ntmps94
 go_wp2_with fail;refine (b0J g _ _ _ H.out rfl).mono ?_;rintro e w1 ⟨rfl,rfl⟩
 go_wp2_with (refine a0I rfl 63 _ _ rfl Tryz.underlying63 Tryz.underlying9 zeroStr HM.out k rfl rfl ?_)
 go_ret2
 exact ⟨rfl,rfl⟩
theorem g0P {w:World} {g:Nat} {s:PS} {F:List Nat} (h:St w g s F):Calls Tryz.prog 53 #[.pointer (some ⟨g,0,none⟩)] w fun e w'=>e = .returned (.int .i64 s.past.length)∧w=w':=by
 obtain ⟨bm,vb,vp,zs,h,rfl⟩:=h;obtain ⟨ad,cap,rfl,h1,h2⟩:=h.past.shape;have H:=Lib.hid h.bk.head;clear h;have c3:w.cell? ⟨g,3,none⟩=some (.slice ad s.past.length cap):=Lib.cell_of_heap H.out 3
 go_enter Tryz.func53,Tryz.ntmps53
 go_wp2_with fail;refine (b0J g _ _ _ H.out rfl).mono ?_;rintro e w1 ⟨rfl,rfl⟩;go_wp2_with fail
 go_ret
 exact ⟨rfl,rfl⟩
end Go.Proofs.YtabminbgoclnkaaGreat
