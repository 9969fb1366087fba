/- Lemmas of my own that every walk here uses: no condition. -/
import Derived.Test.YtakkfabaeolbdaaGreatProg
import Derived.WalkKit
import Derived.WalkSpells
import Derived.WalkLawsBesides
import Derived.Handy
import Derived.Lib.Hide
import Derived.Lib.Strings
import Derived.Lib.Builder
import Derived.Laws.CopyOwn
namespace Go.Proofs.YtakkfabaeolbdaaGreat
open Go.RowKit

theorem Tryz.infoU8:(Tryz.prog.info? 5).map (fun i=>(i.zero,i.size,i.bytes))=some (some (.int .u8 0),1,1):=by kernel_rfl
theorem Tryz.infoInt:(Tryz.prog.info? 3).map (fun i=>(i.zero,i.size,i.bytes))=some (some (.int .i64 0),1,8):=by kernel_rfl

theorem g0b {P:Program} (w:World) (e:TypeId) (k:IntKind) (he:P.underlying e=some (.int k)) (i:TypeInfo) (hi:P.info? e=some i) (hs:i.size=1) (xs:Array Value) (j:Nat) (x:Int) (hx:xs[j]? = some (.int k x)) :
  (part e xs j).run P w = .ok (.int k x) w:=by
 simp [part,isAgg,run_underlying he,sizeOf,typeInfo,hi,hs,hx,Sem.run_bind]
 try trace_state
theorem k0I {P:Program} (w:World) (d:Nat) (e:TypeId) (k:IntKind) (he:P.underlying e=some (.int k)) (i:TypeInfo) (hi:P.info? e=some i) (hs:i.size=1)
 (l m:List Int) (hlm:l.length=m.length):∀ (c j:Nat),j+c=l.length →
 Sem.run P
     (forIn (List.range' j c) ((none:Option Bool),()) fun i __s=>do
      let __do_lift ← part e (List.map (Value.int k) l).toArray i
      let __do_lift_1 ← part e (List.map (Value.int k) m).toArray i
      let __do_lift ← Op.equalIn (d+1) e __do_lift __do_lift_1
      if __do_lift=false then pure (ForInStep.done (some false,())) else pure (ForInStep.yield (none,())))
     w = .ok (if l.drop j=m.drop j then (none,()) else (some false,())) w:=by
 intro c
 induction c with
 | zero=>intro j hj;rw [List.drop_of_length_le (by omega),List.drop_of_length_le (by omega)];simp
 | succ c ih=>
  intro j hj;have h1:j < l.length:=by omega
  have h2:j < m.length:=by omega
  rw [List.range'_succ,List.forIn_cons];simp only [Sem.run_bind];rw [g0b w e k he i hi hs _ j l[j] (by simp [h1])];simp only [Result.andThen_ok];rw [g0b w e k he i hi hs _ j m[j] (by simp [h2])];simp only [Result.andThen_ok];rw [run_equalIn_int w d e k k _ _ he];simp only [Result.andThen_ok];have key:(l.drop j=m.drop j)=(l[j]=m[j]∧l.drop (j+1)=m.drop (j+1)):=by
   rw [List.drop_eq_getElem_cons h1,List.drop_eq_getElem_cons h2,List.cons.injEq]
  by_cases hx:l[j]=m[j]
  ·simp only [hx,beq_self_eq_true,Bool.true_eq_false,if_false,Sem.run_pure,Result.andThen_ok];rw [ih (j+1) (by omega)]
   by_cases hd:l.drop (j+1)=m.drop (j+1)
   ·rw [if_pos hd,if_pos (by rw [key];exact ⟨hx,hd⟩)]
   ·rw [if_neg hd,if_neg (by rw [key];exact fun h=>hd h.2)]
  ·have:(l[j] == m[j])=false:=by simpa using hx
   rw [if_neg (c:=l.drop j=m.drop j) (by rw [key];exact fun h=>hx h.1)]
   simp [this]
theorem c0V {P:Program} (w:World) (d:Nat) (t e:TypeId) (k:IntKind) (n:Nat) (ht:P.underlying t=some (.array n e)) (he:P.underlying e=some (.int k)) (i:TypeInfo) (hi:P.info? e=some i) (hs:i.size=1)
 (l m:List Int) (hl:l.length=n) (hm:m.length=n) :
 (Op.equalIn (d+2) t (.agg (l.map (Value.int k)).toArray) (.agg (m.map (Value.int k)).toArray)).run P w = .ok (decide (l=m)) w:=by
 unfold Op.equalIn
 simp only [Sem.run_bind,run_underlying ht,sizeOf,typeInfo,Result.andThen_ok]
 simp
 rw [hi]
 simp [hs]
 rw [k0I w d e k he i hi hs l m (by omega) n 0 (by omega)]
 by_cases h:l=m
 ·simp [h]
 ·simp [h]

def bs (l:List UInt8):ByteArray:=⟨l.toArray⟩
theorem b0e (l:List UInt8):(bs l).size=l.length:=by simp [bs,ByteArray.size]
theorem i0t (l:List UInt8):(bs l).data.toList=l:=rfl
theorem j0t (a b:List UInt8):bs a ++ bs b=bs (a ++ b):=by
 unfold bs;apply ByteArray.ext;simp

theorem g0Q (l:List UInt8) (i j:Nat):(bs l).extract i j=bs ((l.drop i).take (j - i)):=by
 apply ByteArray.ext;simp [bs,ByteArray.data_extract]
theorem bcell {W w1:World} (hb:Below W.heap.size W w1):(∀ b o,b < W.heap.size→w1.cell? ⟨b,o,none⟩=W.cell? ⟨b,o,none⟩)∧(∀ b o,b < W.heap.size→w1.frozen? ⟨b,o,none⟩=W.frozen? ⟨b,o,none⟩):=
 ⟨fun b o h=>hb.cell (p:=⟨b,o,none⟩) h,fun b o h=>hb.frozen (p:=⟨b,o,none⟩) h⟩

def Ret (w:World) (v:Value) (e:Ending) (w':World):Prop:=e = .returned v∧Below w.heap.size w w'

theorem p0D {P:Program} (w:World) (src dst e:TypeId) (hs:P.underlying src=some (.slice e)) (he:P.underlying e=some (.int .u8)) (hd:P.underlying dst=some .string)
  (b off cap:Nat) (n:Nat) (l:List UInt8) (hn:l.length=n) (hc:∀ j,j < n→w.cell? ⟨b,off+j,none⟩=some (.int .u8 ((l.getD j 0).toNat:Int))) :
  (convert src dst (.slice (some ⟨b,off,none⟩) n cap)).run P w = .ok (.string (bs l)) w:=by
 subst hn;refine run_convert_bytes_back w src dst e ⟨b,off,none⟩ cap l hs he hd (fun j hj=>?_);have:(⟨b,off,none⟩:Addr).add j=⟨b,off+j,none⟩:=by unfold Addr.add;split<;>simp_all
 rw [this,hc j hj]
 simp [List.getD,List.getElem?_eq_getElem hj]

def byteV (c:UInt8):Value:=.int .u8 (c.toNat:Int)

theorem k0R {P:Program} (w:World) (src dst e:TypeId) (hs:P.underlying src=some (.slice e)) (he:P.underlying e=some (.int .u8)) (hd:P.underlying dst=some .string)
  (b off cap:Nat) (n:Nat) (l:List UInt8) (hn:l.length=n) (cs:Array Value) (T:TypeId) (fr:Nat × Nat) (hb:w.heap[b]? = some (.cells cs T fr))
  (hc:(cs.toList.drop off).take n=l.map byteV) :
  (convert src dst (.slice (some ⟨b,off,none⟩) n cap)).run P w = .ok (.string (bs l)) w:=by
 refine p0D w src dst e hs he hd b off cap n l hn (fun j hj=>?_);have h1:((cs.toList.drop off).take n)[j]? = (l.map byteV)[j]?:=by rw [hc]
 subst hn
 simp [hj,List.getElem?_drop] at h1
 simp [World.cell?,hb,h1,byteV,List.getElem?_eq_getElem hj]

theorem u8_of (x:Int) (h0:0≤x) (h1:x < 256):((UInt8.ofNat x.toNat).toNat:Int)=x:=by
 have:(UInt8.ofNat x.toNat).toNat=x.toNat % 256:=UInt8.toNat_ofNat'
 omega
theorem byteV_of (x:Int) (h0:0≤x) (h1:x < 256):byteV (UInt8.ofNat x.toNat) = .int .u8 x:=by
 unfold byteV;rw [u8_of x h0 h1]

theorem s0M {P:Program} {ops:Array Oper} {rest:List Oper} {o:Oper} {a:Act} {Q:Exit→Act→World→Prop} {w:World} (hgd:o.guard=none) (s x:Operand) (t:TypeId)
  (ho:o.op = .call { callee:=.builtin .append,args:=#[s,x],argTypes:=#[t,t] })
  {e:TypeId} {z:Value} {bytes:Nat} (ht:P.underlying t=some (.slice e)) (hi:(P.info? e).map (fun i=>(i.zero,i.size,i.bytes))=some (some z,1,bytes)) (hz:z.cells.size=1)
  {B base:Nat} {w0:World} {v:Value} {n:Nat} {xs:List Value} {u:Value} (hown:w.ownsRow base e 1 v n xs) (hs:a.eval s=v)
  (hx:a.eval x = .slice (some ⟨w.heap.size,0,none⟩) 1 1) (hu:u.oneCell'=true) (hlen:n+1≤maxLen) (hbytes:(n+1)*bytes≤140737488355328)
  (hb:Below B w0 w) (hB:B≤base) (hbase:base≤w.heap.size) (hB0:B≤w0.heap.size)
  (h:∀ v' w',w'.ownsRow base e 1 v' (n+1) (xs ++ [u])→Below B w0 w'→w.grownBy w' v.ownBlock→(v' = .slice none 0 0↔False)→wpList P ops Q rest (a.put o.dst v') w') :
  wpList P ops Q (o :: rest) a (w.alloc (.cells #[u] e)):=by
 obtain ⟨i,hi,hz0,hz1,hz2⟩:=info_parts hi;refine wpList_append_own _ hgd s x t ho base e i z 1 bytes ht hi hz0 hz1 hz2 hz (by decide) v n xs hs (hown.alloc _) ⟨w.heap.size,0,none⟩ 1 1 [u] hx rfl ?_ ?_ hlen hbytes (by simp;omega) ?_
 ·intro j c hj
  match j,hj with
  | 0,hj=>simp at hj;subst hj;simp [Addr.add,World.cell?_alloc_at]
 ·intro c hc;simp at hc;subst hc;exact hu
 ·intro v' w' h1 h2 h3;refine h v' w' h1 ?_ ?_ (by simpa using h3)
  ·refine (hb.alloc (Nat.le_trans hb.size (Nat.le_refl _) |> Nat.le_trans hB0) _).grown h2 (by have:=hb.size;simp;omega) ?_;intro k hk;have:=(hown.lt k hk).1
   omega
  ·exact ⟨h2.os,h2.tape,h2.output,Nat.le_trans (by simp) h2.size,fun k hk hne=>(h2.block k (by simp;omega) hne).trans (Below.heap_alloc _ _ _ hk)⟩

theorem s0D (x:Nat) (c:UInt8) (hx:x < 72057594037927936):bits BinOp.or IntKind.u64 ((x:Int)*256) (IntKind.u64.wrap (c.toNat:Int))=((x*256+c.toNat:Nat):Int):=by
 have hc:=c.toNat_lt;have h1:IntKind.u64.wrap (c.toNat:Int)=(c.toNat:Int):=by rw [IntKind.wrap_u64];omega
 have h2:((x:Int)*256)=((x*256:Nat):Int):=by omega
 rw [h1,h2,u64_or_nat _ _ (by omega) (by omega),nat_join 8 _ _ (by omega) (by omega)]
theorem o0p {k:IntKind} {a b:Int} (h:a=b):Value.int k a=Value.int k b:=by rw [h]
theorem boxed1 {w w':World} {cs:Array Value} {T:TypeId} (h:Below (w.alloc (.cells cs T)).heap.size (w.alloc (.cells cs T)) w') :
  Below w.heap.size w w'∧w'.heap[w.heap.size]? = some (.cells cs T (0,0))∧w.heap.size < w'.heap.size:=by
 refine ⟨((Below.refl _ _).alloc (Nat.le_refl _) _).trans (h.mono (by simp)),?_,by have:=h.size;simp at this;omega⟩;rw [h.block _ (by simp)]
 exact heap_alloc_new _ _

def zrow (z:Value) (n:Nat):Array Value:=(List.replicate n z).toArray
theorem o0Z {P:Program} (w:World) (t:TypeId) {e:TypeId} {z:Value} {bytes:Nat} (ht:P.underlying t=some (.slice e)) (hi:(P.info? e).map (fun i=>(i.zero,i.size,i.bytes))=some (some z,1,bytes)) (hz:z.cells=#[z])
  (kl kc:IntKind) (l c:Int) (n m:Nat) (hl:l=(n:Int)) (hc:c=(m:Int)) (hnm:n≤m) (hb:bytes*m≤281474976710656) (hm:m≤9223372036854775807) :
  (Instr.makeSlice t (.int kl l) (.int kc c)).run P w = .ok (.slice (some ⟨w.heap.size,0,none⟩) n m) (w.alloc (.cells (zrow z m) e)):=by
 obtain ⟨i,hi,hz0,hz1,hz2⟩:=info_parts hi;subst hl;subst hc;have hb2:(i.bytes:Int)*(m:Int)≤281474976710656:=by
  rw [hz2,← Int.natCast_mul];omega
 rw [run_make w t e i z ht hi hz0 kl kc n m (by omega) (by omega) hb2 (by omega)];simp only [Int.toNat_natCast,hz1,Nat.mul_one,hz];have:madeCells #[z] m=zrow z m:=by
  apply Array.toList_inj.1;rw [toList_madeCells_one];rfl
 rw [this]

theorem b0m {P:Program} {fn:Func} {p u:Tmp} {ty:TypeId} (h:fn.results=#[.cell p ty,.tmp u]) (tmps:Array Value) (w:World) (g:Nat) (t:TypeId) (cs:Array Value) (fr:Nat × Nat) (d:TypeDesc)
  (hp:tmps.getD p undef = .pointer (some ⟨g,0,none⟩)) (hg:w.heap[g]? = some (.cells cs t fr))
  (hu:P.underlying ty=some d) (hd:(match d with | .struct _ | .array _ _=>true | _=>false)=true) (hi:(P.info? ty).map (·.size)=some cs.size) :
  (results fn tmps).run P w = .ok (.tuple #[.agg cs,tmps.getD u undef]) w:=by
 rw [results_cell_tmp h,hp];have:=run_loadVar_row (P:=P) w g t ty cs fr d hg hu hd hi
 simp [asAddr,this,Result.andThen]


def Own {α:Type} (w:World) (B:Nat) (e:TypeId) (enc:α→List Value) (sz:Nat) (v:Value) (l:List α):Prop:=
 w.ownsRow B e sz v l.length (l.flatMap enc)

def Rd {α:Type} (w:World) (enc:α→List Value) (sz:Nat) (v:Value) (l:List α):Prop:=
 ∃ ad cap,v = .slice ad l.length cap∧l.length≤cap∧cap≤maxLen∧(l≠[]→∃ b off,ad=some ⟨b,off,none⟩∧b < w.heap.size ∧
  ∀ i (hi:i < l.length) j,j < sz→w.cell? ⟨b,off+i*sz+j,none⟩=(enc l[i])[j]?)

theorem Own.nil {α:Type} (w:World) (B:Nat) (e:TypeId) (enc:α→List Value) (sz:Nat):Own w B e enc sz (.slice none 0 0) ([]:List α):=World.ownsRow_nil _ _ _ _

theorem Own.below {α:Type} {w w':World} {B S:Nat} {e:TypeId} {enc:α→List Value} {sz:Nat} {v:Value} {l:List α} (h:Own w B e enc sz v l) (hb:Below S w w') (hS:∀ k,v.ownBlock=some k→k < S):Own w' B e enc sz v l:=by
 refine ⟨h.1,?_⟩
 rcases h.2 with h2 | ⟨g,cap,cur,rfl,hg,hhq,r⟩
 ·exact .inl h2
 ·exact .inr ⟨g,cap,cur,rfl,hg,by rw [hb.block g (hS g rfl)];exact hhq,r⟩

theorem Own.lt {α:Type} {w:World} {B:Nat} {e:TypeId} {enc:α→List Value} {sz:Nat} {v:Value} {l:List α} (h:Own w B e enc sz v l):∀ k,v.ownBlock=some k→B≤k∧k < w.heap.size:=World.ownsRow.lt h

theorem Own.later {α:Type} {w w':World} {B:Nat} {e:TypeId} {enc:α→List Value} {sz:Nat} {v:Value} {l:List α} (h:Own w B e enc sz v l) (hb:Below w.heap.size w w'):Own w' B e enc sz v l:=
 h.below hb fun k hk=>(h.lt k hk).2

theorem Own.alloc {α:Type} {w:World} {B:Nat} {e:TypeId} {enc:α→List Value} {sz:Nat} {v:Value} {l:List α} (h:Own w B e enc sz v l) (o:Obj):Own (w.alloc o) B e enc sz v l:=
 h.later ((Below.refl _ _).alloc (Nat.le_refl _) _)

theorem Own.mono {α:Type} {w:World} {B B':Nat} {e:TypeId} {enc:α→List Value} {sz:Nat} {v:Value} {l:List α} (h:Own w B e enc sz v l) (hB:B'≤B):Own w B' e enc sz v l:=by
 refine ⟨h.1,?_⟩
 rcases h.2 with h2 | ⟨g,cap,cur,rfl,hg,r⟩
 ·exact .inl h2
 ·exact .inr ⟨g,cap,cur,rfl,by omega,r⟩

theorem Rd.later {α:Type} {w w':World} {enc:α→List Value} {sz:Nat} {v:Value} {l:List α} (h:Rd w enc sz v l) (hb:Below w.heap.size w w'):Rd w' enc sz v l:=by
 obtain ⟨ad,cap,rfl,h1,h2,h3⟩:=h;refine ⟨ad,cap,rfl,h1,h2,fun hne=>?_⟩;obtain ⟨b,off,rfl,hb',hc⟩:=h3 hne
 exact ⟨b,off,rfl,Nat.lt_of_lt_of_le hb' hb.size,fun i hi j hj=>(hb.cell (p:=⟨b,_,none⟩) hb').trans (hc i hi j hj)⟩

theorem Rd.alloc {α:Type} {w:World} {enc:α→List Value} {sz:Nat} {v:Value} {l:List α} (h:Rd w enc sz v l) (o:Obj):Rd (w.alloc o) enc sz v l:=
 h.later ((Below.refl _ _).alloc (Nat.le_refl _) _)

theorem Rd.nil {α:Type} (w:World) (enc:α→List Value) (sz:Nat):Rd w enc sz (.slice none 0 0) ([]:List α):=⟨none,0,rfl,Nat.le_refl _,by unfold maxLen;omega,fun h=>absurd rfl h⟩

theorem a0Z {α:Type} (enc:α→List Value) (sz:Nat) (he:∀ x,(enc x).length=sz):∀ (l:List α) (i:Nat) (hi:i < l.length) (j:Nat),j < sz→(l.flatMap enc)[i*sz+j]? = (enc l[i])[j]?
 | x :: l,0,_,j,hj=>by
  rw [List.flatMap_cons,List.getElem?_append_left (by rw [he];omega)];simp
 | x :: l,i+1,hi,j,hj=>by
  rw [List.flatMap_cons,List.getElem?_append_right (by rw [he,Nat.add_mul];omega)];have:=a0Z enc sz he l i (by simpa using hi) j hj;rw [he,show (i+1)*sz+j - sz=i*sz+j from by rw [Nat.add_mul];omega,this]
  simp
 | [],_,hi,_,_=>absurd hi (by simp)

theorem a0R {α:Type} (enc:α→List Value) (sz:Nat) (he:∀ x,(enc x).length=sz) (l:List α):(l.flatMap enc).length=l.length*sz:=by
 induction l with
 | nil=>simp
 | cons x l ih=>rw [List.flatMap_cons,List.length_append,he,ih,List.length_cons,Nat.add_mul];omega

theorem Own.rd {α:Type} {w:World} {B:Nat} {e:TypeId} {enc:α→List Value} {sz:Nat} {v:Value} {l:List α} (h:Own w B e enc sz v l) (he:∀ x,(enc x).length=sz):Rd w enc sz v l:=by
 rcases h.2 with ⟨rfl,h2⟩ | ⟨g,cap,cur,rfl,hg,hhq,h1,h2,h3,h4⟩
 ·have:l = []:=List.eq_nil_of_length_eq_zero h2;subst this;exact Rd.nil _ _ _
 ·refine ⟨_,cap,rfl,h1,h2,fun _=>⟨g,0,rfl,(Array.getElem?_eq_some_iff.1 hhq).1,fun i hi j hj=>?_⟩⟩;have h5:=a0Z enc sz he l i hi j hj;rw [← h4,List.getElem?_take,if_pos (by
   have:i*sz+sz≤l.length*sz:=by rw [← Nat.succ_mul];exact Nat.mul_le_mul_right _ hi
   omega)] at h5
  rw [← h5]
  simp [World.cell?,hhq]

theorem b0x {P:Program} {ops:Array Oper} {rest:List Oper} {o:Oper} {a:Act} {Q:Exit→Act→World→Prop} {w:World} (hgd:o.guard=none) (s x:Operand) (t:TypeId)
  (ho:o.op = .call { callee:=.builtin .append,args:=#[s,x],argTypes:=#[t,t] })
  {e:TypeId} {z:Value} {bytes:Nat} (ht:P.underlying t=some (.slice e)) (hi:(P.info? e).map (fun i=>(i.zero,i.size,i.bytes))=some (some z,1,bytes)) (hz:z.cells.size=1)
  {α:Type} {enc:α→List Value} {B base:Nat} {w0:World} {v:Value} {l:List α} (y:α) {u:Value} (hown:Own w base e enc 1 v l) (hs:a.eval s=v)
  (hx:a.eval x = .slice (some ⟨w.heap.size,0,none⟩) 1 1) (hy:enc y = [u]) (hu:u.oneCell'=true) (hlen:l.length+1≤maxLen) (hbytes:(l.length+1)*bytes≤140737488355328)
  (hb:Below B w0 w) (hB:B≤base) (hbase:base≤w.heap.size) (hB0:B≤w0.heap.size)
  (h:∀ v' w',Own w' base e enc 1 v' (l ++ [y])→Below B w0 w'→w.grownBy w' v.ownBlock→wpList P ops Q rest (a.put o.dst v') w') :
  wpList P ops Q (o :: rest) a (w.alloc (.cells #[u] e)):=
 s0M hgd s x t ho ht hi hz hown hs hx hu hlen hbytes hb hB hbase hB0 fun v' w' h1 h2 h3 _=>h v' w' (by unfold Own;rw [List.length_append,List.flatMap_append];simpa [hy] using h1) h2 h3

def u8E (c:UInt8):List Value:=[byteV c]
def intE (n:Int):List Value:=[.int .i64 n]
theorem Rd.len {α:Type} {w:World} {enc:α→List Value} {sz:Nat} {v:Value} {l:List α} (h:Rd w enc sz v l):l.length≤9223372036854775807:=by
 obtain ⟨ad,cap,rfl,h1,h2,h3⟩:=h
 unfold maxLen at h2;omega

theorem Rd.shape {α:Type} {w:World} {enc:α→List Value} {sz:Nat} {v:Value} {l:List α} (h:Rd w enc sz v l) :
  ∃ ad cap,v = .slice ad l.length cap∧l.length≤cap∧cap≤9223372036854775807:=by
 obtain ⟨ad,cap,rfl,h1,h2,h3⟩:=h
 unfold maxLen at h2
 exact ⟨ad,cap,rfl,h1,h2⟩
theorem Rd.at {α:Type} {w:World} {enc:α→List Value} {ad:Option Addr} {n cap:Nat} {l:List α} (h:Rd w enc 1 (.slice ad n cap) l) (k:Nat) (hk:k < l.length) :
  ∃ b off,ad=some ⟨b,off,none⟩∧b < w.heap.size∧w.cell? ⟨b,off+k,none⟩=(enc l[k])[0]?:=by
 obtain ⟨ad',cap',he,h1,h2,h3⟩:=h
 cases he
 obtain ⟨b,off,rfl,hb,hc⟩:=h3 (by intro hl;subst hl;simp at hk)
 exact ⟨b,off,rfl,hb,by simpa using hc k hk 0 (by omega)⟩
theorem Rd.size {α:Type} {w:World} {enc:α→List Value} {sz:Nat} {ad:Option Addr} {n cap:Nat} {l:List α} (h:Rd w enc sz (.slice ad n cap) l):n=l.length:=by
 obtain ⟨ad',cap',he,h1,h2,h3⟩:=h
 cases he;rfl

theorem c0w {α:Type} (w:World) (enc:α→List Value) (he:∀ x,(enc x).length=1) (e:TypeId) (l:List α) (cs:Array Value) (n:Nat) (hn:n=l.length) (hm:n≤9223372036854775807) (hcs:cs.toList=l.flatMap enc) :
  Rd (w.alloc (.cells cs e)) enc 1 (.slice (some ⟨w.heap.size,0,none⟩) n n) l:=by
 subst hn;refine ⟨_,_,rfl,Nat.le_refl _,by unfold maxLen;omega,fun _=>⟨_,_,rfl,by simp,fun i hi j hj=>?_⟩⟩;have h1:=a0Z enc 1 he l i hi j hj;rw [← h1,← hcs,Lib.cell_of_heap (heap_alloc_new w _)]
 simp

def I64s (l:List Int):Prop:=∀ x∈l,-9223372036854775808≤x∧x < 9223372036854775808

theorem l0B {P:Program} {ops:Array Oper} {rest:List Oper} {o:Oper} {a:Act} {Q:Exit→Act→World→Prop} {w:World} (hgd:o.guard=none) (src dst:TypeId) (x:Operand)
  (ho:o.op = .convert src dst x) {e:TypeId} (hs:P.underlying src=some .string) (hd:P.underlying dst=some (.slice e)) (he:P.underlying e=some (.int .u8)) (s:ByteArray) (hx:a.eval x = .string s) (hlen:s.size≤9223372036854775807)
  (h:∀ ad cap w',Rd w' u8E 1 (.slice ad s.size cap) s.data.toList→Below w.heap.size w w'→s.size≤cap→wpList P ops Q rest (a.put o.dst (.slice ad s.size cap)) w') :
  wpList P ops Q (o :: rest) a w:=by
 refine wpList_plain hgd fun K hK=>?_
 unfold Oper.wp execOp
 simp only [ho,hx,Sem.run_bind,run_bytes_of_string w src dst e s hs hd he,Result.andThen,Sem.run_pure];rw [Oper.upon_value];refine hK _ _ (h _ _ _ ?_ (((Below.refl _ _).drew).alloc (Nat.le_refl _) _) ?_)
 ·have hg:=grownCap_le_maxLen w s.size 0 e (by unfold maxLen;omega);have hg2:=grownCap_ge w s.size 0 e;refine ⟨_,_,rfl,hg2,hg,fun _=>⟨_,_,rfl,?_,fun i hi j hj=>?_⟩⟩
  ·show w.heap.size < (w.heap.push _).size;simp
  ·obtain rfl:j=0:=by omega
   have:=World.cell?_alloc_mark w.drew (bytesRow s (grownCap w s.size 0 e)) e ((bytesRow s (grownCap w s.size 0 e)).size,(bytesRow s (grownCap w s.size 0 e)).size+1) i;have h2:=bytesRow_at s (grownCap w s.size 0 e) i (by simpa using hi);rw [h2] at this
   simpa [u8E,byteV] using this
 ·exact grownCap_ge w s.size 0 e

theorem g0m {P:Program} {w:World} {src dst e:TypeId} (hs:P.underlying src=some (.slice e)) (he:P.underlying e=some (.int .u8)) (hd:P.underlying dst=some .string)
  {v:Value} {l:List UInt8} (h:Rd w u8E 1 v l):(convert src dst v).run P w = .ok (.string (bs l)) w:=by
 obtain ⟨ad,cap,rfl,h1,h2,h3⟩:=h
 by_cases hl:l = []
 ·subst hl
  cases ad with
  | none=>rw [run_convert_bytes_nil w src e hs he _ _ dst hd];rfl
  | some p=>
   rw [run_convert_bytes_string w src dst e _ _ _ hs he hd]
   exact run_bytesToString (P:=P) w p 0 cap [] (by rfl)
 ·obtain ⟨b,off,rfl,hb,hc⟩:=h3 hl;refine p0D w src dst e hs he hd b off cap l.length l rfl fun j hj=>?_
  have:=hc j hj 0 (by omega)
  simpa [u8E,byteV,List.getElem?_eq_getElem hj] using this

end Go.Proofs.YtakkfabaeolbdaaGreat
