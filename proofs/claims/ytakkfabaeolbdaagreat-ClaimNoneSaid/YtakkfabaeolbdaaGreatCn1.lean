/- Plain facts on bytes and numbers, for keys: no program, no condition. Plain facts on the bytes of an amount: no program, no condition. -/

namespace Go.Proofs.YtakkfabaeolbdaaGreat
section

def be (l:List UInt8):Nat:=l.foldl (fun a c=>a*256+c.toNat) 0
theorem e0D (l:List UInt8) (c:UInt8):be (l ++ [c])=be l*256+c.toNat:=by simp [be]
theorem r0K:be []=0:=rfl
theorem be_lt (l:List UInt8):be l < 256 ^ l.length:=by
 suffices h:∀ (r:List UInt8),be r.reverse < 256 ^ r.length by simpa using h l.reverse
 intro r
 induction r with
 | nil=>simp [be]
 | cons c r ih=>
  rw [List.reverse_cons,e0D,List.length_cons,Nat.pow_succ];have:=c.toNat_lt
  omega

def chunk (l:List UInt8) (k:Nat):List UInt8:=(l.drop (8*k)).take 8
theorem c0U (l:List UInt8) (k:Nat) (h:8*k+8≤l.length):(chunk l k).length=8:=by simp [chunk];omega
def part (l:List UInt8) (k j:Nat):Nat:=be ((l.drop (8*k)).take j)
theorem f0E (l:List UInt8) (k:Nat):part l k 0=0:=by simp [part,be]
theorem n0M (l:List UInt8) (k:Nat):part l k 8=be (chunk l k):=rfl
theorem j0A (l:List UInt8) (k j:Nat) (h:8*k+j < l.length):part l k (j+1)=part l k j*256+(l[8*k+j]'h).toNat:=by
 unfold part
 have h2:j < (l.drop (8*k)).length:=by simp;omega
 rw [List.take_succ_eq_append_getElem h2,e0D]
 simp
theorem k0H (l:List UInt8) (k j:Nat) (_h:j≤8):part l k j < 256 ^ j:=by
 have h1:=be_lt ((l.drop (8*k)).take j);have h2:((l.drop (8*k)).take j).length≤j:=by simp;omega
 exact Nat.lt_of_lt_of_le h1 (Nat.pow_le_pow_right (by omega) h2)
theorem i0g (l:List UInt8) (k j:Nat) (h:j < 8):part l k j < 72057594037927936:=by
 have h1:=k0H l k j (by omega);have h2:256 ^ j≤256 ^ 7:=Nat.pow_le_pow_right (by omega) (by omega);have h3:256 ^ 7=72057594037927936:=by decide
 omega
theorem l0f (l:List UInt8) (k j:Nat) (h:j≤8):part l k j < 18446744073709551616:=by
 have h1:=k0H l k j h;have h2:256 ^ j≤256 ^ 8:=Nat.pow_le_pow_right (by omega) h;have h3:256 ^ 8=18446744073709551616:=by decide
 omega

def numsTo (l:List UInt8):Nat→Option (List Int)
 | 0=>some []
 | k+1=>match numsTo l k with
  | none=>none
  | some xs=>if be (chunk l k) < 9223372036854775808 then some (xs ++ [(be (chunk l k):Int)]) else none
def numsF (l:List UInt8):Option (List Int):=if l.length % 8=0 then numsTo l (l.length / 8) else none

theorem g0X {l:List UInt8} {k:Nat} {xs:List Int} (h:numsTo l k=some xs) (hx:part l k 8 < 9223372036854775808):numsTo l (k+1)=some (xs ++ [(part l k 8:Int)]):=by
 rw [numsTo,h];simp only [];rw [n0M] at hx ⊢;rw [if_pos hx]
theorem n0p {l:List UInt8} {k:Nat} (hx:¬ part l k 8 < 9223372036854775808):numsTo l (k+1)=none:=by
 rw [numsTo];rw [n0M] at hx
 split<;>simp [hx]
theorem f0Z {l:List UInt8} {k:Nat} (h:numsTo l k=none):∀ m,numsTo l (k+m)=none
 | 0=>h
 | m+1=>by rw [← Nat.add_assoc,numsTo,f0Z h m]
theorem j0F {l:List UInt8} (h:¬ l.length % 8=0):numsF l=none:=by simp [numsF,h]
theorem k0U {l:List UInt8} {k:Nat} (h8:l.length % 8=0) (hk:8*k < l.length) (hx:¬ part l k 8 < 9223372036854775808):numsF l=none:=by
 rw [numsF,if_pos h8];have:=f0Z (n0p hx) (l.length / 8 - (k+1))
 rwa [show k+1+(l.length / 8 - (k+1))=l.length / 8 by omega] at this
theorem f0G {l:List UInt8} {k:Nat} {xs:List Int} (h8:l.length % 8=0) (hk:8*k=l.length) (h:numsTo l k=some xs):numsF l=some xs:=by
 rw [numsF,if_pos h8,show l.length / 8=k by omega,h]
end
section

def mch (n c:Nat):Nat:=min 8 (n - 8*c)
def pw (l:List UInt8) (n j:Nat):Nat:=part l (3 - j) (mch n (3 - j))*256 ^ (8 - mch n (3 - j))
def wd (l:List UInt8) (j:Nat):Nat:=be (chunk l (3 - j))
theorem s0p (l:List UInt8) (j:Nat):pw l 0 j=0:=by simp [pw,mch,f0E]
theorem r0N (l:List UInt8) (j:Nat) (hj:j < 4):pw l 32 j=wd l j:=by
 have:mch 32 (3 - j)=8:=by unfold mch;omega
 rw [pw,this,n0M,wd];simp
theorem p0U (l:List UInt8) (c m j:Nat) (hm:m < 8) (hj:¬ 3 - j=c):pw l (8*c+m+1) j=pw l (8*c+m) j:=by
 have:mch (8*c+m+1) (3 - j)=mch (8*c+m) (3 - j):=by unfold mch;omega
 rw [pw,this,pw]
theorem pw_at (l:List UInt8) (c m j:Nat) (hm:m≤8) (hj:3 - j=c):pw l (8*c+m) j=part l c m*256 ^ (8 - m):=by
 have:mch (8*c+m) (3 - j)=m:=by unfold mch;omega
 rw [pw,this,hj]
theorem s0w (l:List UInt8) (c m j:Nat) (hm:m < 8) (hj:3 - j=c) (h:8*c+m < l.length):pw l (8*c+m+1) j=pw l (8*c+m) j+(l[8*c+m]'h).toNat*256 ^ (7 - m):=by
 rw [Nat.add_assoc,pw_at l c (m+1) j (by omega) hj,pw_at l c m j (by omega) hj,j0A l c m h];rw [show 8 - (m+1)=7 - m by omega,show 8 - m=7 - m+1 by omega,Nat.pow_succ,Nat.add_mul,Nat.mul_assoc,Nat.mul_comm 256]
theorem i0j (l:List UInt8) (n c j:Nat) (h1:8*c≤n) (h2:n < 8*c+8) (hj:3 - j=c) (h:n < l.length):pw l (n+1) j=pw l n j+(l[n]'h).toNat*256 ^ (7+8*c - n):=by
 obtain ⟨m,rfl⟩:∃ m,n=8*c+m:=⟨n - 8*c,by omega⟩;rw [s0w l c m j (by omega) hj h,show 7+8*c - (8*c+m)=7 - m by omega]
theorem b0C (l:List UInt8) (n c j:Nat) (h1:8*c≤n) (h2:n < 8*c+8) (hj:¬ 3 - j=c):pw l (n+1) j=pw l n j:=by
 obtain ⟨m,rfl⟩:∃ m,n=8*c+m:=⟨n - 8*c,by omega⟩
 exact p0U l c m j (by omega) hj
theorem l0t (l:List UInt8) (n c j:Nat) (h1:8*c≤n) (h2:n < 8*c+8) (hj:3 - j=c):pw l n j % 256 ^ (8+8*c - n)=0:=by
 obtain ⟨m,rfl⟩:∃ m,n=8*c+m:=⟨n - 8*c,by omega⟩;rw [pw_at l c m j (by omega) hj,show 8+8*c - (8*c+m)=8 - m by omega]
 exact Nat.mul_mod_left _ _
theorem pw_lt (l:List UInt8) (n j:Nat):pw l n j < 18446744073709551616:=by
 have h1:=k0H l (3 - j) (mch n (3 - j)) (by unfold mch;omega);have h2:mch n (3 - j)≤8:=by unfold mch;omega
 have h3:256 ^ mch n (3 - j)*256 ^ (8 - mch n (3 - j))=18446744073709551616:=by
  rw [← Nat.pow_add,show mch n (3 - j)+(8 - mch n (3 - j))=8 by omega]
 rw [pw,← h3]
 exact Nat.mul_lt_mul_of_pos_right h1 (Nat.pow_pos (by omega))
theorem wd_lt (l:List UInt8) (j:Nat) (hj:j < 4):wd l j < 18446744073709551616:=by rw [← r0N l j hj];exact pw_lt _ _ _
end
end Go.Proofs.YtakkfabaeolbdaaGreat
