/- tallageref07.Build, Same; tallagelaw07.lives. tallagelaw07.lives; tallagelaw07.ProofBuilds: its walk. tallagelaw07.ProofBack: its walk. -/
import Derived.Test.YtmclmccgghnglaaGreatLs18
import Derived.Test.YtmclmccgghnglaaGreatLs19
namespace Go.Proofs.YtmclmccgghnglaaGreat
section
open Go.RowKit
end
section
open Go.RowKit
end
section
open Go.RowKit

theorem fold_back {k : Int} (hk : k = 1 ∨ k = 2) (l : List (List UInt8)) (i : Nat) (hi : i < l.length) : ∀ j, j ≤ depthF l.length → foldAt k (leafK k (tAt l i)) i (proofF k l i) j = hAt (rowN k l j) (i / 2 ^ j)
  | 0, _ => by
    show leafK k (tAt l i) = _
    rw [Nat.pow_zero, Nat.div_one]; exact (rowN_leaf hk l i hi).1.symm
  | j + 1, hj => by
    have ih := fold_back hk l i hi j (by omega)
    have hp := place_lt hi hj
    have hl : (rowN k l (j + 1)).length = 2 ^ (depthF l.length - (j + 1)) := rowN_pow k l (j + 1) hj
    have h2 : hAt (proofF k l i) j = hAt (rowN k l j) (bes (i / 2 ^ j)) := by
      rw [hAt_eq _ j (by rw [proofF_length]; omega)]
      simp [proofF]
    show stepK k (i / 2 ^ j) (foldAt k (leafK k (tAt l i)) i (proofF k l i) j) (hAt (proofF k l i) j) = _
    rw [ih, h2, place_next]
    rw [place_next] at hp
    obtain ⟨q, hq⟩ : ∃ q, q = i / 2 ^ j := ⟨_, rfl⟩
    rw [← hq] at hp ⊢
    rw [rowN_node hk l j (q / 2) hj (by rw [hl]; exact hp)]
    unfold stepK bes
    rcases Nat.mod_two_eq_zero_or_one q with h | h
    · rw [if_pos h, if_neg (by omega), show 2 * (q / 2) = q by omega]
    · rw [if_neg (by omega), if_pos h, show 2 * (q / 2) + 1 = q by omega, show 2 * (q / 2) = q - 1 by omega]
theorem check_back {k : Int} (hk : k = 1 ∨ k = 2) (l : List (List UInt8)) (i : Nat) (hi : i < l.length) (hn : l.length ≤ 1024) : checkF k (rootF k.toNat l) (tAt l i) i (proofF k l i) = 0 := by
  have hd := depthF_10 _ hn
  have hp := place_lt hi (Nat.zero_le _)
  rw [Nat.pow_zero, Nat.div_one, Nat.sub_zero] at hp
  have hf : foldK k (leafK k (tAt l i)) i (proofF k l i) = rootF k.toNat l := by
    unfold foldK
    rw [Int.toNat_natCast, proofF_length, fold_back hk l i hi _ (Nat.le_refl _), rowN_top]
    have := place_lt hi (Nat.le_refl (depthF l.length))
    rw [Nat.sub_self, Nat.pow_zero] at this
    rw [Nat.lt_one_iff.1 this]; rfl
  unfold checkF
  rw [if_pos hk, if_neg (by rw [proofF_length]; omega), if_neg (by
    rw [proofF_length]
    rintro (h | h)
    · omega
    · exact absurd (Int.ofNat_le.1 h) (Nat.not_le.2 hp)), if_pos hf]
end
end Go.Proofs.YtmclmccgghnglaaGreat
