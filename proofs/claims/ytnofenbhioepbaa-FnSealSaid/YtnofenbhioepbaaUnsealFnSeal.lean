/- Plain: what Unseal answers, and what Seal seals, by the reference. -/
import Derived.Test.YtnofenbhioepbaaSealFnSeal
namespace Go.Proofs.Ytnofenbhioepbaa.QFnSeal
open Go Go.RowKit Go.Proofs.Ytnofenbhioepbaa.Bytes Go.Proofs.YtnofenbhioepbaaW.PrintWords

/-- What Unseal answers. -/
def unsealS (a : ByteArray) : ByteArray × Int × Int :=
  if (a.size : Int) > 20000 then ((⟨#[]⟩ : ByteArray), 0, 2) else if (a.size : Int) < 4 then ((⟨#[]⟩ : ByteArray), 0, 4) else
  if (four (crcV 0 (a.extract 0 (a.size - 4)))).toList = a.toList.drop (a.size - 4) then (a.extract 0 (a.size - 4), 0, 0) else ((⟨#[]⟩ : ByteArray), 0, 5)
theorem cut4 {a : ByteArray} (h1 : ¬ (a.size : Int) > 20000) (h2 : ¬ (a.size : Int) < 4) : wrap64 ((a.size : Int) - 4) = ((a.size - 4 : Nat) : Int) := by unfold wrap64; omega
theorem impl_unseal (a : ByteArray) {k : Nat} (hk : 10 * a.size + 2 ≤ k) : impl_Unseal.f k a = some (unsealS a) := by
  unfold impl_Unseal.f unsealS
  rw [long_one a (by omega), Option.bind_some]
  by_cases h : (a.size : Int) > 20000
  · rw [if_pos (decide_eq_true h), if_pos h]
  · rw [if_neg (by simp only [decide_eq_true_eq]; exact h), if_neg h]
    by_cases h2 : (a.size : Int) < 4
    · rw [if_pos h2, if_pos h2]
    · rw [if_neg h2, if_neg h2, cut4 h h2, if_pos (by omega), if_pos (by omega)]
      have e0 : (((a.size - 4 : Nat) : Int)).toNat = a.size - 4 := by omega
      have hs := size_front a (a.size - 4) (by omega)
      rw [e0, impl_seal _ (by omega), Option.bind_some]
      have e1 : sealS (a.extract 0 (a.size - 4)) = a.extract 0 (a.size - 4) ++ four (crcV 0 (a.extract 0 (a.size - 4))) := by
        unfold sealS
        rw [if_neg (by omega)]
      have key : ((sealS (a.extract 0 (a.size - 4))).toList = a.toList) ↔ ((four (crcV 0 (a.extract 0 (a.size - 4)))).toList = a.toList.drop (a.size - 4)) := by
        rw [e1, tl_append, tl_front]
        conv => lhs; rhs; rw [← List.take_append_drop (a.size - 4) a.toList]
        exact List.append_right_inj _
      by_cases h3 : (four (crcV 0 (a.extract 0 (a.size - 4)))).toList = a.toList.drop (a.size - 4)
      · rw [if_pos h3, if_pos (key.2 h3)]
      · rw [if_neg h3, if_neg (fun x => h3 (key.1 x))]
end Go.Proofs.Ytnofenbhioepbaa.QFnSeal
