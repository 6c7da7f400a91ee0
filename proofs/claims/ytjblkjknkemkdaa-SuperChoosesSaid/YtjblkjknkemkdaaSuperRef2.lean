/-
Plain laws on superblocks: what the reference's Choose and Next tell.
Conditions: none.
-/
import Derived.Test.YtjblkjknkemkdaaSuperRef
import Derived.Test.YtjblkjknkemkdaaPx12
import Derived.Test.YtjblkjknkemkdaaPx13
namespace Go.Proofs.Ytjblkjknkemkdaa.Super
open Go.RowKit Go.Proofs.YtjblkjknkemkdaaW.PrintWords Go.Proofs.YtjblkjknkemkdaaW.PrintLast Go.Proofs.YtjblkjknkemkdaaW.PrintMore Go.Proofs.Ytjblkjknkemkdaa.P Go.Proofs.Ytjblkjknkemkdaa.Num Go.Proofs.Ytjblkjknkemkdaa.Plain
theorem rd_two0 (l m : List Int) : rd_L1 [l, m] 0 = l := rfl
theorem rd_two1 (l m : List Int) : rd_L1 [l, m] 1 = m := rfl
theorem rstep (k : Nat) (hk : 3000 ≤ k) (x l m : List Int) (i p a2 b0 b1 b2 b3 : Int) (hx : isBytes x) (hi : 0 ≤ i ∧ i < 2) (hr : rd_L1 [l, m] i = x) :
    leveeref04_Choose.l0 (k + 1) a2 [l, m] p i b0 b1 b2 b3 = if goodS (getF x) i a2 b0 = true then leveeref04_Choose.l0 k a2 [l, m] i (i + 1) (getF x).1 (getF x).2.1 (getF x).2.2.1 (getF x).2.2.2.1 else leveeref04_Choose.l0 k a2 [l, m] p (i + 1) b0 b1 b2 b3 := by
  rw [leveeref04_Choose.l0, if_pos hi.2, if_pos hi.1, if_pos (show i < (([l, m] : List (List Int)).length : Int) from hi.2), hr, rGet_eq k hk x hx, Option.bind_some, w64 (by omega) (by omega)]
  generalize getF x = v
  by_cases h1 : v.2.2.2.2 = 0
  · rw [if_pos h1]
    by_cases h2 : Int.tmod v.1 2 = i
    · rw [if_pos h2, Geo.refSize_eq, Option.bind_some]
      by_cases h3 : Geo.sizeS v.2.1 v.2.2.1 v.2.2.2.1 ≤ a2
      · rw [if_pos h3]
        by_cases h4 : b0 < v.1
        · rw [if_pos h4, if_pos (goodS_iff.mpr ⟨h1, h2, h3, h4⟩)]
        · rw [if_neg h4, if_neg (fun h => h4 (goodS_iff.mp h).2.2.2)]
      · rw [if_neg h3, if_neg (fun h => h3 (goodS_iff.mp h).2.2.1)]
    · rw [if_neg h2, if_neg (fun h => h2 (goodS_iff.mp h).2.1)]
  · rw [if_neg h1, if_neg (fun h => h1 (goodS_iff.mp h).1)]
theorem rend (k : Nat) (hk : 1 ≤ k) (l m : List Int) (p a2 b0 b1 b2 b3 : Int) : leveeref04_Choose.l0 k a2 [l, m] p 2 b0 b1 b2 b3 = if p < 0 then some (0, 0, 0, 0, 0, 10) else some (b0, b1, b2, b3, p, 0) := by
  obtain ⟨k, rfl⟩ : ∃ j, k = j + 1 := ⟨k - 1, by omega⟩
  rw [leveeref04_Choose.l0, if_neg (by decide)]
theorem rChoose_eq (k : Nat) (hk : 3010 ≤ k) (l m : List Int) (hl : isBytes l) (hm : isBytes m) (a2 : Int) : leveeref04_Choose.f k l m a2 = some (chooseS (getF l) (getF m) a2) := by
  obtain ⟨k, rfl⟩ : ∃ j, k = j + 2 := ⟨k - 2, by omega⟩
  unfold leveeref04_Choose.f chooseS
  rw [rstep (k + 1) (by omega) l l m 0 (-1) a2 0 0 0 0 hl (by omega) (rd_two0 l m), show (0 : Int) + 1 = 1 from rfl]
  by_cases h1 : goodS (getF l) 0 a2 0 = true
  · rw [if_pos h1, if_pos h1, rstep k (by omega) m l m 1 0 a2 _ _ _ _ hm (by omega) (rd_two1 l m), show (1 : Int) + 1 = 2 from rfl]
    by_cases h2 : goodS (getF m) 1 a2 (getF l).1 = true
    · rw [if_pos h2, if_pos h2, rend k (by omega), if_neg (by decide)]
    · rw [if_neg h2, if_neg h2, rend k (by omega), if_neg (by decide)]
  · rw [if_neg h1, if_neg h1, rstep k (by omega) m l m 1 (-1) a2 _ _ _ _ hm (by omega) (rd_two1 l m), show (1 : Int) + 1 = 2 from rfl]
    by_cases h2 : goodS (getF m) 1 a2 0 = true
    · rw [if_pos h2, if_pos h2, rend k (by omega), if_neg (by decide)]
    · rw [if_neg h2, if_neg h2, rend k (by omega), if_pos (by decide)]
theorem rNext_eq (a b c d e f g : Int) : leveeref04_Next.f a b c d e f g = some (nextS a b c d e f g) := by
  unfold leveeref04_Next.f nextS
  rw [rRight_eq, Option.bind_some]
  by_cases h1 : RS a b c d = true
  · have hs := RS_iff.mp h1
    rw [if_pos h1, w64 (by omega) (by omega), Geo.refRight_eq, Option.bind_some]
    by_cases h3 : Geo.R e f g = true
    · rw [if_pos h3]
      by_cases h2 : a = 4611686018427387904
      · rw [if_pos h2, if_neg (fun h => h.2.1 h2)]
      · rw [if_neg h2, if_pos ⟨h1, h2, h3⟩]
    · rw [if_neg h3, if_neg (fun h => h3 h.2.2)]
  · rw [if_neg h1, if_neg (fun h => h1 h.1)]
end Go.Proofs.Ytjblkjknkemkdaa.Super
