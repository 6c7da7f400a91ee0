/-
The plain law of DirentBytes: what the printed function tells is true, whatever the entry, the bytes and the name.
Conditions: none.
-/
import Derived.Test.YtjlacfhmjjjpiaaDirent2
import Derived.Test.YtjlacfhmjjjpiaaPx11
namespace Go.Proofs.Ytjlacfhmjjjpiaa.Pure
open Go.RowKit Go.Proofs.YtjlacfhmjjjpiaaW.PrintWords Go.Proofs.YtjlacfhmjjjpiaaW.PrintLast Go.Proofs.YtjlacfhmjjjpiaaW.PrintMore Go.Proofs.Ytjlacfhmjjjpiaa.P Go.Proofs.Ytjlacfhmjjjpiaa.Num Go.Proofs.Ytjlacfhmjjjpiaa.Plain Go.Proofs.Ytjlacfhmjjjpiaa.Dirent
theorem DirentBytes : ∀ (a0_0 : Int) (a0_1 : Bool) (a0_2 : ByteArray) (l1 : List Int) (a2 : ByteArray), (Lit.int .i64 a0_0).wf = true → a0_2.size ≤ maxLen → l1.length ≤ maxLen → l1.length * 1 ≤ 140737488351232 → (∀ x ∈ l1, (Lit.int .u8 x).wf = true) → a2.size ≤ 140737488351232 → ∃ k, leveelaw08_DirentBytes.f k a0_0 a0_1 a0_2 l1 a2 = some true := by
  intro a b s l m _ hs _ hl hw hm
  have hb := isBytes_of_wf hw
  have hs2 : s.size ≤ 9223372036854775807 := hs
  refine ⟨s.size + m.size + 1000, ?_⟩
  unfold leveelaw08_DirentBytes.f leveeref01_Lent.f leveeref01_Kept.f
  rw [dPut_eq, Option.bind_some, rPut_eq _ a b s hs2 (by omega), Option.bind_some, if_pos (by omega), Option.bind_some, dGet_eq _ (by omega) l hb, Option.bind_some, rGet_eq _ (by omega) l hb, Option.bind_some, if_pos rfl, if_pos rfl, if_neg (by simp), if_pos rfl]
  unfold dirent_Name.f
  rw [Option.bind_some, refName_eq _ m (by omega) (by omega), Option.bind_some, if_neg (by simp), if_pos ⟨by omega, rfl⟩, Option.bind_some, if_pos rfl]
  by_cases h : rightS a b s = true
  · rw [if_pos h, if_pos rfl]
    show ((dirent_Get.f (s.size + m.size + 1000) (bytesE a b s)).bind fun bt208 => (if (bt208.1 == a && (bt208.2.1 == b && (bt208.2.2.1.toList == s.toList))) = true then (if bt208.2.2.2 = 0 then ((leveelaw08_known.f (s.size + m.size + 1000)).bind fun t213 => (some t213)) else (none)) else (none))) = some true
    rw [dGet_eq _ (by omega) _ (bytesE_bytes a b s), get_put h, Option.bind_some, if_pos (by simp), if_pos rfl, known_eq _ (by omega), Option.bind_some]
  · rw [if_neg h, if_neg (by decide), known_eq _ (by omega), Option.bind_some]
end Go.Proofs.Ytjlacfhmjjjpiaa.Pure
