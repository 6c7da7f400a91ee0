/-
Package group's plain laws, second part: what the reference's Get tells; what is put is got as it was.
Conditions: none.
-/
import Derived.Test.YtonkgfgciegknaaGroupPlain
import Derived.Test.YtonkgfgciegknaaPx13
namespace Go.Proofs.Ytonkgfgciegknaa.P
open Go.RowKit Go.Proofs.YtonkgfgciegknaaW.PrintWords Go.Proofs.YtonkgfgciegknaaW.PrintLast Go.Proofs.YtonkgfgciegknaaW.PrintMore
attribute [local go_sem] max2_int min2_int max_two min_two max_three min_three max_four min_four
set_option linter.unusedVariables false
set_option linter.unusedSimpArgs false
open Bits (isBytes)
theorem drop_take' (l : List Int) (a b : Nat) : (l.take (a + b)).drop a = (l.drop a).take b := by
  rw [List.drop_take]; congr 1; omega
theorem putL_bytes {no x y : Int} {bl sl : List Int} (h : HM bl sl) : isBytes (putL no x y bl sl) := by
  rw [putL_eq _ _ _ _ _ h.maps]
  have z : ∀ n, isBytes (zeros n) := fun n v hv => by rw [List.eq_of_mem_replicate hv]; exact ⟨by decide, by decide⟩
  have p : ∀ n : Int, isBytes (Num.putS (IntKind.u64.wrap n) 2) := fun n => Num.putS_bytes _ _
  have m : isBytes markG := by
    show ∀ v ∈ markG, 0 ≤ v ∧ v < 256
    decide
  intro v hv
  simp only [hdR, List.mem_append] at hv
  rcases hv with ((((((hv | hv) | hv) | hv) | hv) | hv) | hv) | hv
  · exact m v hv
  · exact p _ v hv
  · exact p _ v hv
  · exact p _ v hv
  · exact z _ v hv
  · exact h.bytes v hv
  · exact h.bytes2 v hv
  · exact z _ v hv
def getR (G I N : Int) (l : List Int) : Int × List Int × List Int × Int :=
  if Geo.R G I N = true then
    if l.length = 256 then (if goodP G I N l = true then (noOf l, gbl l, gsl l, 0) else (0, [], [], 8)) else (0, [], [], 4)
  else (0, [], [], 1)
theorem refGetH_eq (G I N : Int) (l : List Int) (hb : isBytes l) (k : Nat) (hk : 600 < k) : leveeref06_Get.f k G I N l = some (getR G I N l) := by
  unfold leveeref06_Get.f getR
  rw [Geo.refRight_eq, Option.bind_some]
  by_cases hR : Geo.R G I N = true
  · rw [if_pos hR, if_pos hR]
    by_cases hl : l.length = 256
    · have hm := got_HM hl hb
      have hn := noOf_range hl hb
      have lent : ∀ x : List Int, x.length ≤ 256 → leveeref01_Lent.f x = some x := fun x hx => by unfold leveeref01_Lent.f; rw [if_pos (by omega)]
      have e1 : (l.take 32).drop 16 = gbl l := drop_take' l 16 16
      have e2 : (l.take 40).drop 32 = gsl l := drop_take' l 32 8
      rw [if_pos (by omega), if_pos hl, if_pos (by decide), if_pos (by omega), Plain.ref_cut k hb 4 6 (by omega) (by omega) (by omega), Option.bind_some, if_pos (by decide), if_pos (by omega), e1, lent _ (by rw [gbl_length hl]; decide), Option.bind_some,
        if_pos (by decide), if_pos (by omega), e2, lent _ (by rw [gsl_length hl]; decide), Option.bind_some]
      change (leveeref06_Put.f k G I N (wrap64 (noOf l)) (gbl l) (gsl l)).bind _ = _
      rw [wr (by omega) (by omega), refPut_eq G I N _ _ _ hm k (by omega), Option.bind_some]
      unfold putR goodP
      by_cases hr : rightP G I N (noOf l) (gbl l) (gsl l) = true
      · rw [if_pos hr, hr, Bool.true_and, if_pos rfl]
        by_cases hp : l = putL (noOf l) (freeP G I N (noOf l) (gbl l) (gsl l)).1 (freeP G I N (noOf l) (gbl l) (gsl l)).2 (gbl l) (gsl l)
        · rw [if_pos ((Plain.str_inj (putL_bytes hm) hb).mpr hp.symm), if_pos (decide_eq_true hp)]
          change some (wrap64 (noOf l), gbl l, gsl l, (0 : Int)) = _
          rw [wr (by omega) (by omega)]
        · rw [if_neg (fun q => hp ((Plain.str_inj (putL_bytes hm) hb).mp q).symm), decide_eq_false hp, if_neg (by decide)]
      · rw [if_neg hr, Bool.eq_false_iff.mpr hr, Bool.false_and, if_neg (by decide), if_neg (by decide)]
    · rw [if_neg (by omega), if_neg hl]
  · rw [if_neg hR, if_neg hR]
theorem put_got (G I N no : Int) (bl sl : List Int) (h : HM bl sl) (hr : rightP G I N no bl sl = true) :
    getP G I N (putL no (freeP G I N no bl sl).1 (freeP G I N no bl sl).2 bl sl) = (no, bl, sl, 0) := by
  have hs := (rightP_iff h).mp hr
  obtain ⟨hR, hno⟩ : Geo.R G I N = true ∧ (0 ≤ no ∧ no < N) := by have q := hs.1; simp only [okS, Bool.and_eq_true, decide_eq_true_eq] at q; exact ⟨q.1.1, q.1.2, q.2⟩
  have hg := Geo.R_iff.mp hR
  generalize hx : (freeP G I N no bl sl).1 = x
  generalize hy : (freeP G I N no bl sl).2 = y
  have pl : ∀ n : Int, (Num.putS (IntKind.u64.wrap n) 2).length = 2 := fun n => Num.putS_length _ _
  have zl : ∀ a : Nat, (zeros a).length = a := fun a => List.length_replicate
  have hl : (hdR no x y).length = 10 := by unfold hdR; rw [List.length_append, List.length_append, List.length_append, pl, pl, pl]; rfl
  have e := putL_eq no x y bl sl h.maps
  have e1 : gbl (putL no x y bl sl) = bl := by
    rw [gbl, e, List.append_assoc, List.append_assoc, List.drop_left' (by rw [List.length_append, hl, zl]), List.take_left' h.maps.1]
  have e2 : gsl (putL no x y bl sl) = sl := by
    rw [gsl, e, List.append_assoc, List.drop_left' (by rw [List.length_append, List.length_append, hl, zl, h.maps.1]), List.take_left' h.maps.2]
  have e3 : noOf (putL no x y bl sl) = no := by
    rw [noOf, Plain.cutG, drop_take' _ 4 2, e]
    unfold hdR
    simp only [List.append_assoc]
    rw [List.drop_left' (by rfl), List.take_left' (pl no), Num.getS_putS]
    rw [Bits.u64_wrap (by omega) (by omega)]
    omega
  have hlen : (putL no x y bl sl).length = 256 := putL_length h.maps
  unfold getP
  rw [if_pos hR, if_pos hlen]
  unfold goodP
  rw [e1, e2, e3, hr, hx, hy, decide_eq_true rfl]
  rfl
end Go.Proofs.Ytonkgfgciegknaa.P
