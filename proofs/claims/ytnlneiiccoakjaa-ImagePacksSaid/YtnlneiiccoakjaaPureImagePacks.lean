/-
The plain law of ImagePacks: a disk is packed as the document packs it, and comes back.
Conditions: none.
-/
import Derived.Test.YtnlneiiccoakjaaHandImgSize
import Derived.Test.YtnlneiiccoakjaaHandImgKnown
import Derived.Test.YtnlneiiccoakjaaImgBack
import Derived.Test.YtnlneiiccoakjaaImgRefUnpack
import Derived.Test.YtnlneiiccoakjaaPx9
namespace Go.Proofs.Ytnlneiiccoakjaa.Pure
open Go.RowKit Go.Proofs.YtnlneiiccoakjaaW.PrintWords Go.Proofs.YtnlneiiccoakjaaW.PrintLast Go.Proofs.YtnlneiiccoakjaaW.PrintMore Go.Proofs.Ytnlneiiccoakjaa.P Go.Proofs.Ytnlneiiccoakjaa.Num Go.Proofs.Ytnlneiiccoakjaa.Plain
theorem kept_true (l : List Int) (h : l.length ≤ 140737488355328) : leveeref01_Kept.f l l = some true := if_pos ⟨h, rfl⟩
theorem flat_all {l : List S41} (h : ∀ y ∈ l, isBytes y.f2) : isBytes (l.map rowBytes).flatten := by
  intro x hx
  rw [List.mem_flatten] at hx
  obtain ⟨r, hr, hx⟩ := hx
  obtain ⟨y, hy, rfl⟩ := List.mem_map.mp hr
  unfold rowBytes at hx
  rcases List.mem_append.mp hx with hx | hx
  · rcases List.mem_append.mp hx with hx | hx
    · rw [List.mem_singleton] at hx
      omega
    · exact putS_bytes _ _ x hx
  · exact h y hy x hx
theorem pack_bytes {b : List Int} (hb : isBytes b) (hd : diskB b = true) : isBytes (packP b).1 := by
  unfold packP
  rw [if_pos hd, rowsP_disk hd]
  intro x hx
  rcases List.mem_append.mp hx with hx | hx
  · unfold packBody packHead at hx
    rcases List.mem_append.mp hx with hx | hx
    · rcases List.mem_append.mp hx with hx | hx
      · simp [markL] at hx; omega
      · exact putS_bytes _ _ x hx
    · exact flat_all (rowsN_f2 hb _) x hx
  · exact putS_bytes _ _ x hx
theorem ImagePacks : leveelaw32_ImagePacks.Pure := by
  intro l0 l1 _ _ hw0 _ _ hw1
  have hb0 := isBytes_of_wf hw0
  have hb1 := isBytes_of_wf hw1
  obtain ⟨K, hK⟩ : ∃ K : Nat, 210000000 ≤ K := ⟨210000000, Nat.le_refl _⟩
  refine ⟨K, ?_⟩
  unfold leveelaw32_ImagePacks.f
  by_cases h0 : (l0.length : Int) > 40000
  · rw [if_pos h0]; rfl
  rw [if_neg h0]
  by_cases h1 : (l1.length : Int) > 40000
  · rw [if_pos h1]; rfl
  rw [if_neg h1]
  have e1 : leveeref01_Lent.f l1 = some l1 := if_pos (by omega)
  have e2 : image_Pack.f l0 = some (packP l0) := if_pos (bytesB_iff.mpr hb0)
  have e3 : leveeref32_Pack.f l0 = some (packP l0) := if_pos (bytesB_iff.mpr hb0)
  have e4 : image_Size.f l0 = some (sizeP l0) := if_pos (bytesB_iff.mpr hb0)
  have e5 : image_Unpack.f l1 = some (unpackP l1) := if_pos ⟨bytesB_iff.mpr hb1, by omega⟩
  have e6 : leveeref32_Unpack.f K l1 = some (unpackP l1) := refUnpack_eq l1 hb1 (by omega) K hK
  rw [e1, Option.bind_some, e2, Option.bind_some, e3, Option.bind_some, e4, Option.bind_some, e5, Option.bind_some, e6, Option.bind_some, kept_true l1 (by omega)]
  by_cases hd : diskB l0 = true
  case neg =>
    have f1 : packP l0 = ([], 1) := by unfold packP; rw [if_neg hd]
    have f2 : sizeP l0 = (0, 1) := by unfold sizeP; rw [if_neg hd]
    rw [f1, f2]
    dsimp only
    rw [if_pos rfl, if_pos rfl, if_pos (show (0 : Int) = (([] : List Int).length : Int) from rfl), if_pos rfl, if_pos rfl, if_pos rfl, Option.bind_some, if_pos rfl, if_neg (by decide)]
    rfl
  have hd' : l0.length ≠ 0 ∧ l0.length % 256 = 0 ∧ l0.length ≤ 1048576 := of_decide_eq_true hd
  have hpl := pack_len hd
  have hfl := flat_bound l0 (l0.length / 256)
  rw [← rowsP_disk hd] at hfl
  have f2 : sizeP l0 = (((packP l0).1.length : Int), 0) := by unfold sizeP sizeN; rw [if_pos hd, hpl]
  have f3 : (packP l0).2 = 0 := by unfold packP; rw [if_pos hd]
  have f4 := unpack_pack hd
  have hpb := pack_bytes hb0 hd
  rw [f2, f3]
  generalize (packP l0).1 = p at hpl f4 hpb ⊢
  have e7 : image_Unpack.f p = some (l0, 0) := by
    unfold image_Unpack.f
    rw [if_pos ⟨bytesB_iff.mpr hpb, by omega⟩, f4]
  have w1 : wrap64 ((l0.length : Int) / 256) = ((l0.length / 256 : Nat) : Int) := by rw [w64 (by omega) (by omega)]; omega
  have w2 : wrap64 (3 * ((l0.length / 256 : Nat) : Int)) = ((3 * (l0.length / 256) : Nat) : Int) := by rw [w64 (by omega) (by omega)]; omega
  have w3 : wrap64 ((l0.length : Int) + ((3 * (l0.length / 256) : Nat) : Int)) = ((l0.length + 3 * (l0.length / 256) : Nat) : Int) := by rw [w64 (by omega) (by omega)]; omega
  have w4 : wrap64 (((l0.length + 3 * (l0.length / 256) : Nat) : Int) + 10) = ((l0.length + 3 * (l0.length / 256) + 10 : Nat) : Int) := by rw [w64 (by omega) (by omega)]; omega
  dsimp only
  rw [if_pos rfl, if_pos rfl, if_pos rfl, if_pos rfl, if_pos rfl, if_pos rfl, Option.bind_some, if_pos rfl, if_pos rfl, e7, Option.bind_some, if_pos rfl, if_pos rfl, w1, w2, w3, w4, if_pos (by omega)]
  rfl
end Go.Proofs.Ytnlneiiccoakjaa.Pure
