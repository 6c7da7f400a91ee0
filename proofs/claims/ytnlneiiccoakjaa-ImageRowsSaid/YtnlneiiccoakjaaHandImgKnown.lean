/-
leveelaw32.known, walked by hand.
Conditions: none.
-/
import Derived.Test.YtnlneiiccoakjaaHandImgUnpack
import Derived.Test.YtnlneiiccoakjaaHandImgPack
namespace Go.Proofs.Ytnlneiiccoakjaa.P
open Go.RowKit Go.Proofs.YtnlneiiccoakjaaW.PrintWords Go.Proofs.YtnlneiiccoakjaaW.PrintLast Go.Proofs.YtnlneiiccoakjaaW.PrintMore
attribute [local go_sem] max2_int min2_int max_two min_two max_three min_three max_four min_four
set_option linter.unusedVariables false
set_option linter.unusedSimpArgs false
open Go.Proofs.Ytnlneiiccoakjaa.Num Go.Proofs.Ytnlneiiccoakjaa.Plain
def leveelaw32_known.f : Option Bool := some true
def z768 : List Int := List.replicate 768 0
def z512 : List Int := List.replicate 512 0
def k9 : List Int := [76, 73, 77, 71, 3, 0, 0, 3, 0]
def k13 : List Int := k9 ++ putV (Crc.sum k9) 4
theorem k_pack : image_Pack.f z768 = some (k13, 0) := by kernel_rfl
theorem k_unpack : image_Unpack.f k13 = some (z768, 0) := by kernel_rfl
theorem k_rows : image_Rows.f z512 = some ([⟨0, 2, []⟩], 0) := by kernel_rfl
theorem z768_len : z768.length = 768 := List.length_replicate ..
theorem z512_len : z512.length = 512 := List.length_replicate ..
theorem k13_len : k13.length = 13 := by unfold k13; rw [List.length_append, putV_length]; rfl
theorem kn_pack (w : World) (A : Option Addr) (h : (Kd.int .u8).C w A 768 z768) : Calls Try.prog 18 #[.slice A 768 768] w fun e w' => ∃ Ap cp, e = .returned (.tuple #[.slice Ap 13 cp, .int .i64 0]) ∧ 13 ≤ cp ∧ (Kd.int .u8).C w' Ap 13 k13 ∧ Below w.heap.size w w' := by
  have := image_Pack.calls A 768 z768 k13 0 w (by rw [z768_len]; exact h) (by rw [z768_len]; omega) k_pack
  rw [z768_len] at this
  refine this.mono ?_
  rintro e w' ⟨v, rfl, hR, hb⟩
  obtain ⟨Ap, cp, el, hlc, hC⟩ := Kd.R_reads hR
  rw [k13_len] at el hlc hC
  subst el
  exact ⟨Ap, cp, rfl, hlc, hC, hb⟩
theorem kn_unpack (w : World) (A : Option Addr) (c : Nat) (hc : 13 ≤ c) (h : (Kd.int .u8).C w A 13 k13) : Calls Try.prog 20 #[.slice A 13 c] w fun e w' => ∃ Ap cp, e = .returned (.tuple #[.slice Ap 768 cp, .int .i64 0]) ∧ Below w.heap.size w w' := by
  have := image_Unpack.calls A c k13 z768 0 w (by rw [k13_len]; exact h) (by rw [k13_len]; exact hc) k_unpack
  rw [k13_len] at this
  refine this.mono ?_
  rintro e w' ⟨v, rfl, hR, hb⟩
  obtain ⟨Ap, cp, el, hlc, hC⟩ := Kd.R_reads hR
  rw [z768_len] at el
  subst el
  exact ⟨Ap, cp, rfl, hb⟩
theorem kn_rows (w : World) (A : Option Addr) (h : (Kd.int .u8).C w A 512 z512) : Calls Try.prog 9 #[.slice A 512 512] w fun e w' => ∃ (ad : Addr) (c : Nat), e = .returned (.tuple #[.slice (some ad) 1 c, .int .i64 0]) ∧ w'.cell? ad = some (.int .i64 0) ∧ w'.cell? ⟨ad.block, ad.off + 1, none⟩ = some (.int .i64 2) ∧ Below w.heap.size w w' := by
  have := image_Rows.calls A 512 z512 [⟨0, 2, []⟩] 0 w (by rw [z512_len]; exact h) (by rw [z512_len]; omega) k_rows
  rw [z512_len] at this
  refine this.mono ?_
  rintro e w' ⟨v, rfl, hR, hb⟩
  obtain ⟨Ap, cp, el, hlc, hC⟩ := Kd.R_reads hR
  subst el
  obtain ⟨ad, A2, c2, rfl, h0, h1, _⟩ := row_at hC 0 (by decide)
  exact ⟨ad, cp, rfl, h0, h1, hb⟩
theorem kn_str {w : World} {A : Option Addr} (h : (Kd.int .u8).C w A 13 k13) : ∃ st : ByteArray, (∀ c, (convert 22 9 (.slice A 9 c)).run Try.prog w = .ok (.string st) w) ∧ (st.toList == [76, 73, 77, 71, 3, 0, 0, 3, 0]) = true := by
  have q := take_reads (xs := k13) 9 (by rw [k13_len]; exact h) (by rw [k13_len]; omega)
  rw [show (k13.take 9) = k9 from rfl] at q
  exact ⟨strOfNums k9, fun c => Kd.C_string Try.underlying22 Try.underlying5 Try.underlying9 q, by rw [toList_eq]; rfl⟩
set_option maxHeartbeats 16000000 in
set_option maxRecDepth 100000 in
theorem leveelaw32_known.calls (r : Bool) (w : World) (h : leveelaw32_known.f = some r) : Calls Try.prog 7 #[] w fun e w' => e = .returned (.bool r) ∧ Below w.heap.size w w' := by
  obtain rfl := Option.some.inj h
  have HB := Aside0.mk (Below.refl w.heap.size w)
  clear h
  go_enter Try.func7, Try.ntmps7
  go_wp2_with (first
    | ((with_reducible refine gate_dst (N := 8) rfl ?_); go_loud (refine make_zeros ?hg (.const (.int .i64 768)) (.const (.int .i64 768)) ?ho 768 ?hx ?hy (by decide) ?_; (case hg => rfl); (case ho => rfl); (case hx => rfl); (case hy => rfl); intro g hg w_ hk hb; have HZ := Aside0.mk (show (Kd.int .u8).C w_ (some ⟨g, 0, none⟩) 768 z768 from room_reads hk z768_len (by decide)); have zB := below_step HB.out hb; clear HB hg hk hb; have HB := Aside0.mk zB; clear zB))
    | ((with_reducible refine gate_dst (N := 18) rfl ?_); go_loud (refine make_zeros ?hg (.const (.int .i64 512)) (.const (.int .i64 512)) ?ho 512 ?hx ?hy (by decide) ?_; (case hg => rfl); (case ho => rfl); (case hx => rfl); (case hy => rfl); intro g hg w_ hk hb; have HZ := Aside0.mk (show (Kd.int .u8).C w_ (some ⟨g, 0, none⟩) 512 z512 from room_reads hk z512_len (by decide)); have zB := below_step HB.out hb; have zP := Kd.C_below HP.out hb; clear HB HP hg hk hb; have HB := Aside0.mk zB; have HP := Aside0.mk zP; clear zB zP))
    | (go_at_call 18; go_loud ((with_reducible refine (kn_pack _ _ HZ.out).mono ?_); rintro e w_ ⟨Ap, cp, rfl, hcp, hC, hb⟩; have HP := Aside0.mk hC; have HCP := Aside0.mk hcp; have zB := below_step HB.out hb; clear HB HZ hC hcp hb; have HB := Aside0.mk zB; clear zB))
    | (go_at_call 20; go_loud ((with_reducible refine (kn_unpack _ _ _ HCP.out HP.out).mono ?_); rintro e w_ ⟨Au, cu, rfl, hb⟩; have zB := below_step HB.out hb; have zP := Kd.C_below HP.out hb; clear HB HP hb; have HB := Aside0.mk zB; have HP := Aside0.mk zP; clear zB zP))
    | (go_at_call 9; go_loud ((with_reducible refine (kn_rows _ _ HZ.out).mono ?_); rintro e w_ ⟨ad, cr, rfl, h0_, h1_, hb⟩; have zB := below_step HB.out hb; have zP := Kd.C_below HP.out hb; clear HB HP HZ hb; have HB := Aside0.mk zB; obtain ⟨st, hcv, hst⟩ := kn_str zP; have hcc : 9 ≤ (cp : Int) := (by have := HCP.out; omega); clear zB zP)))
  go_ret
  exact ⟨rfl, HB.out⟩
end Go.Proofs.Ytnlneiiccoakjaa.P
