/-
super.Get, walked by hand: what any bytes say.
Conditions: none.
-/
import Derived.Test.YtjblkjknkemkdaaProg
import Derived.Below
import Derived.Deep.Draws
import Derived.Deep.AppendLies
import Derived.Maps.AppendAt
import Derived.OwnWalk
import Derived.Laws.BytesArg
import Derived.Laws.MakeOwn
import Derived.Laws.OwnMore
import Derived.Deep.OwnRows
import Derived.Tactics
import Derived.Lib.ConvBytes
import Derived.Laws.Slices
import Derived.WalkKit
import Derived.KernelRfl
import Derived.RowKit3
import Derived.Deep.LoopGhost
import Derived.Deep.QuietTactic
import Derived.BigQuiet
import Derived.WideLaws
import Derived.Deep.DeepCutAuto
import Derived.Deep.CutBlock
import Derived.Deep.RegionHeld3
import Derived.Laws.Rows
import Derived.Lib.AppendStr
import Derived.ArgAppend
import Derived.Laws.IdiomCopy
import Derived.OrdersHeld
import Derived.Laws.BitsLemmas
import Derived.RowKit
import Derived.Test.YtjblkjknkemkdaaWWords
import Derived.Test.YtjblkjknkemkdaaWLast
import Derived.Test.YtjblkjknkemkdaaWTab
import Derived.Test.YtjblkjknkemkdaaWFour
import Derived.Test.YtjblkjknkemkdaaWQPut
import Derived.Test.YtjblkjknkemkdaaWApart
import Derived.Test.YtjblkjknkemkdaaWArr
import Derived.Test.YtjblkjknkemkdaaWZeros
import Derived.Test.YtjblkjknkemkdaaWFoot
import Derived.Test.YtjblkjknkemkdaaWKept
import Derived.Test.YtjblkjknkemkdaaWShare
import Derived.Test.YtjblkjknkemkdaaWN
import Derived.Test.YtjblkjknkemkdaaWFootNe
import Derived.Test.YtjblkjknkemkdaaWAt
import Derived.Test.YtjblkjknkemkdaaWEqStruct
import Derived.Test.YtjblkjknkemkdaaWRepsOne
import Derived.Test.YtjblkjknkemkdaaWInv
import Derived.Test.YtjblkjknkemkdaaWInvWords
import Derived.Test.YtjblkjknkemkdaaWGuard
import Derived.Test.YtjblkjknkemkdaaWNEv
import Derived.Test.YtjblkjknkemkdaaWMore
import Derived.StillTailTactics
import Derived.Deep.RegionWith
import Derived.Test.YtjblkjknkemkdaaHand
import Derived.Test.YtjblkjknkemkdaaHandSuper
import Derived.Test.YtjblkjknkemkdaaPx4
import Derived.Test.YtjblkjknkemkdaaPx7
import Derived.Test.YtjblkjknkemkdaaPx7
namespace Go.Proofs.Ytjblkjknkemkdaa.P
open Go.RowKit Go.Proofs.YtjblkjknkemkdaaW.PrintWords Go.Proofs.YtjblkjknkemkdaaW.PrintLast Go.Proofs.YtjblkjknkemkdaaW.PrintMore
attribute [local go_sem] max2_int min2_int max_two min_two max_three min_three max_four min_four
set_option linter.unusedVariables false
set_option linter.unusedSimpArgs false
theorem sg_take (A0 : Option Addr) (c0 : Nat) (l0 : List Int) (j : Int) (n : Nat) (hn : j = (n : Int)) (hj : n ≤ l0.length) (hc : l0.length ≤ c0) :
    (∀ W : World, (Instr.slice 26 (.slice A0 l0.length c0) none (some (.int .i64 j)) none).run Try.prog W = .ok (.slice A0 n c0) W) ∧ (∀ w, Kd.C (Kd.int .u8) w A0 l0.length l0 → Kd.C (Kd.int .u8) w A0 n (l0.take n)) ∧ (l0.take n).length = n ∧ n ≤ c0 := by
  subst hn
  obtain ⟨i0, hi, _, hsz, _⟩ := info_parts info5
  obtain ⟨h1, h2, h3⟩ := print_take_of (P := Try.prog) (Value.int .u8) 0 26 5 .i64 Try.underlying26 hi hsz A0 c0 l0 (n : Int) (by omega) (by omega) hc
  have hlen : (l0.take n).length = n := by rw [List.length_take]; omega
  rw [Int.toNat_natCast, hlen] at h2 h3
  simp only [Int.toNat_natCast, hlen] at h1
  exact ⟨h1, fun w h => Kd.C_of_reads (h1 := fun _ => rfl) (h2 w (Kd.reads_of_C h)), hlen, h3⟩
theorem sg_drop (A0 : Option Addr) (c0 : Nat) (l0 : List Int) (j : Int) (n m : Nat) (hn : j = (n : Int)) (hj : l0.length = n + m) (hc : l0.length ≤ c0) :
    ∃ A : Option Addr, (∀ W : World, (Instr.slice 26 (.slice A0 l0.length c0) (some (.int .i64 j)) none none).run Try.prog W = .ok (.slice A m (c0 - n)) W) ∧ (∀ w, Kd.C (Kd.int .u8) w A0 l0.length l0 → Kd.C (Kd.int .u8) w A m (l0.drop n)) ∧ (l0.drop n).length = m ∧ m ≤ c0 - n := by
  subst hn
  obtain ⟨i0, hi, _, hsz, _⟩ := info_parts info5
  obtain ⟨A, h1, h2, h3⟩ := print_drop_of (P := Try.prog) (Value.int .u8) 0 26 5 .i64 Try.underlying26 hi hsz A0 c0 l0 (n : Int) (by omega) (by omega) hc
  have hlen : (l0.drop n).length = m := by rw [List.length_drop]; omega
  rw [Int.toNat_natCast, hlen] at h2 h3
  simp only [Int.toNat_natCast, hlen] at h1
  exact ⟨A, h1, fun w h => Kd.C_of_reads (h1 := fun _ => rfl) (h2 w (Kd.reads_of_C h)), hlen, h3⟩
theorem sg_mid (A0 : Option Addr) (c0 : Nat) (l0 : List Int) (i j : Int) (p q m : Nat) (hp : i = (p : Int)) (hq : j = (q : Int)) (hm : q = p + m) (hj : q ≤ l0.length) (hc : l0.length ≤ c0) :
    ∃ A : Option Addr, (∀ W : World, (Instr.slice 26 (.slice A0 l0.length c0) (some (.int .i64 i)) (some (.int .i64 j)) none).run Try.prog W = .ok (.slice A m (c0 - p)) W) ∧ (∀ w, Kd.C (Kd.int .u8) w A0 l0.length l0 → Kd.C (Kd.int .u8) w A m ((l0.take q).drop p)) ∧ ((l0.take q).drop p).length = m ∧ m ≤ c0 - p := by
  subst hp
  subst hq
  obtain ⟨i0, hi, _, hsz, _⟩ := info_parts info5
  obtain ⟨A, h1, h2, h3⟩ := print_mid_of (P := Try.prog) (Value.int .u8) 0 26 5 .i64 .i64 Try.underlying26 hi hsz A0 c0 l0 (p : Int) (q : Int) (by omega) (by omega) (by omega) hc
  have hlen : ((l0.take q).drop p).length = m := by rw [List.length_drop, List.length_take]; omega
  rw [Int.toNat_natCast, Int.toNat_natCast, hlen] at h2 h3
  simp only [Int.toNat_natCast, hlen] at h1
  exact ⟨A, h1, fun w h => Kd.C_of_reads (h1 := fun _ => rfl) (h2 w (Kd.reads_of_C h)), hlen, h3⟩
theorem get_n (k : Nat) (A : Option Addr) (c n : Nat) (l : List Int) (r : Int) (w : World) (hn : l.length = n) (hC : Kd.C (Kd.int .u8) w A n l) (hc : n ≤ c) (h : num_Get.f k l = some r) :
    Calls Try.prog 28 #[.slice A n c] w fun e w' => e = .returned (.int .u64 r) ∧ Below w.heap.size w w' := by
  subst hn
  exact num_Get.calls k A c l r w hC hc h
theorem zero_n (k : Nat) (A : Option Addr) (c n : Nat) (l : List Int) (r : Bool) (w : World) (hn : l.length = n) (hC : Kd.C (Kd.int .u8) w A n l) (hc : n ≤ c) (h : num_Zero.f k l = some r) :
    Calls Try.prog 30 #[.slice A n c] w fun e w' => e = .returned (.bool r) ∧ Below w.heap.size w w' := by
  subst hn
  exact (num_Zero.calls k A c l r w hC hc h).mono fun e w' h => ⟨h.1, h.2.below⟩
theorem sum_n (A : Option Addr) (c n : Nat) (l : List Int) (w : World) (hn : l.length = n) (hC : Kd.C (Kd.int .u8) w A n l) (hc : n ≤ c) (hle : n ≤ 9223372036854775807) :
    Calls Try.prog 24 #[.slice A n c] w fun e w' => e = .returned (.int .u32 (Crc.sum l)) ∧ Below w.heap.size w w' := by
  subst hn
  exact sum_any A c l w hC hc hle
theorem str_n {w : World} (A : Option Addr) (c n : Nat) (l : List Int) (hn : l.length = n) (hC : Kd.C (Kd.int .u8) w A n l) : (convert 26 9 (.slice A n c)).run Try.prog w = .ok (.string (strOfNums l)) w := by
  subst hn
  exact Kd.C_string (P := Try.prog) (A := A) (c := c) Try.underlying26 Try.underlying5 Try.underlying9 hC
theorem short_12 (k : Nat) (g : Nat) (A0 : Option Addr) (c0 : Nat) (l0 : List Int) (t : Int) (w : World) (hl : l0.length = 256) (hr0 : Kd.C (Kd.int .u8) w A0 l0.length l0) (hc0 : l0.length ≤ c0) (hg : w.heap[g]? = some (.cells #[.slice A0 l0.length c0] 26 (0, 0))) (ht : num_Get.f k ((l0.take 14).drop 12) = some t) :
    Calls Try.prog 29 #[.int .i64 12, .pointer (some ⟨g, 0, none⟩)] w fun e w' => e = .returned (.int .i64 (wrap64 t)) ∧ Below w.heap.size w w' := by
  obtain ⟨A, hcut, hC, hlen, hcap⟩ := sg_mid A0 c0 l0 12 14 12 14 2 rfl rfl rfl (by omega) hc0
  have HT := Aside0.mk ht
  have HCC := Aside0.mk (hC w hr0)
  have HCAP := Aside0.mk hcap
  have HLEN := Aside0.mk hlen
  have hcell : w.cell? ⟨g, 0, none⟩ = some (.slice A0 l0.length c0) := (blk_cell hg 0).trans rfl
  clear ht hC hcap hr0 hc0 hg hl hlen
  go_enter Try.func29, Try.ntmps29
  go_wp2_with (go_at_call 28; go_loud (refine (get_n k A _ 2 ((l0.take 14).drop 12) t _ HLEN.out HCC.out HCAP.out HT.out).mono ?_; rintro e w1 ⟨rfl, hb⟩; have HB := Aside0.mk hb; clear hb))
  go_ret
  exact ⟨rfl, HB.out⟩
theorem short_14 (k : Nat) (g : Nat) (A0 : Option Addr) (c0 : Nat) (l0 : List Int) (t : Int) (w : World) (hl : l0.length = 256) (hr0 : Kd.C (Kd.int .u8) w A0 l0.length l0) (hc0 : l0.length ≤ c0) (hg : w.heap[g]? = some (.cells #[.slice A0 l0.length c0] 26 (0, 0))) (ht : num_Get.f k ((l0.take 16).drop 14) = some t) :
    Calls Try.prog 29 #[.int .i64 14, .pointer (some ⟨g, 0, none⟩)] w fun e w' => e = .returned (.int .i64 (wrap64 t)) ∧ Below w.heap.size w w' := by
  obtain ⟨A, hcut, hC, hlen, hcap⟩ := sg_mid A0 c0 l0 14 16 14 16 2 rfl rfl rfl (by omega) hc0
  have HT := Aside0.mk ht
  have HCC := Aside0.mk (hC w hr0)
  have HCAP := Aside0.mk hcap
  have HLEN := Aside0.mk hlen
  have hcell : w.cell? ⟨g, 0, none⟩ = some (.slice A0 l0.length c0) := (blk_cell hg 0).trans rfl
  clear ht hC hcap hr0 hc0 hg hl hlen
  go_enter Try.func29, Try.ntmps29
  go_wp2_with (go_at_call 28; go_loud (refine (get_n k A _ 2 ((l0.take 16).drop 14) t _ HLEN.out HCC.out HCAP.out HT.out).mono ?_; rintro e w1 ⟨rfl, hb⟩; have HB := Aside0.mk hb; clear hb))
  go_ret
  exact ⟨rfl, HB.out⟩
theorem short_16 (k : Nat) (g : Nat) (A0 : Option Addr) (c0 : Nat) (l0 : List Int) (t : Int) (w : World) (hl : l0.length = 256) (hr0 : Kd.C (Kd.int .u8) w A0 l0.length l0) (hc0 : l0.length ≤ c0) (hg : w.heap[g]? = some (.cells #[.slice A0 l0.length c0] 26 (0, 0))) (ht : num_Get.f k ((l0.take 18).drop 16) = some t) :
    Calls Try.prog 29 #[.int .i64 16, .pointer (some ⟨g, 0, none⟩)] w fun e w' => e = .returned (.int .i64 (wrap64 t)) ∧ Below w.heap.size w w' := by
  obtain ⟨A, hcut, hC, hlen, hcap⟩ := sg_mid A0 c0 l0 16 18 16 18 2 rfl rfl rfl (by omega) hc0
  have HT := Aside0.mk ht
  have HCC := Aside0.mk (hC w hr0)
  have HCAP := Aside0.mk hcap
  have HLEN := Aside0.mk hlen
  have hcell : w.cell? ⟨g, 0, none⟩ = some (.slice A0 l0.length c0) := (blk_cell hg 0).trans rfl
  clear ht hC hcap hr0 hc0 hg hl hlen
  go_enter Try.func29, Try.ntmps29
  go_wp2_with (go_at_call 28; go_loud (refine (get_n k A _ 2 ((l0.take 18).drop 16) t _ HLEN.out HCC.out HCAP.out HT.out).mono ?_; rintro e w1 ⟨rfl, hb⟩; have HB := Aside0.mk hb; clear hb))
  go_ret
  exact ⟨rfl, HB.out⟩
set_option maxHeartbeats 4000000 in
set_option maxRecDepth 100000 in
theorem sget_size (k : Nat) (A0 : Option Addr) (c0 : Nat) (l0 : List Int) (w : World) (hr0 : Kd.C (Kd.int .u8) w A0 l0.length l0) (hc0 : l0.length ≤ c0) (hl : ¬ l0.length = 256) :
    Calls Try.prog 11 #[.slice A0 l0.length c0] w fun e w' => e = .returned (.tuple #[.agg #[.int .i64 0, .int .i64 0, .int .i64 0, .int .i64 0], .int .i64 4]) ∧ Below w.heap.size w w' := by
  have HCC := Aside0.mk hr0
  have HC0 := Aside0.mk hc0
  have huS := Try.underlying30
  have hb0 : ((l0.length : Int) == 256) = false := by rw [beq_eq_false_iff_ne]; omega
  have hb1 : ((l0.length : Int) != 256) = true := by rw [bne_iff_ne]; omega
  clear hr0 hc0 hl
  go_enter Try.func11, Try.ntmps11
  go_wp2_with (first
    | ((with_reducible refine gate_dst (N := 1) rfl ?_); refine box_event ?hg (N := 1) ?hd (cs := #[.slice A0 l0.length c0]) (t := 26) ?hr ?_; (case hd => rfl); (case hg => rfl); (case hr => first | (go_simp; done) | (go_simp; rfl)); intro g1 hg1 w1 hx1 hb1; have HG := Aside0.mk (show w.heap.size ≤ g1 by omega); have HX := Aside0.mk hx1; have HB := Aside0.mk hb1; clear hx1 hb1 hg1)
    | ((with_reducible refine gate_dst (N := 2) rfl ?_); refine box_event ?hg (N := 2) ?hd (cs := #[.int .i64 0, .int .i64 0, .int .i64 0, .int .i64 0]) (t := 30) ?hr ?_; (case hd => rfl); (case hg => rfl); (case hr => first | (go_simp; done) | (go_simp; rfl)); intro g2 hg2 w2 hx2 hb2
       have n0_ := Aside0.mk (blk_below HX.out hb2); have n1_ := Aside0.mk (below_step HB.out hb2); have n2_ := Aside0.mk (show w.heap.size ≤ g2 by have := HB.out.size; omega); have n3_ := Aside0.mk (show g1 < g2 by have := blk_lt HX.out; omega); have BK := Aside0.mk hx2; clear HX HB hx2 hb2 hg2; have HX := n0_; have HB := n1_; have HG2 := n2_; have HNE := n3_; clear n0_ n1_ n2_ n3_
       have k0 := (blk_cell HX.out 0).trans (show _ = some (Value.slice A0 l0.length c0) from rfl)
       have f0 := blk_frozen BK.out 0; have f1 := blk_frozen BK.out 1; have f2 := blk_frozen BK.out 2; have f3 := blk_frozen BK.out 3
       have b0 := (blk_cell BK.out 0).trans (show _ = some (Value.int .i64 0) from rfl); have b1 := (blk_cell BK.out 1).trans (show _ = some (Value.int .i64 0) from rfl); have b2 := (blk_cell BK.out 2).trans (show _ = some (Value.int .i64 0) from rfl); have b3 := (blk_cell BK.out 3).trans (show _ = some (Value.int .i64 0) from rfl)
       skip))
  refine bodyPost_ret (results_ct rfl _ _ g2 30 #[.int .i64 0, .int .i64 0, .int .i64 0, .int .i64 0] (0, 0) _ rfl (by refine blk_put (cs := #[.int .i64 0, .int .i64 0, .int .i64 0, .int .i64 0]) ?_ 3 _ rfl; refine blk_put (cs := #[.int .i64 0, .int .i64 0, .int .i64 0, .int .i64 0]) ?_ 2 _ rfl; refine blk_put (cs := #[.int .i64 0, .int .i64 0, .int .i64 0, .int .i64 0]) ?_ 1 _ rfl; refine blk_put (cs := #[.int .i64 0, .int .i64 0, .int .i64 0, .int .i64 0]) ?_ 0 _ rfl; exact BK.out) Try.underlying30 rfl (by kernel_rfl)) rfl ?_
  exact ⟨rfl, below_set (below_set (below_set (below_set HB.out HG2.out) HG2.out) HG2.out) HG2.out⟩
set_option maxHeartbeats 4000000 in
set_option maxRecDepth 100000 in
theorem sget_form (k : Nat) (A0 : Option Addr) (c0 : Nat) (l0 : List Int) (w : World) (hr0 : Kd.C (Kd.int .u8) w A0 l0.length l0) (hc0 : l0.length ≤ c0) (hl : l0.length = 256) (hm : ¬ (strOfNums (l0.take 4)).toList = ([76, 86, 69, 69] : List UInt8)) :
    Calls Try.prog 11 #[.slice A0 l0.length c0] w fun e w' => e = .returned (.tuple #[.agg #[.int .i64 0, .int .i64 0, .int .i64 0, .int .i64 0], .int .i64 8]) ∧ Below w.heap.size w w' := by
  have HCC := Aside0.mk hr0
  have HC0 := Aside0.mk hc0
  have huS := Try.underlying30
  have hb0 : ((l0.length : Int) == 256) = true := by rw [beq_iff_eq]; omega
  have hb1 : ((l0.length : Int) != 256) = false := by rw [bne_eq_false_iff_eq]; omega
  have hm0 : ((strOfNums (l0.take 4)).toList == ([76, 86, 69, 69] : List UInt8)) = false := by rw [beq_eq_false_iff_ne]; exact hm
  have hm1 : ((strOfNums (l0.take 4)).toList != ([76, 86, 69, 69] : List UInt8)) = true := by rw [bne_iff_ne]; exact hm
  obtain ⟨hcut4, hC4, hlen4, hcap4⟩ := sg_take A0 c0 l0 4 4 rfl (by omega) hc0
  have HC4 := Aside0.mk (hC4 w hr0)
  have HL4 := Aside0.mk hlen4
  clear hC4 hcap4 hlen4
  clear hr0 hc0 hl hm
  go_enter Try.func11, Try.ntmps11
  go_wp2_with (first
    | ((with_reducible refine gate_dst (N := 1) rfl ?_); refine box_event ?hg (N := 1) ?hd (cs := #[.slice A0 l0.length c0]) (t := 26) ?hr ?_; (case hd => rfl); (case hg => rfl); (case hr => first | (go_simp; done) | (go_simp; rfl)); intro g1 hg1 w1 hx1 hb1; have HG := Aside0.mk (show w.heap.size ≤ g1 by omega); have HX := Aside0.mk hx1; have HB := Aside0.mk hb1; clear hx1 hb1 hg1)
    | ((with_reducible refine gate_dst (N := 2) rfl ?_); refine box_event ?hg (N := 2) ?hd (cs := #[.int .i64 0, .int .i64 0, .int .i64 0, .int .i64 0]) (t := 30) ?hr ?_; (case hd => rfl); (case hg => rfl); (case hr => first | (go_simp; done) | (go_simp; rfl)); intro g2 hg2 w2 hx2 hb2
       have n0_ := Aside0.mk (blk_below HX.out hb2); have n1_ := Aside0.mk (below_step HB.out hb2); have n2_ := Aside0.mk (show w.heap.size ≤ g2 by have := HB.out.size; omega); have n3_ := Aside0.mk (show g1 < g2 by have := blk_lt HX.out; omega); have BK := Aside0.mk hx2; clear HX HB hx2 hb2 hg2; have HX := n0_; have HB := n1_; have HG2 := n2_; have HNE := n3_; clear n0_ n1_ n2_ n3_
       have k0 := (blk_cell HX.out 0).trans (show _ = some (Value.slice A0 l0.length c0) from rfl)
       have f0 := blk_frozen BK.out 0; have f1 := blk_frozen BK.out 1; have f2 := blk_frozen BK.out 2; have f3 := blk_frozen BK.out 3
       have b0 := (blk_cell BK.out 0).trans (show _ = some (Value.int .i64 0) from rfl); have b1 := (blk_cell BK.out 1).trans (show _ = some (Value.int .i64 0) from rfl); have b2 := (blk_cell BK.out 2).trans (show _ = some (Value.int .i64 0) from rfl); have b3 := (blk_cell BK.out 3).trans (show _ = some (Value.int .i64 0) from rfl)
       have hcv := str_n A0 c0 4 (l0.take 4) HL4.out (Kd.C_below HC4.out HB.out)))
  refine bodyPost_ret (results_ct rfl _ _ g2 30 #[.int .i64 0, .int .i64 0, .int .i64 0, .int .i64 0] (0, 0) _ rfl (by refine blk_put (cs := #[.int .i64 0, .int .i64 0, .int .i64 0, .int .i64 0]) ?_ 3 _ rfl; refine blk_put (cs := #[.int .i64 0, .int .i64 0, .int .i64 0, .int .i64 0]) ?_ 2 _ rfl; refine blk_put (cs := #[.int .i64 0, .int .i64 0, .int .i64 0, .int .i64 0]) ?_ 1 _ rfl; refine blk_put (cs := #[.int .i64 0, .int .i64 0, .int .i64 0, .int .i64 0]) ?_ 0 _ rfl; exact BK.out) Try.underlying30 rfl (by kernel_rfl)) rfl ?_
  exact ⟨rfl, below_set (below_set (below_set (below_set HB.out HG2.out) HG2.out) HG2.out) HG2.out⟩
theorem put4 {w : World} {g : Nat} {t : TypeId} {a0 a1 a2 a3 : Value} (b0 b1 b2 b3 : Value) (h : w.heap[g]? = some (.cells #[a0, a1, a2, a3] t (0, 0))) : ((((w.setCell ⟨g, 0, none⟩ b0).setCell ⟨g, 1, none⟩ b1).setCell ⟨g, 2, none⟩ b2).setCell ⟨g, 3, none⟩ b3).heap[g]? = some (.cells #[b0, b1, b2, b3] t (0, 0)) := by
  refine blk_put (cs := #[b0, b1, b2, a3]) ?_ 3 _ rfl
  refine blk_put (cs := #[b0, b1, a2, a3]) ?_ 2 _ rfl
  refine blk_put (cs := #[b0, a1, a2, a3]) ?_ 1 _ rfl
  refine blk_put (cs := #[a0, a1, a2, a3]) ?_ 0 _ rfl
  exact h
theorem far4 {w : World} {g g' : Nat} {t : TypeId} {cs : Array Value} (b0 b1 b2 b3 : Value) (h : w.heap[g']? = some (.cells cs t (0, 0))) (hne : g' ≠ g) : ((((w.setCell ⟨g, 0, none⟩ b0).setCell ⟨g, 1, none⟩ b1).setCell ⟨g, 2, none⟩ b2).setCell ⟨g, 3, none⟩ b3).heap[g']? = some (.cells cs t (0, 0)) := by
  refine blk_far ?_ (p := ⟨g, 3, none⟩) hne _
  refine blk_far ?_ (p := ⟨g, 2, none⟩) hne _
  refine blk_far ?_ (p := ⟨g, 1, none⟩) hne _
  exact blk_far h (p := ⟨g, 0, none⟩) hne _
theorem below4 {w0 w : World} {g : Nat} (b0 b1 b2 b3 : Value) (h : Below w0.heap.size w0 w) (hg : w0.heap.size ≤ g) : Below w0.heap.size w0 ((((w.setCell ⟨g, 0, none⟩ b0).setCell ⟨g, 1, none⟩ b1).setCell ⟨g, 2, none⟩ b2).setCell ⟨g, 3, none⟩ b3) :=
  below_set (below_set (below_set (below_set h hg) hg) hg) hg
set_option maxHeartbeats 4000000 in
set_option maxRecDepth 100000 in
theorem sget_sum (k : Nat) (A0 : Option Addr) (c0 : Nat) (l0 : List Int) (t1 : Int) (w : World) (hr0 : Kd.C (Kd.int .u8) w A0 l0.length l0) (hc0 : l0.length ≤ c0) (hl : l0.length = 256) (hm : (strOfNums (l0.take 4)).toList = ([76, 86, 69, 69] : List UInt8)) (ht1 : num_Get.f k (l0.drop 252) = some t1) (hne : ¬ t1 = IntKind.u64.wrap (Crc.sum (l0.take 252))) :
    Calls Try.prog 11 #[.slice A0 l0.length c0] w fun e w' => e = .returned (.tuple #[.agg #[.int .i64 0, .int .i64 0, .int .i64 0, .int .i64 0], .int .i64 7]) ∧ Below w.heap.size w w' := by
  have HCC := Aside0.mk hr0
  have HC0 := Aside0.mk hc0
  have huS := Try.underlying30
  have hb0 : ((l0.length : Int) == 256) = true := by rw [beq_iff_eq]; omega
  have hb1 : ((l0.length : Int) != 256) = false := by rw [bne_eq_false_iff_eq]; omega
  have hm0 : ((strOfNums (l0.take 4)).toList == ([76, 86, 69, 69] : List UInt8)) = true := by rw [beq_iff_eq]; exact hm
  have hm1 : ((strOfNums (l0.take 4)).toList != ([76, 86, 69, 69] : List UInt8)) = false := by rw [bne_eq_false_iff_eq]; exact hm
  have hs0 : (t1 == IntKind.u64.wrap (Crc.sum (l0.take 252))) = false := by rw [beq_eq_false_iff_ne]; exact hne
  have hs1 : (t1 != IntKind.u64.wrap (Crc.sum (l0.take 252))) = true := by rw [bne_iff_ne]; exact hne
  obtain ⟨hcut4, hC4, hlen4, hcap4⟩ := sg_take A0 c0 l0 4 4 rfl (by omega) hc0
  have HC4 := Aside0.mk (hC4 w hr0)
  have HL4 := Aside0.mk hlen4
  clear hC4 hcap4 hlen4
  obtain ⟨A5, hcut5, hC5, hlen5, hcap5⟩ := sg_drop A0 c0 l0 252 252 4 rfl (by omega) hc0
  have HC5 := Aside0.mk (hC5 w hr0)
  have HL5 := Aside0.mk hlen5
  have HK5 := Aside0.mk hcap5
  obtain ⟨hcut6, hC6, hlen6, hcap6⟩ := sg_take A0 c0 l0 252 252 rfl (by omega) hc0
  have HC6 := Aside0.mk (hC6 w hr0)
  have HL6 := Aside0.mk hlen6
  have HK6 := Aside0.mk hcap6
  clear hC5 hcap5 hlen5 hC6 hcap6 hlen6
  have HT1 := Aside0.mk ht1
  clear hr0 hc0 hl hm ht1 hne
  go_enter Try.func11, Try.ntmps11
  go_wp2_with (first
    | ((with_reducible refine gate_dst (N := 1) rfl ?_); refine box_event ?hg (N := 1) ?hd (cs := #[.slice A0 l0.length c0]) (t := 26) ?hr ?_; (case hd => rfl); (case hg => rfl); (case hr => first | (go_simp; done) | (go_simp; rfl)); intro g1 hg1 w1 hx1 hb1; have HG := Aside0.mk (show w.heap.size ≤ g1 by omega); have HX := Aside0.mk hx1; have HB := Aside0.mk hb1; clear hx1 hb1 hg1)
    | ((with_reducible refine gate_dst (N := 2) rfl ?_); refine box_event ?hg (N := 2) ?hd (cs := #[.int .i64 0, .int .i64 0, .int .i64 0, .int .i64 0]) (t := 30) ?hr ?_; (case hd => rfl); (case hg => rfl); (case hr => first | (go_simp; done) | (go_simp; rfl)); intro g2 hg2 w2 hx2 hb2
       have n0_ := Aside0.mk (blk_below HX.out hb2); have n1_ := Aside0.mk (below_step HB.out hb2); have n2_ := Aside0.mk (show w.heap.size ≤ g2 by have := HB.out.size; omega); have n3_ := Aside0.mk (show g1 < g2 by have := blk_lt HX.out; omega); have BK := Aside0.mk hx2; clear HX HB hx2 hb2 hg2; have HX := n0_; have HB := n1_; have HG2 := n2_; have HNE := n3_; clear n0_ n1_ n2_ n3_
       have k0 := (blk_cell HX.out 0).trans (show _ = some (Value.slice A0 l0.length c0) from rfl)
       have f0 := blk_frozen BK.out 0; have f1 := blk_frozen BK.out 1; have f2 := blk_frozen BK.out 2; have f3 := blk_frozen BK.out 3
       have b0 := (blk_cell BK.out 0).trans (show _ = some (Value.int .i64 0) from rfl); have b1 := (blk_cell BK.out 1).trans (show _ = some (Value.int .i64 0) from rfl); have b2 := (blk_cell BK.out 2).trans (show _ = some (Value.int .i64 0) from rfl); have b3 := (blk_cell BK.out 3).trans (show _ = some (Value.int .i64 0) from rfl)
       have hcv := str_n A0 c0 4 (l0.take 4) HL4.out (Kd.C_below HC4.out HB.out)))
  have HXd := Aside0.mk (blk_drew HX.out)
  have HBd := Aside0.mk (below_drew HB.out)
  have BKd := Aside0.mk (blk_drew BK.out)
  clear HX HB BK k0 f0 f1 f2 f3 b0 b1 b2 b3 hcv
  have kd := (blk_cell HXd.out 0).trans (show _ = some (Value.slice A0 l0.length c0) from rfl)
  go_region_with (first
    | (go_at_call 28; go_loud (refine (get_n k A5 _ 4 (l0.drop 252) _ _ HL5.out (Kd.C_below HC5.out HBd.out) HK5.out HT1.out).mono ?_; rintro e w3 ⟨rfl, hb⟩; have HX3 := Aside0.mk (blk_below HXd.out hb); have HB3 := Aside0.mk (below_step HBd.out hb); have BK3 := Aside0.mk (blk_below BKd.out hb); clear hb; have k3 := (blk_cell HX3.out 0).trans (show _ = some (Value.slice A0 l0.length c0) from rfl); have f30 := blk_frozen BK3.out 0; have f31 := blk_frozen BK3.out 1; have f32 := blk_frozen BK3.out 2; have f33 := blk_frozen BK3.out 3; have z30 := (blk_cell BK3.out 0).trans (show _ = some (Value.int .i64 0) from rfl); have z31 := (blk_cell BK3.out 1).trans (show _ = some (Value.int .i64 0) from rfl); have z32 := (blk_cell BK3.out 2).trans (show _ = some (Value.int .i64 0) from rfl); have z33 := (blk_cell BK3.out 3).trans (show _ = some (Value.int .i64 0) from rfl)))
    | (go_at_call 24; go_loud (refine (sum_n A0 _ 252 (l0.take 252) _ HL6.out (Kd.C_below HC6.out HB3.out) HK6.out (by omega)).mono ?_; rintro e w4 ⟨rfl, hb⟩; have HX4 := Aside0.mk (blk_below HX3.out hb); have HB4 := Aside0.mk (below_step HB3.out hb); have BK4 := Aside0.mk (blk_below BK3.out hb); clear hb; have k4 := (blk_cell HX4.out 0).trans (show _ = some (Value.slice A0 l0.length c0) from rfl); have f40 := blk_frozen BK4.out 0; have f41 := blk_frozen BK4.out 1; have f42 := blk_frozen BK4.out 2; have f43 := blk_frozen BK4.out 3; have z40 := (blk_cell BK4.out 0).trans (show _ = some (Value.int .i64 0) from rfl); have z41 := (blk_cell BK4.out 1).trans (show _ = some (Value.int .i64 0) from rfl); have z42 := (blk_cell BK4.out 2).trans (show _ = some (Value.int .i64 0) from rfl); have z43 := (blk_cell BK4.out 3).trans (show _ = some (Value.int .i64 0) from rfl))))
  all_goals
    go_wp2
    refine bodyPost_ret (results_ct rfl _ _ g2 30 #[.int .i64 0, .int .i64 0, .int .i64 0, .int .i64 0] (0, 0) _ rfl (by refine blk_put (cs := #[.int .i64 0, .int .i64 0, .int .i64 0, .int .i64 0]) ?_ 3 _ rfl; refine blk_put (cs := #[.int .i64 0, .int .i64 0, .int .i64 0, .int .i64 0]) ?_ 2 _ rfl; refine blk_put (cs := #[.int .i64 0, .int .i64 0, .int .i64 0, .int .i64 0]) ?_ 1 _ rfl; refine blk_put (cs := #[.int .i64 0, .int .i64 0, .int .i64 0, .int .i64 0]) ?_ 0 _ rfl; exact BK4.out) Try.underlying30 rfl (by kernel_rfl)) rfl ?_
    exact ⟨rfl, below4 _ _ _ _ HB4.out HG2.out⟩
set_option maxHeartbeats 8000000 in
set_option maxRecDepth 100000 in
theorem sget_arg (k : Nat) (A0 : Option Addr) (c0 : Nat) (l0 : List Int) (w : World) (hr0 : Kd.C (Kd.int .u8) w A0 l0.length l0) (hc0 : l0.length ≤ c0) (tg ta tb tc : Int) (hl : l0.length = 256) (hm : (strOfNums (l0.take 4)).toList = ([76, 86, 69, 69] : List UInt8)) (ht1 : num_Get.f k (l0.drop 252) = some (IntKind.u64.wrap (Crc.sum (l0.take 252)))) (htg : num_Get.f k ((l0.take 12).drop 4) = some tg) (hta : num_Get.f k ((l0.take 14).drop 12) = some ta) (htb : num_Get.f k ((l0.take 16).drop 14) = some tb) (htc : num_Get.f k ((l0.take 18).drop 16) = some tc) (hr : super_Super_right.f k (wrap64 tg) (wrap64 ta) (wrap64 tb) (wrap64 tc) = some false) :
    Calls Try.prog 11 #[.slice A0 l0.length c0] w fun e w' => e = .returned (.tuple #[.agg #[.int .i64 0, .int .i64 0, .int .i64 0, .int .i64 0], .int .i64 1]) ∧ Below w.heap.size w w' := by
  have HCC := Aside0.mk hr0
  have HC0 := Aside0.mk hc0
  have huS := Try.underlying30
  have hb0 : ((l0.length : Int) == 256) = true := by rw [beq_iff_eq]; omega
  have hb1 : ((l0.length : Int) != 256) = false := by rw [bne_eq_false_iff_eq]; omega
  have hm0 : ((strOfNums (l0.take 4)).toList == ([76, 86, 69, 69] : List UInt8)) = true := by rw [beq_iff_eq]; exact hm
  have hm1 : ((strOfNums (l0.take 4)).toList != ([76, 86, 69, 69] : List UInt8)) = false := by rw [bne_eq_false_iff_eq]; exact hm
  have hs0 : (IntKind.u64.wrap (Crc.sum (l0.take 252)) == IntKind.u64.wrap (Crc.sum (l0.take 252))) = true := by rw [beq_iff_eq]
  have hs1 : (IntKind.u64.wrap (Crc.sum (l0.take 252)) != IntKind.u64.wrap (Crc.sum (l0.take 252))) = false := by rw [bne_eq_false_iff_eq]
  obtain ⟨hcut4, hC4, hlen4, hcap4⟩ := sg_take A0 c0 l0 4 4 rfl (by omega) hc0
  have HC4 := Aside0.mk (hC4 w hr0)
  have HL4 := Aside0.mk hlen4
  clear hC4 hcap4 hlen4
  obtain ⟨A5, hcut5, hC5, hlen5, hcap5⟩ := sg_drop A0 c0 l0 252 252 4 rfl (by omega) hc0
  have HC5 := Aside0.mk (hC5 w hr0)
  have HL5 := Aside0.mk hlen5
  have HK5 := Aside0.mk hcap5
  obtain ⟨hcut6, hC6, hlen6, hcap6⟩ := sg_take A0 c0 l0 252 252 rfl (by omega) hc0
  have HC6 := Aside0.mk (hC6 w hr0)
  have HL6 := Aside0.mk hlen6
  have HK6 := Aside0.mk hcap6
  clear hC5 hcap5 hlen5 hC6 hcap6 hlen6
  obtain ⟨A7, hcut7, hC7, hlen7, hcap7⟩ := sg_mid A0 c0 l0 4 12 4 12 8 rfl rfl rfl (by omega) hc0
  have HC7 := Aside0.mk (hC7 w hr0)
  have HL7 := Aside0.mk hlen7
  have HK7 := Aside0.mk hcap7
  obtain ⟨A8, hcut8, hC8, hlen8, hcap8⟩ := sg_mid A0 c0 l0 18 252 18 252 234 rfl rfl rfl (by omega) hc0
  have HC8 := Aside0.mk (hC8 w hr0)
  have HL8 := Aside0.mk hlen8
  have HK8 := Aside0.mk hcap8
  have HLL := Aside0.mk hl
  have HT1 := Aside0.mk ht1
  have HTg := Aside0.mk htg
  have HTa := Aside0.mk hta
  have HTb := Aside0.mk htb
  have HTc := Aside0.mk htc
  have HR := Aside0.mk hr
  have huG := Try.underlying23
  have hmf : ∀ (fn : Fn) (first cap : Array Value) (w : World), (Instr.makeFunc fn first cap).run Try.prog w = .ok (.func fn first cap) w := fun _ _ _ _ => rfl
  clear hC7 hlen7 hcap7 hC8 hlen8 hcap8
  clear hr0 hc0 hl hm ht1 htg hta htb htc hr
  go_enter Try.func11, Try.ntmps11
  go_wp2_with (first
    | ((with_reducible refine gate_dst (N := 1) rfl ?_); refine box_event ?hg (N := 1) ?hd (cs := #[.slice A0 l0.length c0]) (t := 26) ?hr ?_; (case hd => rfl); (case hg => rfl); (case hr => first | (go_simp; done) | (go_simp; rfl)); intro g1 hg1 w1 hx1 hb1; have HG := Aside0.mk (show w.heap.size ≤ g1 by omega); have HX := Aside0.mk hx1; have HB := Aside0.mk hb1; clear hx1 hb1 hg1)
    | ((with_reducible refine gate_dst (N := 2) rfl ?_); refine box_event ?hg (N := 2) ?hd (cs := #[.int .i64 0, .int .i64 0, .int .i64 0, .int .i64 0]) (t := 30) ?hr ?_; (case hd => rfl); (case hg => rfl); (case hr => first | (go_simp; done) | (go_simp; rfl)); intro g2 hg2 w2 hx2 hb2
       have n0_ := Aside0.mk (blk_below HX.out hb2); have n1_ := Aside0.mk (below_step HB.out hb2); have n2_ := Aside0.mk (show w.heap.size ≤ g2 by have := HB.out.size; omega); have n3_ := Aside0.mk (show g1 < g2 by have := blk_lt HX.out; omega); have BK := Aside0.mk hx2; clear HX HB hx2 hb2 hg2; have HX := n0_; have HB := n1_; have HG2 := n2_; have HNE := n3_; clear n0_ n1_ n2_ n3_
       have k0 := (blk_cell HX.out 0).trans (show _ = some (Value.slice A0 l0.length c0) from rfl)
       have f0 := blk_frozen BK.out 0; have f1 := blk_frozen BK.out 1; have f2 := blk_frozen BK.out 2; have f3 := blk_frozen BK.out 3
       have b0 := (blk_cell BK.out 0).trans (show _ = some (Value.int .i64 0) from rfl); have b1 := (blk_cell BK.out 1).trans (show _ = some (Value.int .i64 0) from rfl); have b2 := (blk_cell BK.out 2).trans (show _ = some (Value.int .i64 0) from rfl); have b3 := (blk_cell BK.out 3).trans (show _ = some (Value.int .i64 0) from rfl)
       have hcv := str_n A0 c0 4 (l0.take 4) HL4.out (Kd.C_below HC4.out HB.out)))
  have HXd := Aside0.mk (blk_drew HX.out)
  have HBd := Aside0.mk (below_drew HB.out)
  have BKd := Aside0.mk (blk_drew BK.out)
  clear HX HB BK k0 f0 f1 f2 f3 b0 b1 b2 b3 hcv
  have kd := (blk_cell HXd.out 0).trans (show _ = some (Value.slice A0 l0.length c0) from rfl)
  go_region_with (first
    | (go_at_call 28; go_loud (refine (get_n k A5 _ 4 (l0.drop 252) _ _ HL5.out (Kd.C_below HC5.out HBd.out) HK5.out HT1.out).mono ?_; rintro e w3 ⟨rfl, hb⟩; have HX3 := Aside0.mk (blk_below HXd.out hb); have HB3 := Aside0.mk (below_step HBd.out hb); have BK3 := Aside0.mk (blk_below BKd.out hb); clear hb; have k3 := (blk_cell HX3.out 0).trans (show _ = some (Value.slice A0 l0.length c0) from rfl); have f30 := blk_frozen BK3.out 0; have f31 := blk_frozen BK3.out 1; have f32 := blk_frozen BK3.out 2; have f33 := blk_frozen BK3.out 3; have z30 := (blk_cell BK3.out 0).trans (show _ = some (Value.int .i64 0) from rfl); have z31 := (blk_cell BK3.out 1).trans (show _ = some (Value.int .i64 0) from rfl); have z32 := (blk_cell BK3.out 2).trans (show _ = some (Value.int .i64 0) from rfl); have z33 := (blk_cell BK3.out 3).trans (show _ = some (Value.int .i64 0) from rfl)))
    | (go_at_call 24; go_loud (refine (sum_n A0 _ 252 (l0.take 252) _ HL6.out (Kd.C_below HC6.out HB3.out) HK6.out (by omega)).mono ?_; rintro e w4 ⟨rfl, hb⟩; have HX4 := Aside0.mk (blk_below HX3.out hb); have HB4 := Aside0.mk (below_step HB3.out hb); have BK4 := Aside0.mk (blk_below BK3.out hb); clear hb; have k4 := (blk_cell HX4.out 0).trans (show _ = some (Value.slice A0 l0.length c0) from rfl); have f40 := blk_frozen BK4.out 0; have f41 := blk_frozen BK4.out 1; have f42 := blk_frozen BK4.out 2; have f43 := blk_frozen BK4.out 3; have z40 := (blk_cell BK4.out 0).trans (show _ = some (Value.int .i64 0) from rfl); have z41 := (blk_cell BK4.out 1).trans (show _ = some (Value.int .i64 0) from rfl); have z42 := (blk_cell BK4.out 2).trans (show _ = some (Value.int .i64 0) from rfl); have z43 := (blk_cell BK4.out 3).trans (show _ = some (Value.int .i64 0) from rfl))))
  all_goals
    go_wp2_with (first
      | (go_at_call 28; go_loud (refine (get_n k A7 _ 8 ((l0.take 12).drop 4) tg _ HL7.out (Kd.C_below HC7.out HB4.out) HK7.out HTg.out).mono ?_; rintro e w5 ⟨rfl, hb⟩; have HX5 := Aside0.mk (blk_below HX4.out hb); have HB5 := Aside0.mk (below_step HB4.out hb); have BK5 := Aside0.mk (blk_below BK4.out hb); clear hb; have k5 := (blk_cell HX5.out 0).trans (show _ = some (Value.slice A0 l0.length c0) from rfl); have f50 := blk_frozen BK5.out 0; have f51 := blk_frozen BK5.out 1; have f52 := blk_frozen BK5.out 2; have f53 := blk_frozen BK5.out 3; have z50 := (blk_cell BK5.out 0).trans (show _ = some (Value.int .i64 0) from rfl); have z51 := (blk_cell BK5.out 1).trans (show _ = some (Value.int .i64 0) from rfl); have z52 := (blk_cell BK5.out 2).trans (show _ = some (Value.int .i64 0) from rfl); have z53 := (blk_cell BK5.out 3).trans (show _ = some (Value.int .i64 0) from rfl)))
      | (go_at_call 29; (with_reducible refine (short_12 k g1 A0 c0 l0 ta _ HLL.out (Kd.C_below HCC.out HB5.out) HC0.out HX5.out HTa.out).mono ?_); rintro e w6 ⟨rfl, hb⟩; have HX6 := Aside0.mk (blk_below HX5.out hb); have HB6 := Aside0.mk (below_step HB5.out hb); have BK6 := Aside0.mk (blk_below BK5.out hb); clear hb; have k6 := (blk_cell HX6.out 0).trans (show _ = some (Value.slice A0 l0.length c0) from rfl); have f60 := blk_frozen BK6.out 0; have f61 := blk_frozen BK6.out 1; have f62 := blk_frozen BK6.out 2; have f63 := blk_frozen BK6.out 3; have z60 := (blk_cell BK6.out 0).trans (show _ = some (Value.int .i64 0) from rfl); have z61 := (blk_cell BK6.out 1).trans (show _ = some (Value.int .i64 0) from rfl); have z62 := (blk_cell BK6.out 2).trans (show _ = some (Value.int .i64 0) from rfl); have z63 := (blk_cell BK6.out 3).trans (show _ = some (Value.int .i64 0) from rfl))
      | (go_at_call 29; (with_reducible refine (short_14 k g1 A0 c0 l0 tb _ HLL.out (Kd.C_below HCC.out HB6.out) HC0.out HX6.out HTb.out).mono ?_); rintro e w7 ⟨rfl, hb⟩; have HX7 := Aside0.mk (blk_below HX6.out hb); have HB7 := Aside0.mk (below_step HB6.out hb); have BK7 := Aside0.mk (blk_below BK6.out hb); clear hb; have k7 := (blk_cell HX7.out 0).trans (show _ = some (Value.slice A0 l0.length c0) from rfl); have f70 := blk_frozen BK7.out 0; have f71 := blk_frozen BK7.out 1; have f72 := blk_frozen BK7.out 2; have f73 := blk_frozen BK7.out 3; have z70 := (blk_cell BK7.out 0).trans (show _ = some (Value.int .i64 0) from rfl); have z71 := (blk_cell BK7.out 1).trans (show _ = some (Value.int .i64 0) from rfl); have z72 := (blk_cell BK7.out 2).trans (show _ = some (Value.int .i64 0) from rfl); have z73 := (blk_cell BK7.out 3).trans (show _ = some (Value.int .i64 0) from rfl))
      | (go_at_call 29; (with_reducible refine (short_16 k g1 A0 c0 l0 tc _ HLL.out (Kd.C_below HCC.out HB7.out) HC0.out HX7.out HTc.out).mono ?_); rintro e w8 ⟨rfl, hb⟩; have HX8 := Aside0.mk (blk_below HX7.out hb); have HB8 := Aside0.mk (below_step HB7.out hb); have BK8 := Aside0.mk (blk_below BK7.out hb); clear hb; have k8 := (blk_cell HX8.out 0).trans (show _ = some (Value.slice A0 l0.length c0) from rfl); have f80 := blk_frozen BK8.out 0; have f81 := blk_frozen BK8.out 1; have f82 := blk_frozen BK8.out 2; have f83 := blk_frozen BK8.out 3; have z80 := (blk_cell BK8.out 0).trans (show _ = some (Value.int .i64 0) from rfl); have z81 := (blk_cell BK8.out 1).trans (show _ = some (Value.int .i64 0) from rfl); have z82 := (blk_cell BK8.out 2).trans (show _ = some (Value.int .i64 0) from rfl); have z83 := (blk_cell BK8.out 3).trans (show _ = some (Value.int .i64 0) from rfl))
      | ((with_reducible refine gate_dst (N := 5) rfl ?_); refine box_event ?hg (N := 5) ?hd (cs := #[.int .i64 0, .int .i64 0, .int .i64 0, .int .i64 0]) (t := 30) ?hr ?_; (case hd => rfl); (case hg => rfl); (case hr => first | (go_simp; done) | (go_simp; rfl)); intro g5 hg5 w9 hx5 hb
         have HX9 := Aside0.mk (blk_below HX8.out hb); have HB9 := Aside0.mk (below_step HB8.out hb); have BK9 := Aside0.mk (blk_below BK8.out hb); have HG5 := Aside0.mk (show w.heap.size ≤ g5 by have := HB8.out.size; omega); have HN1 := Aside0.mk (show g1 < g5 by have := blk_lt HX8.out; omega); have HN2 := Aside0.mk (show g2 < g5 by have := blk_lt BK8.out; omega); have B5 := Aside0.mk hx5; clear hb hx5 hg5
         have fe0 := blk_frozen B5.out 0; have fe1 := blk_frozen B5.out 1; have fe2 := blk_frozen B5.out 2; have fe3 := blk_frozen B5.out 3
         have ze0 := (blk_cell B5.out 0).trans (show _ = some (Value.int .i64 0) from rfl); have ze1 := (blk_cell B5.out 1).trans (show _ = some (Value.int .i64 0) from rfl); have ze2 := (blk_cell B5.out 2).trans (show _ = some (Value.int .i64 0) from rfl); have ze3 := (blk_cell B5.out 3).trans (show _ = some (Value.int .i64 0) from rfl))
      | (go_at_call 22; go_loud (refine (super_Super_right.calls k (wrap64 tg) (wrap64 ta) (wrap64 tb) (wrap64 tc) false _ HR.out).mono ?_; rintro e w10 ⟨rfl, hb⟩; have HX10 := Aside0.mk (blk_below (far4 _ _ _ _ HX9.out (Nat.ne_of_lt HN1.out)) hb); have HB10 := Aside0.mk (below_step (below4 _ _ _ _ HB9.out HG5.out) hb); have BK10 := Aside0.mk (blk_below (far4 _ _ _ _ BK9.out (Nat.ne_of_lt HN2.out)) hb); have B10 := Aside0.mk (blk_below (put4 _ _ _ _ B5.out) hb); clear hb; have k10 := (blk_cell HX10.out 0).trans (show _ = some (Value.slice A0 l0.length c0) from rfl); have f100 := blk_frozen BK10.out 0; have f101 := blk_frozen BK10.out 1; have f102 := blk_frozen BK10.out 2; have f103 := blk_frozen BK10.out 3; have z100 := (blk_cell BK10.out 0).trans (show _ = some (Value.int .i64 0) from rfl); have z101 := (blk_cell BK10.out 1).trans (show _ = some (Value.int .i64 0) from rfl); have z102 := (blk_cell BK10.out 2).trans (show _ = some (Value.int .i64 0) from rfl); have z103 := (blk_cell BK10.out 3).trans (show _ = some (Value.int .i64 0) from rfl))))
    refine bodyPost_ret (results_ct rfl _ _ g2 30 #[.int .i64 0, .int .i64 0, .int .i64 0, .int .i64 0] (0, 0) _ rfl (by refine blk_put (cs := #[.int .i64 0, .int .i64 0, .int .i64 0, .int .i64 0]) ?_ 3 _ rfl; refine blk_put (cs := #[.int .i64 0, .int .i64 0, .int .i64 0, .int .i64 0]) ?_ 2 _ rfl; refine blk_put (cs := #[.int .i64 0, .int .i64 0, .int .i64 0, .int .i64 0]) ?_ 1 _ rfl; refine blk_put (cs := #[.int .i64 0, .int .i64 0, .int .i64 0, .int .i64 0]) ?_ 0 _ rfl; exact BK10.out) Try.underlying30 rfl (by kernel_rfl)) rfl ?_
    exact ⟨rfl, below4 _ _ _ _ HB10.out HG2.out⟩
set_option maxHeartbeats 8000000 in
set_option maxRecDepth 100000 in
theorem sget_zero (k : Nat) (A0 : Option Addr) (c0 : Nat) (l0 : List Int) (w : World) (hr0 : Kd.C (Kd.int .u8) w A0 l0.length l0) (hc0 : l0.length ≤ c0) (tg ta tb tc : Int) (hl : l0.length = 256) (hm : (strOfNums (l0.take 4)).toList = ([76, 86, 69, 69] : List UInt8)) (ht1 : num_Get.f k (l0.drop 252) = some (IntKind.u64.wrap (Crc.sum (l0.take 252)))) (htg : num_Get.f k ((l0.take 12).drop 4) = some tg) (hta : num_Get.f k ((l0.take 14).drop 12) = some ta) (htb : num_Get.f k ((l0.take 16).drop 14) = some tb) (htc : num_Get.f k ((l0.take 18).drop 16) = some tc) (hr : super_Super_right.f k (wrap64 tg) (wrap64 ta) (wrap64 tb) (wrap64 tc) = some true) (hz : num_Zero.f k ((l0.take 252).drop 18) = some false) :
    Calls Try.prog 11 #[.slice A0 l0.length c0] w fun e w' => e = .returned (.tuple #[.agg #[.int .i64 0, .int .i64 0, .int .i64 0, .int .i64 0], .int .i64 8]) ∧ Below w.heap.size w w' := by
  have HCC := Aside0.mk hr0
  have HC0 := Aside0.mk hc0
  have huS := Try.underlying30
  have hb0 : ((l0.length : Int) == 256) = true := by rw [beq_iff_eq]; omega
  have hb1 : ((l0.length : Int) != 256) = false := by rw [bne_eq_false_iff_eq]; omega
  have hm0 : ((strOfNums (l0.take 4)).toList == ([76, 86, 69, 69] : List UInt8)) = true := by rw [beq_iff_eq]; exact hm
  have hm1 : ((strOfNums (l0.take 4)).toList != ([76, 86, 69, 69] : List UInt8)) = false := by rw [bne_eq_false_iff_eq]; exact hm
  have hs0 : (IntKind.u64.wrap (Crc.sum (l0.take 252)) == IntKind.u64.wrap (Crc.sum (l0.take 252))) = true := by rw [beq_iff_eq]
  have hs1 : (IntKind.u64.wrap (Crc.sum (l0.take 252)) != IntKind.u64.wrap (Crc.sum (l0.take 252))) = false := by rw [bne_eq_false_iff_eq]
  obtain ⟨hcut4, hC4, hlen4, hcap4⟩ := sg_take A0 c0 l0 4 4 rfl (by omega) hc0
  have HC4 := Aside0.mk (hC4 w hr0)
  have HL4 := Aside0.mk hlen4
  clear hC4 hcap4 hlen4
  obtain ⟨A5, hcut5, hC5, hlen5, hcap5⟩ := sg_drop A0 c0 l0 252 252 4 rfl (by omega) hc0
  have HC5 := Aside0.mk (hC5 w hr0)
  have HL5 := Aside0.mk hlen5
  have HK5 := Aside0.mk hcap5
  obtain ⟨hcut6, hC6, hlen6, hcap6⟩ := sg_take A0 c0 l0 252 252 rfl (by omega) hc0
  have HC6 := Aside0.mk (hC6 w hr0)
  have HL6 := Aside0.mk hlen6
  have HK6 := Aside0.mk hcap6
  clear hC5 hcap5 hlen5 hC6 hcap6 hlen6
  obtain ⟨A7, hcut7, hC7, hlen7, hcap7⟩ := sg_mid A0 c0 l0 4 12 4 12 8 rfl rfl rfl (by omega) hc0
  have HC7 := Aside0.mk (hC7 w hr0)
  have HL7 := Aside0.mk hlen7
  have HK7 := Aside0.mk hcap7
  obtain ⟨A8, hcut8, hC8, hlen8, hcap8⟩ := sg_mid A0 c0 l0 18 252 18 252 234 rfl rfl rfl (by omega) hc0
  have HC8 := Aside0.mk (hC8 w hr0)
  have HL8 := Aside0.mk hlen8
  have HK8 := Aside0.mk hcap8
  have HLL := Aside0.mk hl
  have HT1 := Aside0.mk ht1
  have HTg := Aside0.mk htg
  have HTa := Aside0.mk hta
  have HTb := Aside0.mk htb
  have HTc := Aside0.mk htc
  have HR := Aside0.mk hr
  have huG := Try.underlying23
  have hmf : ∀ (fn : Fn) (first cap : Array Value) (w : World), (Instr.makeFunc fn first cap).run Try.prog w = .ok (.func fn first cap) w := fun _ _ _ _ => rfl
  clear hC7 hlen7 hcap7 hC8 hlen8 hcap8
  have HZ := Aside0.mk hz
  clear hz
  clear hr0 hc0 hl hm ht1 htg hta htb htc hr
  go_enter Try.func11, Try.ntmps11
  go_wp2_with (first
    | ((with_reducible refine gate_dst (N := 1) rfl ?_); refine box_event ?hg (N := 1) ?hd (cs := #[.slice A0 l0.length c0]) (t := 26) ?hr ?_; (case hd => rfl); (case hg => rfl); (case hr => first | (go_simp; done) | (go_simp; rfl)); intro g1 hg1 w1 hx1 hb1; have HG := Aside0.mk (show w.heap.size ≤ g1 by omega); have HX := Aside0.mk hx1; have HB := Aside0.mk hb1; clear hx1 hb1 hg1)
    | ((with_reducible refine gate_dst (N := 2) rfl ?_); refine box_event ?hg (N := 2) ?hd (cs := #[.int .i64 0, .int .i64 0, .int .i64 0, .int .i64 0]) (t := 30) ?hr ?_; (case hd => rfl); (case hg => rfl); (case hr => first | (go_simp; done) | (go_simp; rfl)); intro g2 hg2 w2 hx2 hb2
       have n0_ := Aside0.mk (blk_below HX.out hb2); have n1_ := Aside0.mk (below_step HB.out hb2); have n2_ := Aside0.mk (show w.heap.size ≤ g2 by have := HB.out.size; omega); have n3_ := Aside0.mk (show g1 < g2 by have := blk_lt HX.out; omega); have BK := Aside0.mk hx2; clear HX HB hx2 hb2 hg2; have HX := n0_; have HB := n1_; have HG2 := n2_; have HNE := n3_; clear n0_ n1_ n2_ n3_
       have k0 := (blk_cell HX.out 0).trans (show _ = some (Value.slice A0 l0.length c0) from rfl)
       have f0 := blk_frozen BK.out 0; have f1 := blk_frozen BK.out 1; have f2 := blk_frozen BK.out 2; have f3 := blk_frozen BK.out 3
       have b0 := (blk_cell BK.out 0).trans (show _ = some (Value.int .i64 0) from rfl); have b1 := (blk_cell BK.out 1).trans (show _ = some (Value.int .i64 0) from rfl); have b2 := (blk_cell BK.out 2).trans (show _ = some (Value.int .i64 0) from rfl); have b3 := (blk_cell BK.out 3).trans (show _ = some (Value.int .i64 0) from rfl)
       have hcv := str_n A0 c0 4 (l0.take 4) HL4.out (Kd.C_below HC4.out HB.out)))
  have HXd := Aside0.mk (blk_drew HX.out)
  have HBd := Aside0.mk (below_drew HB.out)
  have BKd := Aside0.mk (blk_drew BK.out)
  clear HX HB BK k0 f0 f1 f2 f3 b0 b1 b2 b3 hcv
  have kd := (blk_cell HXd.out 0).trans (show _ = some (Value.slice A0 l0.length c0) from rfl)
  go_region_with (first
    | (go_at_call 28; go_loud (refine (get_n k A5 _ 4 (l0.drop 252) _ _ HL5.out (Kd.C_below HC5.out HBd.out) HK5.out HT1.out).mono ?_; rintro e w3 ⟨rfl, hb⟩; have HX3 := Aside0.mk (blk_below HXd.out hb); have HB3 := Aside0.mk (below_step HBd.out hb); have BK3 := Aside0.mk (blk_below BKd.out hb); clear hb; have k3 := (blk_cell HX3.out 0).trans (show _ = some (Value.slice A0 l0.length c0) from rfl); have f30 := blk_frozen BK3.out 0; have f31 := blk_frozen BK3.out 1; have f32 := blk_frozen BK3.out 2; have f33 := blk_frozen BK3.out 3; have z30 := (blk_cell BK3.out 0).trans (show _ = some (Value.int .i64 0) from rfl); have z31 := (blk_cell BK3.out 1).trans (show _ = some (Value.int .i64 0) from rfl); have z32 := (blk_cell BK3.out 2).trans (show _ = some (Value.int .i64 0) from rfl); have z33 := (blk_cell BK3.out 3).trans (show _ = some (Value.int .i64 0) from rfl)))
    | (go_at_call 24; go_loud (refine (sum_n A0 _ 252 (l0.take 252) _ HL6.out (Kd.C_below HC6.out HB3.out) HK6.out (by omega)).mono ?_; rintro e w4 ⟨rfl, hb⟩; have HX4 := Aside0.mk (blk_below HX3.out hb); have HB4 := Aside0.mk (below_step HB3.out hb); have BK4 := Aside0.mk (blk_below BK3.out hb); clear hb; have k4 := (blk_cell HX4.out 0).trans (show _ = some (Value.slice A0 l0.length c0) from rfl); have f40 := blk_frozen BK4.out 0; have f41 := blk_frozen BK4.out 1; have f42 := blk_frozen BK4.out 2; have f43 := blk_frozen BK4.out 3; have z40 := (blk_cell BK4.out 0).trans (show _ = some (Value.int .i64 0) from rfl); have z41 := (blk_cell BK4.out 1).trans (show _ = some (Value.int .i64 0) from rfl); have z42 := (blk_cell BK4.out 2).trans (show _ = some (Value.int .i64 0) from rfl); have z43 := (blk_cell BK4.out 3).trans (show _ = some (Value.int .i64 0) from rfl))))
  all_goals
    go_wp2_with (first
      | (go_at_call 28; go_loud (refine (get_n k A7 _ 8 ((l0.take 12).drop 4) tg _ HL7.out (Kd.C_below HC7.out HB4.out) HK7.out HTg.out).mono ?_; rintro e w5 ⟨rfl, hb⟩; have HX5 := Aside0.mk (blk_below HX4.out hb); have HB5 := Aside0.mk (below_step HB4.out hb); have BK5 := Aside0.mk (blk_below BK4.out hb); clear hb; have k5 := (blk_cell HX5.out 0).trans (show _ = some (Value.slice A0 l0.length c0) from rfl); have f50 := blk_frozen BK5.out 0; have f51 := blk_frozen BK5.out 1; have f52 := blk_frozen BK5.out 2; have f53 := blk_frozen BK5.out 3; have z50 := (blk_cell BK5.out 0).trans (show _ = some (Value.int .i64 0) from rfl); have z51 := (blk_cell BK5.out 1).trans (show _ = some (Value.int .i64 0) from rfl); have z52 := (blk_cell BK5.out 2).trans (show _ = some (Value.int .i64 0) from rfl); have z53 := (blk_cell BK5.out 3).trans (show _ = some (Value.int .i64 0) from rfl)))
      | (go_at_call 29; (with_reducible refine (short_12 k g1 A0 c0 l0 ta _ HLL.out (Kd.C_below HCC.out HB5.out) HC0.out HX5.out HTa.out).mono ?_); rintro e w6 ⟨rfl, hb⟩; have HX6 := Aside0.mk (blk_below HX5.out hb); have HB6 := Aside0.mk (below_step HB5.out hb); have BK6 := Aside0.mk (blk_below BK5.out hb); clear hb; have k6 := (blk_cell HX6.out 0).trans (show _ = some (Value.slice A0 l0.length c0) from rfl); have f60 := blk_frozen BK6.out 0; have f61 := blk_frozen BK6.out 1; have f62 := blk_frozen BK6.out 2; have f63 := blk_frozen BK6.out 3; have z60 := (blk_cell BK6.out 0).trans (show _ = some (Value.int .i64 0) from rfl); have z61 := (blk_cell BK6.out 1).trans (show _ = some (Value.int .i64 0) from rfl); have z62 := (blk_cell BK6.out 2).trans (show _ = some (Value.int .i64 0) from rfl); have z63 := (blk_cell BK6.out 3).trans (show _ = some (Value.int .i64 0) from rfl))
      | (go_at_call 29; (with_reducible refine (short_14 k g1 A0 c0 l0 tb _ HLL.out (Kd.C_below HCC.out HB6.out) HC0.out HX6.out HTb.out).mono ?_); rintro e w7 ⟨rfl, hb⟩; have HX7 := Aside0.mk (blk_below HX6.out hb); have HB7 := Aside0.mk (below_step HB6.out hb); have BK7 := Aside0.mk (blk_below BK6.out hb); clear hb; have k7 := (blk_cell HX7.out 0).trans (show _ = some (Value.slice A0 l0.length c0) from rfl); have f70 := blk_frozen BK7.out 0; have f71 := blk_frozen BK7.out 1; have f72 := blk_frozen BK7.out 2; have f73 := blk_frozen BK7.out 3; have z70 := (blk_cell BK7.out 0).trans (show _ = some (Value.int .i64 0) from rfl); have z71 := (blk_cell BK7.out 1).trans (show _ = some (Value.int .i64 0) from rfl); have z72 := (blk_cell BK7.out 2).trans (show _ = some (Value.int .i64 0) from rfl); have z73 := (blk_cell BK7.out 3).trans (show _ = some (Value.int .i64 0) from rfl))
      | (go_at_call 29; (with_reducible refine (short_16 k g1 A0 c0 l0 tc _ HLL.out (Kd.C_below HCC.out HB7.out) HC0.out HX7.out HTc.out).mono ?_); rintro e w8 ⟨rfl, hb⟩; have HX8 := Aside0.mk (blk_below HX7.out hb); have HB8 := Aside0.mk (below_step HB7.out hb); have BK8 := Aside0.mk (blk_below BK7.out hb); clear hb; have k8 := (blk_cell HX8.out 0).trans (show _ = some (Value.slice A0 l0.length c0) from rfl); have f80 := blk_frozen BK8.out 0; have f81 := blk_frozen BK8.out 1; have f82 := blk_frozen BK8.out 2; have f83 := blk_frozen BK8.out 3; have z80 := (blk_cell BK8.out 0).trans (show _ = some (Value.int .i64 0) from rfl); have z81 := (blk_cell BK8.out 1).trans (show _ = some (Value.int .i64 0) from rfl); have z82 := (blk_cell BK8.out 2).trans (show _ = some (Value.int .i64 0) from rfl); have z83 := (blk_cell BK8.out 3).trans (show _ = some (Value.int .i64 0) from rfl))
      | ((with_reducible refine gate_dst (N := 5) rfl ?_); refine box_event ?hg (N := 5) ?hd (cs := #[.int .i64 0, .int .i64 0, .int .i64 0, .int .i64 0]) (t := 30) ?hr ?_; (case hd => rfl); (case hg => rfl); (case hr => first | (go_simp; done) | (go_simp; rfl)); intro g5 hg5 w9 hx5 hb
         have HX9 := Aside0.mk (blk_below HX8.out hb); have HB9 := Aside0.mk (below_step HB8.out hb); have BK9 := Aside0.mk (blk_below BK8.out hb); have HG5 := Aside0.mk (show w.heap.size ≤ g5 by have := HB8.out.size; omega); have HN1 := Aside0.mk (show g1 < g5 by have := blk_lt HX8.out; omega); have HN2 := Aside0.mk (show g2 < g5 by have := blk_lt BK8.out; omega); have B5 := Aside0.mk hx5; clear hb hx5 hg5
         have fe0 := blk_frozen B5.out 0; have fe1 := blk_frozen B5.out 1; have fe2 := blk_frozen B5.out 2; have fe3 := blk_frozen B5.out 3
         have ze0 := (blk_cell B5.out 0).trans (show _ = some (Value.int .i64 0) from rfl); have ze1 := (blk_cell B5.out 1).trans (show _ = some (Value.int .i64 0) from rfl); have ze2 := (blk_cell B5.out 2).trans (show _ = some (Value.int .i64 0) from rfl); have ze3 := (blk_cell B5.out 3).trans (show _ = some (Value.int .i64 0) from rfl))
      | (go_at_call 22; go_loud (refine (super_Super_right.calls k (wrap64 tg) (wrap64 ta) (wrap64 tb) (wrap64 tc) true _ HR.out).mono ?_; rintro e w10 ⟨rfl, hb⟩; have HX10 := Aside0.mk (blk_below (far4 _ _ _ _ HX9.out (Nat.ne_of_lt HN1.out)) hb); have HB10 := Aside0.mk (below_step (below4 _ _ _ _ HB9.out HG5.out) hb); have BK10 := Aside0.mk (blk_below (far4 _ _ _ _ BK9.out (Nat.ne_of_lt HN2.out)) hb); have B10 := Aside0.mk (blk_below (put4 _ _ _ _ B5.out) hb); clear hb; have k10 := (blk_cell HX10.out 0).trans (show _ = some (Value.slice A0 l0.length c0) from rfl); have f100 := blk_frozen BK10.out 0; have f101 := blk_frozen BK10.out 1; have f102 := blk_frozen BK10.out 2; have f103 := blk_frozen BK10.out 3; have z100 := (blk_cell BK10.out 0).trans (show _ = some (Value.int .i64 0) from rfl); have z101 := (blk_cell BK10.out 1).trans (show _ = some (Value.int .i64 0) from rfl); have z102 := (blk_cell BK10.out 2).trans (show _ = some (Value.int .i64 0) from rfl); have z103 := (blk_cell BK10.out 3).trans (show _ = some (Value.int .i64 0) from rfl))))
    go_wp2_with (go_at_call 30; go_loud (refine (zero_n k A8 _ 234 ((l0.take 252).drop 18) false _ HL8.out (Kd.C_below HC8.out HB10.out) HK8.out HZ.out).mono ?_; rintro e w11 ⟨rfl, hb⟩; have HX11 := Aside0.mk (blk_below HX10.out hb); have HB11 := Aside0.mk (below_step HB10.out hb); have BK11 := Aside0.mk (blk_below BK10.out hb); have B11 := Aside0.mk (blk_below B10.out hb); clear hb; have f110 := blk_frozen BK11.out 0; have f111 := blk_frozen BK11.out 1; have f112 := blk_frozen BK11.out 2; have f113 := blk_frozen BK11.out 3; have z110 := (blk_cell BK11.out 0).trans (show _ = some (Value.int .i64 0) from rfl); have z111 := (blk_cell BK11.out 1).trans (show _ = some (Value.int .i64 0) from rfl); have z112 := (blk_cell BK11.out 2).trans (show _ = some (Value.int .i64 0) from rfl); have z113 := (blk_cell BK11.out 3).trans (show _ = some (Value.int .i64 0) from rfl); have e0 := (blk_cell B11.out 0).trans (show _ = some (Value.int .i64 (wrap64 tg)) from rfl); have e1 := (blk_cell B11.out 1).trans (show _ = some (Value.int .i64 (wrap64 ta)) from rfl); have e2 := (blk_cell B11.out 2).trans (show _ = some (Value.int .i64 (wrap64 tb)) from rfl); have e3 := (blk_cell B11.out 3).trans (show _ = some (Value.int .i64 (wrap64 tc)) from rfl)))
    refine bodyPost_ret (results_ct rfl _ _ g2 30 #[.int .i64 0, .int .i64 0, .int .i64 0, .int .i64 0] (0, 0) _ rfl (by refine blk_put (cs := #[.int .i64 0, .int .i64 0, .int .i64 0, .int .i64 0]) ?_ 3 _ rfl; refine blk_put (cs := #[.int .i64 0, .int .i64 0, .int .i64 0, .int .i64 0]) ?_ 2 _ rfl; refine blk_put (cs := #[.int .i64 0, .int .i64 0, .int .i64 0, .int .i64 0]) ?_ 1 _ rfl; refine blk_put (cs := #[.int .i64 0, .int .i64 0, .int .i64 0, .int .i64 0]) ?_ 0 _ rfl; exact BK11.out) Try.underlying30 rfl (by kernel_rfl)) rfl ?_
    exact ⟨rfl, below4 _ _ _ _ HB11.out HG2.out⟩
set_option maxHeartbeats 8000000 in
set_option maxRecDepth 100000 in
theorem sget_ok (k : Nat) (A0 : Option Addr) (c0 : Nat) (l0 : List Int) (w : World) (hr0 : Kd.C (Kd.int .u8) w A0 l0.length l0) (hc0 : l0.length ≤ c0) (tg ta tb tc : Int) (hl : l0.length = 256) (hm : (strOfNums (l0.take 4)).toList = ([76, 86, 69, 69] : List UInt8)) (ht1 : num_Get.f k (l0.drop 252) = some (IntKind.u64.wrap (Crc.sum (l0.take 252)))) (htg : num_Get.f k ((l0.take 12).drop 4) = some tg) (hta : num_Get.f k ((l0.take 14).drop 12) = some ta) (htb : num_Get.f k ((l0.take 16).drop 14) = some tb) (htc : num_Get.f k ((l0.take 18).drop 16) = some tc) (hr : super_Super_right.f k (wrap64 tg) (wrap64 ta) (wrap64 tb) (wrap64 tc) = some true) (hz : num_Zero.f k ((l0.take 252).drop 18) = some true) :
    Calls Try.prog 11 #[.slice A0 l0.length c0] w fun e w' => e = .returned (.tuple #[.agg #[.int .i64 (wrap64 tg), .int .i64 (wrap64 ta), .int .i64 (wrap64 tb), .int .i64 (wrap64 tc)], .int .i64 0]) ∧ Below w.heap.size w w' := by
  have HCC := Aside0.mk hr0
  have HC0 := Aside0.mk hc0
  have huS := Try.underlying30
  have hb0 : ((l0.length : Int) == 256) = true := by rw [beq_iff_eq]; omega
  have hb1 : ((l0.length : Int) != 256) = false := by rw [bne_eq_false_iff_eq]; omega
  have hm0 : ((strOfNums (l0.take 4)).toList == ([76, 86, 69, 69] : List UInt8)) = true := by rw [beq_iff_eq]; exact hm
  have hm1 : ((strOfNums (l0.take 4)).toList != ([76, 86, 69, 69] : List UInt8)) = false := by rw [bne_eq_false_iff_eq]; exact hm
  have hs0 : (IntKind.u64.wrap (Crc.sum (l0.take 252)) == IntKind.u64.wrap (Crc.sum (l0.take 252))) = true := by rw [beq_iff_eq]
  have hs1 : (IntKind.u64.wrap (Crc.sum (l0.take 252)) != IntKind.u64.wrap (Crc.sum (l0.take 252))) = false := by rw [bne_eq_false_iff_eq]
  obtain ⟨hcut4, hC4, hlen4, hcap4⟩ := sg_take A0 c0 l0 4 4 rfl (by omega) hc0
  have HC4 := Aside0.mk (hC4 w hr0)
  have HL4 := Aside0.mk hlen4
  clear hC4 hcap4 hlen4
  obtain ⟨A5, hcut5, hC5, hlen5, hcap5⟩ := sg_drop A0 c0 l0 252 252 4 rfl (by omega) hc0
  have HC5 := Aside0.mk (hC5 w hr0)
  have HL5 := Aside0.mk hlen5
  have HK5 := Aside0.mk hcap5
  obtain ⟨hcut6, hC6, hlen6, hcap6⟩ := sg_take A0 c0 l0 252 252 rfl (by omega) hc0
  have HC6 := Aside0.mk (hC6 w hr0)
  have HL6 := Aside0.mk hlen6
  have HK6 := Aside0.mk hcap6
  clear hC5 hcap5 hlen5 hC6 hcap6 hlen6
  obtain ⟨A7, hcut7, hC7, hlen7, hcap7⟩ := sg_mid A0 c0 l0 4 12 4 12 8 rfl rfl rfl (by omega) hc0
  have HC7 := Aside0.mk (hC7 w hr0)
  have HL7 := Aside0.mk hlen7
  have HK7 := Aside0.mk hcap7
  obtain ⟨A8, hcut8, hC8, hlen8, hcap8⟩ := sg_mid A0 c0 l0 18 252 18 252 234 rfl rfl rfl (by omega) hc0
  have HC8 := Aside0.mk (hC8 w hr0)
  have HL8 := Aside0.mk hlen8
  have HK8 := Aside0.mk hcap8
  have HLL := Aside0.mk hl
  have HT1 := Aside0.mk ht1
  have HTg := Aside0.mk htg
  have HTa := Aside0.mk hta
  have HTb := Aside0.mk htb
  have HTc := Aside0.mk htc
  have HR := Aside0.mk hr
  have huG := Try.underlying23
  have hmf : ∀ (fn : Fn) (first cap : Array Value) (w : World), (Instr.makeFunc fn first cap).run Try.prog w = .ok (.func fn first cap) w := fun _ _ _ _ => rfl
  clear hC7 hlen7 hcap7 hC8 hlen8 hcap8
  have HZ := Aside0.mk hz
  clear hz
  clear hr0 hc0 hl hm ht1 htg hta htb htc hr
  go_enter Try.func11, Try.ntmps11
  go_wp2_with (first
    | ((with_reducible refine gate_dst (N := 1) rfl ?_); refine box_event ?hg (N := 1) ?hd (cs := #[.slice A0 l0.length c0]) (t := 26) ?hr ?_; (case hd => rfl); (case hg => rfl); (case hr => first | (go_simp; done) | (go_simp; rfl)); intro g1 hg1 w1 hx1 hb1; have HG := Aside0.mk (show w.heap.size ≤ g1 by omega); have HX := Aside0.mk hx1; have HB := Aside0.mk hb1; clear hx1 hb1 hg1)
    | ((with_reducible refine gate_dst (N := 2) rfl ?_); refine box_event ?hg (N := 2) ?hd (cs := #[.int .i64 0, .int .i64 0, .int .i64 0, .int .i64 0]) (t := 30) ?hr ?_; (case hd => rfl); (case hg => rfl); (case hr => first | (go_simp; done) | (go_simp; rfl)); intro g2 hg2 w2 hx2 hb2
       have n0_ := Aside0.mk (blk_below HX.out hb2); have n1_ := Aside0.mk (below_step HB.out hb2); have n2_ := Aside0.mk (show w.heap.size ≤ g2 by have := HB.out.size; omega); have n3_ := Aside0.mk (show g1 < g2 by have := blk_lt HX.out; omega); have BK := Aside0.mk hx2; clear HX HB hx2 hb2 hg2; have HX := n0_; have HB := n1_; have HG2 := n2_; have HNE := n3_; clear n0_ n1_ n2_ n3_
       have k0 := (blk_cell HX.out 0).trans (show _ = some (Value.slice A0 l0.length c0) from rfl)
       have f0 := blk_frozen BK.out 0; have f1 := blk_frozen BK.out 1; have f2 := blk_frozen BK.out 2; have f3 := blk_frozen BK.out 3
       have b0 := (blk_cell BK.out 0).trans (show _ = some (Value.int .i64 0) from rfl); have b1 := (blk_cell BK.out 1).trans (show _ = some (Value.int .i64 0) from rfl); have b2 := (blk_cell BK.out 2).trans (show _ = some (Value.int .i64 0) from rfl); have b3 := (blk_cell BK.out 3).trans (show _ = some (Value.int .i64 0) from rfl)
       have hcv := str_n A0 c0 4 (l0.take 4) HL4.out (Kd.C_below HC4.out HB.out)))
  have HXd := Aside0.mk (blk_drew HX.out)
  have HBd := Aside0.mk (below_drew HB.out)
  have BKd := Aside0.mk (blk_drew BK.out)
  clear HX HB BK k0 f0 f1 f2 f3 b0 b1 b2 b3 hcv
  have kd := (blk_cell HXd.out 0).trans (show _ = some (Value.slice A0 l0.length c0) from rfl)
  go_region_with (first
    | (go_at_call 28; go_loud (refine (get_n k A5 _ 4 (l0.drop 252) _ _ HL5.out (Kd.C_below HC5.out HBd.out) HK5.out HT1.out).mono ?_; rintro e w3 ⟨rfl, hb⟩; have HX3 := Aside0.mk (blk_below HXd.out hb); have HB3 := Aside0.mk (below_step HBd.out hb); have BK3 := Aside0.mk (blk_below BKd.out hb); clear hb; have k3 := (blk_cell HX3.out 0).trans (show _ = some (Value.slice A0 l0.length c0) from rfl); have f30 := blk_frozen BK3.out 0; have f31 := blk_frozen BK3.out 1; have f32 := blk_frozen BK3.out 2; have f33 := blk_frozen BK3.out 3; have z30 := (blk_cell BK3.out 0).trans (show _ = some (Value.int .i64 0) from rfl); have z31 := (blk_cell BK3.out 1).trans (show _ = some (Value.int .i64 0) from rfl); have z32 := (blk_cell BK3.out 2).trans (show _ = some (Value.int .i64 0) from rfl); have z33 := (blk_cell BK3.out 3).trans (show _ = some (Value.int .i64 0) from rfl)))
    | (go_at_call 24; go_loud (refine (sum_n A0 _ 252 (l0.take 252) _ HL6.out (Kd.C_below HC6.out HB3.out) HK6.out (by omega)).mono ?_; rintro e w4 ⟨rfl, hb⟩; have HX4 := Aside0.mk (blk_below HX3.out hb); have HB4 := Aside0.mk (below_step HB3.out hb); have BK4 := Aside0.mk (blk_below BK3.out hb); clear hb; have k4 := (blk_cell HX4.out 0).trans (show _ = some (Value.slice A0 l0.length c0) from rfl); have f40 := blk_frozen BK4.out 0; have f41 := blk_frozen BK4.out 1; have f42 := blk_frozen BK4.out 2; have f43 := blk_frozen BK4.out 3; have z40 := (blk_cell BK4.out 0).trans (show _ = some (Value.int .i64 0) from rfl); have z41 := (blk_cell BK4.out 1).trans (show _ = some (Value.int .i64 0) from rfl); have z42 := (blk_cell BK4.out 2).trans (show _ = some (Value.int .i64 0) from rfl); have z43 := (blk_cell BK4.out 3).trans (show _ = some (Value.int .i64 0) from rfl))))
  all_goals
    go_wp2_with (first
      | (go_at_call 28; go_loud (refine (get_n k A7 _ 8 ((l0.take 12).drop 4) tg _ HL7.out (Kd.C_below HC7.out HB4.out) HK7.out HTg.out).mono ?_; rintro e w5 ⟨rfl, hb⟩; have HX5 := Aside0.mk (blk_below HX4.out hb); have HB5 := Aside0.mk (below_step HB4.out hb); have BK5 := Aside0.mk (blk_below BK4.out hb); clear hb; have k5 := (blk_cell HX5.out 0).trans (show _ = some (Value.slice A0 l0.length c0) from rfl); have f50 := blk_frozen BK5.out 0; have f51 := blk_frozen BK5.out 1; have f52 := blk_frozen BK5.out 2; have f53 := blk_frozen BK5.out 3; have z50 := (blk_cell BK5.out 0).trans (show _ = some (Value.int .i64 0) from rfl); have z51 := (blk_cell BK5.out 1).trans (show _ = some (Value.int .i64 0) from rfl); have z52 := (blk_cell BK5.out 2).trans (show _ = some (Value.int .i64 0) from rfl); have z53 := (blk_cell BK5.out 3).trans (show _ = some (Value.int .i64 0) from rfl)))
      | (go_at_call 29; (with_reducible refine (short_12 k g1 A0 c0 l0 ta _ HLL.out (Kd.C_below HCC.out HB5.out) HC0.out HX5.out HTa.out).mono ?_); rintro e w6 ⟨rfl, hb⟩; have HX6 := Aside0.mk (blk_below HX5.out hb); have HB6 := Aside0.mk (below_step HB5.out hb); have BK6 := Aside0.mk (blk_below BK5.out hb); clear hb; have k6 := (blk_cell HX6.out 0).trans (show _ = some (Value.slice A0 l0.length c0) from rfl); have f60 := blk_frozen BK6.out 0; have f61 := blk_frozen BK6.out 1; have f62 := blk_frozen BK6.out 2; have f63 := blk_frozen BK6.out 3; have z60 := (blk_cell BK6.out 0).trans (show _ = some (Value.int .i64 0) from rfl); have z61 := (blk_cell BK6.out 1).trans (show _ = some (Value.int .i64 0) from rfl); have z62 := (blk_cell BK6.out 2).trans (show _ = some (Value.int .i64 0) from rfl); have z63 := (blk_cell BK6.out 3).trans (show _ = some (Value.int .i64 0) from rfl))
      | (go_at_call 29; (with_reducible refine (short_14 k g1 A0 c0 l0 tb _ HLL.out (Kd.C_below HCC.out HB6.out) HC0.out HX6.out HTb.out).mono ?_); rintro e w7 ⟨rfl, hb⟩; have HX7 := Aside0.mk (blk_below HX6.out hb); have HB7 := Aside0.mk (below_step HB6.out hb); have BK7 := Aside0.mk (blk_below BK6.out hb); clear hb; have k7 := (blk_cell HX7.out 0).trans (show _ = some (Value.slice A0 l0.length c0) from rfl); have f70 := blk_frozen BK7.out 0; have f71 := blk_frozen BK7.out 1; have f72 := blk_frozen BK7.out 2; have f73 := blk_frozen BK7.out 3; have z70 := (blk_cell BK7.out 0).trans (show _ = some (Value.int .i64 0) from rfl); have z71 := (blk_cell BK7.out 1).trans (show _ = some (Value.int .i64 0) from rfl); have z72 := (blk_cell BK7.out 2).trans (show _ = some (Value.int .i64 0) from rfl); have z73 := (blk_cell BK7.out 3).trans (show _ = some (Value.int .i64 0) from rfl))
      | (go_at_call 29; (with_reducible refine (short_16 k g1 A0 c0 l0 tc _ HLL.out (Kd.C_below HCC.out HB7.out) HC0.out HX7.out HTc.out).mono ?_); rintro e w8 ⟨rfl, hb⟩; have HX8 := Aside0.mk (blk_below HX7.out hb); have HB8 := Aside0.mk (below_step HB7.out hb); have BK8 := Aside0.mk (blk_below BK7.out hb); clear hb; have k8 := (blk_cell HX8.out 0).trans (show _ = some (Value.slice A0 l0.length c0) from rfl); have f80 := blk_frozen BK8.out 0; have f81 := blk_frozen BK8.out 1; have f82 := blk_frozen BK8.out 2; have f83 := blk_frozen BK8.out 3; have z80 := (blk_cell BK8.out 0).trans (show _ = some (Value.int .i64 0) from rfl); have z81 := (blk_cell BK8.out 1).trans (show _ = some (Value.int .i64 0) from rfl); have z82 := (blk_cell BK8.out 2).trans (show _ = some (Value.int .i64 0) from rfl); have z83 := (blk_cell BK8.out 3).trans (show _ = some (Value.int .i64 0) from rfl))
      | ((with_reducible refine gate_dst (N := 5) rfl ?_); refine box_event ?hg (N := 5) ?hd (cs := #[.int .i64 0, .int .i64 0, .int .i64 0, .int .i64 0]) (t := 30) ?hr ?_; (case hd => rfl); (case hg => rfl); (case hr => first | (go_simp; done) | (go_simp; rfl)); intro g5 hg5 w9 hx5 hb
         have HX9 := Aside0.mk (blk_below HX8.out hb); have HB9 := Aside0.mk (below_step HB8.out hb); have BK9 := Aside0.mk (blk_below BK8.out hb); have HG5 := Aside0.mk (show w.heap.size ≤ g5 by have := HB8.out.size; omega); have HN1 := Aside0.mk (show g1 < g5 by have := blk_lt HX8.out; omega); have HN2 := Aside0.mk (show g2 < g5 by have := blk_lt BK8.out; omega); have B5 := Aside0.mk hx5; clear hb hx5 hg5
         have fe0 := blk_frozen B5.out 0; have fe1 := blk_frozen B5.out 1; have fe2 := blk_frozen B5.out 2; have fe3 := blk_frozen B5.out 3
         have ze0 := (blk_cell B5.out 0).trans (show _ = some (Value.int .i64 0) from rfl); have ze1 := (blk_cell B5.out 1).trans (show _ = some (Value.int .i64 0) from rfl); have ze2 := (blk_cell B5.out 2).trans (show _ = some (Value.int .i64 0) from rfl); have ze3 := (blk_cell B5.out 3).trans (show _ = some (Value.int .i64 0) from rfl))
      | (go_at_call 22; go_loud (refine (super_Super_right.calls k (wrap64 tg) (wrap64 ta) (wrap64 tb) (wrap64 tc) true _ HR.out).mono ?_; rintro e w10 ⟨rfl, hb⟩; have HX10 := Aside0.mk (blk_below (far4 _ _ _ _ HX9.out (Nat.ne_of_lt HN1.out)) hb); have HB10 := Aside0.mk (below_step (below4 _ _ _ _ HB9.out HG5.out) hb); have BK10 := Aside0.mk (blk_below (far4 _ _ _ _ BK9.out (Nat.ne_of_lt HN2.out)) hb); have B10 := Aside0.mk (blk_below (put4 _ _ _ _ B5.out) hb); clear hb; have k10 := (blk_cell HX10.out 0).trans (show _ = some (Value.slice A0 l0.length c0) from rfl); have f100 := blk_frozen BK10.out 0; have f101 := blk_frozen BK10.out 1; have f102 := blk_frozen BK10.out 2; have f103 := blk_frozen BK10.out 3; have z100 := (blk_cell BK10.out 0).trans (show _ = some (Value.int .i64 0) from rfl); have z101 := (blk_cell BK10.out 1).trans (show _ = some (Value.int .i64 0) from rfl); have z102 := (blk_cell BK10.out 2).trans (show _ = some (Value.int .i64 0) from rfl); have z103 := (blk_cell BK10.out 3).trans (show _ = some (Value.int .i64 0) from rfl))))
    go_wp2_with (go_at_call 30; go_loud (refine (zero_n k A8 _ 234 ((l0.take 252).drop 18) true _ HL8.out (Kd.C_below HC8.out HB10.out) HK8.out HZ.out).mono ?_; rintro e w11 ⟨rfl, hb⟩; have HX11 := Aside0.mk (blk_below HX10.out hb); have HB11 := Aside0.mk (below_step HB10.out hb); have BK11 := Aside0.mk (blk_below BK10.out hb); have B11 := Aside0.mk (blk_below B10.out hb); clear hb; have f110 := blk_frozen BK11.out 0; have f111 := blk_frozen BK11.out 1; have f112 := blk_frozen BK11.out 2; have f113 := blk_frozen BK11.out 3; have z110 := (blk_cell BK11.out 0).trans (show _ = some (Value.int .i64 0) from rfl); have z111 := (blk_cell BK11.out 1).trans (show _ = some (Value.int .i64 0) from rfl); have z112 := (blk_cell BK11.out 2).trans (show _ = some (Value.int .i64 0) from rfl); have z113 := (blk_cell BK11.out 3).trans (show _ = some (Value.int .i64 0) from rfl); have e0 := (blk_cell B11.out 0).trans (show _ = some (Value.int .i64 (wrap64 tg)) from rfl); have e1 := (blk_cell B11.out 1).trans (show _ = some (Value.int .i64 (wrap64 ta)) from rfl); have e2 := (blk_cell B11.out 2).trans (show _ = some (Value.int .i64 (wrap64 tb)) from rfl); have e3 := (blk_cell B11.out 3).trans (show _ = some (Value.int .i64 (wrap64 tc)) from rfl)))
    refine bodyPost_ret (results_ct rfl _ _ g2 30 #[.int .i64 (wrap64 tg), .int .i64 (wrap64 ta), .int .i64 (wrap64 tb), .int .i64 (wrap64 tc)] (0, 0) _ rfl (by refine blk_put (cs := #[.int .i64 (wrap64 tg), .int .i64 (wrap64 ta), .int .i64 (wrap64 tb), .int .i64 0]) ?_ 3 _ rfl; refine blk_put (cs := #[.int .i64 (wrap64 tg), .int .i64 (wrap64 ta), .int .i64 0, .int .i64 0]) ?_ 2 _ rfl; refine blk_put (cs := #[.int .i64 (wrap64 tg), .int .i64 0, .int .i64 0, .int .i64 0]) ?_ 1 _ rfl; refine blk_put (cs := #[.int .i64 0, .int .i64 0, .int .i64 0, .int .i64 0]) ?_ 0 _ rfl; exact BK11.out) Try.underlying30 rfl (by kernel_rfl)) rfl ?_
    exact ⟨rfl, below4 _ _ _ _ HB11.out HG2.out⟩
def super_Get.f (k : Nat) (l0 : List Int) : Option (Int × Int × Int × Int × Int) :=
  if l0.length = 256 then
    if (strOfNums (l0.take 4)).toList = ([76, 86, 69, 69] : List UInt8) then
      (num_Get.f k (l0.drop 252)).bind fun t1 =>
        if t1 = IntKind.u64.wrap (Crc.sum (l0.take 252)) then
          (num_Get.f k ((l0.take 12).drop 4)).bind fun tg => (num_Get.f k ((l0.take 14).drop 12)).bind fun ta => (num_Get.f k ((l0.take 16).drop 14)).bind fun tb => (num_Get.f k ((l0.take 18).drop 16)).bind fun tc =>
            (super_Super_right.f k (wrap64 tg) (wrap64 ta) (wrap64 tb) (wrap64 tc)).bind fun r =>
              if r = true then (num_Zero.f k ((l0.take 252).drop 18)).bind fun z => if z = true then some (wrap64 tg, wrap64 ta, wrap64 tb, wrap64 tc, 0) else some (0, 0, 0, 0, 8)
              else some (0, 0, 0, 0, 1)
        else some (0, 0, 0, 0, 7)
    else some (0, 0, 0, 0, 8)
  else some (0, 0, 0, 0, 4)
theorem super_Get.mono : ∀ a0 k, LeO (super_Get.f k a0) (super_Get.f (k + 1) a0) := by
  intro a0 k
  unfold super_Get.f
  refine LeO.ite (LeO.ite (LeO.bind (num_Get.mono _ _) fun _ => LeO.ite ?_ (LeO.refl _)) (LeO.refl _)) (LeO.refl _)
  refine LeO.bind (num_Get.mono _ _) fun _ => LeO.bind (num_Get.mono _ _) fun _ => LeO.bind (num_Get.mono _ _) fun _ => LeO.bind (num_Get.mono _ _) fun _ => LeO.bind (super_Super_right.mono _ _ _ _ _) fun _ => LeO.ite ?_ (LeO.refl _)
  exact LeO.bind (num_Zero.mono _ _) fun _ => LeO.refl _
theorem super_Get.calls (k : Nat) (A0 : Option Addr) (c0 : Nat) (l0 : List Int) (r1 r2 r3 r4 r5 : Int) (w : World) (hr0 : Kd.C (Kd.int .u8) w A0 l0.length l0) (hc0 : l0.length ≤ c0) (h : super_Get.f k l0 = some (r1, r2, r3, r4, r5)) :
    Calls Try.prog 11 #[.slice A0 l0.length c0] w fun e w' => e = .returned (.tuple #[.agg #[.int .i64 r1, .int .i64 r2, .int .i64 r3, .int .i64 r4], .int .i64 r5]) ∧ Below w.heap.size w w' := by
  unfold super_Get.f at h
  by_cases hl : l0.length = 256
  · rw [if_pos hl] at h
    by_cases hm : (strOfNums (l0.take 4)).toList = ([76, 86, 69, 69] : List UInt8)
    · rw [if_pos hm] at h
      obtain ⟨t1, ht1, h⟩ := Option.bind_eq_some_iff.mp h
      by_cases hs : t1 = IntKind.u64.wrap (Crc.sum (l0.take 252))
      · rw [if_pos hs] at h
        subst hs
        obtain ⟨tg, htg, h⟩ := Option.bind_eq_some_iff.mp h
        obtain ⟨ta, hta, h⟩ := Option.bind_eq_some_iff.mp h
        obtain ⟨tb, htb, h⟩ := Option.bind_eq_some_iff.mp h
        obtain ⟨tc, htc, h⟩ := Option.bind_eq_some_iff.mp h
        obtain ⟨r, hr, h⟩ := Option.bind_eq_some_iff.mp h
        cases r
        · rw [if_neg (by decide)] at h
          cases h
          exact sget_arg k A0 c0 l0 w hr0 hc0 tg ta tb tc hl hm ht1 htg hta htb htc hr
        · rw [if_pos rfl] at h
          obtain ⟨z, hz, h⟩ := Option.bind_eq_some_iff.mp h
          cases z
          · rw [if_neg (by decide)] at h
            cases h
            exact sget_zero k A0 c0 l0 w hr0 hc0 tg ta tb tc hl hm ht1 htg hta htb htc hr hz
          · rw [if_pos rfl] at h
            cases h
            exact sget_ok k A0 c0 l0 w hr0 hc0 tg ta tb tc hl hm ht1 htg hta htb htc hr hz
      · rw [if_neg hs] at h
        cases h
        exact sget_sum k A0 c0 l0 t1 w hr0 hc0 hl hm ht1 hs
    · rw [if_neg hm] at h
      cases h
      exact sget_form k A0 c0 l0 w hr0 hc0 hl hm
  · rw [if_neg hl] at h
    cases h
    exact sget_size k A0 c0 l0 w hr0 hc0 hl
end Go.Proofs.Ytjblkjknkemkdaa.P
