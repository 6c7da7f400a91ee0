/-
Plain laws on bytes, numbers cut out of them, and texts made of them.
Conditions: none.
-/
import Derived.Test.YtnlneiiccoakjaaNumI
namespace Go.Proofs.Ytnlneiiccoakjaa.Plain
open Go.RowKit Go.Proofs.YtnlneiiccoakjaaW.PrintWords Go.Proofs.YtnlneiiccoakjaaW.PrintLast Go.Proofs.YtnlneiiccoakjaaW.PrintMore Go.Proofs.Ytnlneiiccoakjaa.P Go.Proofs.Ytnlneiiccoakjaa.Num
theorem u64_range (x : Int) : 0 ≤ IntKind.u64.wrap x ∧ IntKind.u64.wrap x < 18446744073709551616 := by
  unfold IntKind.wrap
  simp [IntKind.bits, IntKind.signed]
  omega
theorem Bytes_u (k m : Nat) (n : Int) (hm : m ≤ 1000) (hk : m < k) : leveeref01_Bytes.f k (IntKind.u64.wrap n) m = some (putS (IntKind.u64.wrap n) m) := Bytes_eq k _ m (u64_range n).1 (u64_range n).2 hm hk
theorem loop_eq (b : ByteArray) : ∀ (d i : Nat) (r : List UInt8), i + d = b.size → ByteArray.toList.loop b i r = r.reverse ++ b.data.toList.drop i
  | 0, i, r, h => by
    have hs : b.data.toList.length = b.size := by rw [Array.length_toList]; rfl
    rw [ByteArray.toList.loop, if_neg (by omega), List.drop_of_length_le (by omega), List.append_nil]
  | d + 1, i, r, h => by
    have hs : b.data.toList.length = b.size := by rw [Array.length_toList]; rfl
    rw [ByteArray.toList.loop, if_pos (by omega), loop_eq b d (i + 1) _ (by omega)]
    have hi : i < b.data.toList.length := by omega
    rw [List.drop_eq_getElem_cons hi]
    simp only [List.reverse_cons, List.append_assoc, List.singleton_append]
    congr 2
    have h2 : i < b.data.size := by rw [← Array.length_toList]; omega
    simp only [ByteArray.get!, Array.getElem_toList]
    exact getElem!_pos b.data i h2
theorem toList_eq (b : ByteArray) : b.toList = b.data.toList := by
  unfold ByteArray.toList
  rw [loop_eq b b.size 0 [] (by omega)]
  rfl
theorem str_inj {a b : List Int} (ha : isBytes a) (hb : isBytes b) : (strOfNums a).toList = (strOfNums b).toList ↔ a = b := by
  refine ⟨fun h => ?_, fun h => by rw [h]⟩
  rw [toList_eq, toList_eq] at h
  have h' : a.map (fun n : Int => UInt8.ofNat n.toNat) = b.map (fun n : Int => UInt8.ofNat n.toNat) := h
  clear h
  induction a generalizing b with
  | nil =>
    cases b with
    | nil => rfl
    | cons y b => simp at h'
  | cons x a ih =>
    cases b with
    | nil => simp at h'
    | cons y b =>
      rw [List.map_cons, List.map_cons] at h'
      injection h' with h1 h2
      rw [ih (fun z hz => ha z (List.mem_cons_of_mem _ hz)) (fun z hz => hb z (List.mem_cons_of_mem _ hz)) h2]
      congr 1
      have hx := ha x (List.mem_cons_self ..)
      have hy := hb y (List.mem_cons_self ..)
      have h3 := congrArg UInt8.toNat h1
      rw [UInt8.toNat_ofNat', UInt8.toNat_ofNat'] at h3
      omega
def cutG (l : List Int) (a b : Nat) : Int := getS ((l.take b).drop a)
theorem cut_bytes {l : List Int} (h : isBytes l) (a b : Nat) : isBytes ((l.take b).drop a) := fun x hx => h x (List.mem_of_mem_take (List.mem_of_mem_drop hx))
theorem cut_length {l : List Int} {a b : Nat} (h : b ≤ l.length) : ((l.take b).drop a).length = b - a := by rw [List.length_drop, List.length_take, Nat.min_eq_left h]
theorem ref_cut (k : Nat) {l : List Int} (hb : isBytes l) (a b : Nat) (h : b ≤ l.length) (h8 : b - a ≤ 8) (hk : 8 < k) : leveeref01_Get.f k ((l.take b).drop a) = some (cutG l a b) := by
  rw [refGet_eq k _ (cut_bytes hb a b) hk, List.take_of_length_le (by rw [cut_length h]; omega)]
  rfl
theorem cut_range {l : List Int} (hb : isBytes l) (a b : Nat) (h : b ≤ l.length) : 0 ≤ cutG l a b ∧ cutG l a b < 256 ^ (b - a) := by
  have := getS_range _ (cut_bytes hb a b)
  rwa [cut_length h] at this
end Go.Proofs.Ytnlneiiccoakjaa.Plain
