/-
Plain laws on entries: what dirent's and the reference's right, Put, Get and Read tell, as one function each.
Conditions: none.
-/
import Derived.Test.YtjlacfhmjjjpiaaDirentName
import Derived.Test.YtjlacfhmjjjpiaaHandDirent2
import Derived.Test.YtjlacfhmjjjpiaaPx2
import Derived.Test.YtjlacfhmjjjpiaaPx2
import Derived.Test.YtjlacfhmjjjpiaaPx3
import Derived.Test.YtjlacfhmjjjpiaaPx6
import Derived.Test.YtjlacfhmjjjpiaaPx8
namespace Go.Proofs.Ytjlacfhmjjjpiaa.Dirent
open Go.RowKit Go.Proofs.YtjlacfhmjjjpiaaW.PrintWords Go.Proofs.YtjlacfhmjjjpiaaW.PrintLast Go.Proofs.YtjlacfhmjjjpiaaW.PrintMore Go.Proofs.Ytjlacfhmjjjpiaa.P Go.Proofs.Ytjlacfhmjjjpiaa.Num Go.Proofs.Ytjlacfhmjjjpiaa.Plain
/-- Whether an entry can be. -/
def rightS (a : Int) (b : Bool) (s : ByteArray) : Bool := (a == 0 && (!b && (s.toList == ([] : List UInt8)))) || (decide (1 ≤ a ∧ a ≤ 1023) && nameS s)
theorem dRight_eq (k : Nat) (a : Int) (b : Bool) (s : ByteArray) : dirent_right.f k a b s = some (rightS a b s) := by
  unfold dirent_right.f rightS dirent_Name.f
  by_cases h : (a == 0 && (!b && (s.toList == ([] : List UInt8)))) = true
  · rw [if_pos h, h]
    rfl
  · rw [if_neg h, Bool.eq_false_iff.mpr h, Bool.false_or]
    by_cases h1 : a ≥ 1
    · rw [if_pos h1]
      by_cases h2 : a ≤ 1023
      · rw [if_pos h2, decide_eq_true ⟨h1, h2⟩]
        rfl
      · rw [if_neg h2, decide_eq_false (fun h => h2 h.2)]
        rfl
    · rw [if_neg h1, decide_eq_false (fun h => h1 h.1)]
      rfl
theorem rRight_eq (k : Nat) (a : Int) (b : Bool) (s : ByteArray) (hs : s.size ≤ 9223372036854775807) (hk : s.size + 1 < k) : leveeref08_Right.f k a b s = some (rightS a b s) := by
  unfold leveeref08_Right.f rightS
  by_cases h0 : a = 0
  · subst h0
    rw [if_pos rfl]
    cases b
    · rw [if_neg (by decide)]
      simp
    · rw [if_pos rfl]
      simp
  · have e0 : (a == 0) = false := beq_eq_false_iff_ne.mpr h0
    rw [if_neg h0, e0, Bool.false_and, Bool.false_or]
    by_cases h1 : a ≥ 1
    · rw [if_pos h1]
      by_cases h2 : a ≤ 1023
      · rw [if_pos h2, refName_eq k s hs hk, decide_eq_true ⟨h1, h2⟩]
        rfl
      · rw [if_neg h2, decide_eq_false (fun h => h2 h.2)]
        rfl
    · rw [if_neg h1, decide_eq_false (fun h => h1 h.1)]
      rfl
theorem name_size {s : ByteArray} (h : nameS s = true) : s.size ≤ 24 := by
  unfold nameS at h
  simp only [Bool.and_eq_true, decide_eq_true_eq] at h
  omega
theorem right_iff {a : Int} {b : Bool} {s : ByteArray} : rightS a b s = true ↔ (a = 0 ∧ b = false ∧ s.toList = []) ∨ (1 ≤ a ∧ a ≤ 1023 ∧ nameS s = true) := by
  unfold rightS
  cases b <;> simp [and_assoc]
theorem right_small {a : Int} {b : Bool} {s : ByteArray} (h : rightS a b s = true) : s.size ≤ 24 ∧ 0 ≤ a ∧ a ≤ 1023 := by
  rcases right_iff.mp h with ⟨h1, _, h2⟩ | ⟨h1, h2, h3⟩
  · have h3 := toList_length s
    rw [h2] at h3
    simp at h3
    omega
  · have := name_size h3
    omega
/-- An entry's bytes. -/
def bytesE (a : Int) (b : Bool) (s : ByteArray) : List Int := [dig (IntKind.u64.wrap a) 0, dig (IntKind.u64.wrap a) 1, (if b = true then 1 else 0), (s.size : Int) % 256] ++ bytesOf s ++ List.replicate (28 - s.size) 0
theorem bytesE_length (a : Int) (b : Bool) (s : ByteArray) (h : s.size ≤ 28) : (bytesE a b s).length = 32 := by
  simp [bytesE, bytesOf_length]
  omega
theorem isBytes_append {l m : List Int} (hl : isBytes l) (hm : isBytes m) : isBytes (l ++ m) := by
  intro x hx
  rcases List.mem_append.mp hx with h | h
  · exact hl x h
  · exact hm x h
theorem isBytes_zeros (n : Nat) : isBytes (List.replicate n 0) := by
  intro x hx
  rw [(List.mem_replicate.mp hx).2]
  omega
theorem bytesOf_bytes (s : ByteArray) : isBytes (bytesOf s) := by
  intro x hx
  obtain ⟨b, _, rfl⟩ := List.mem_map.mp hx
  have := b.toNat_lt
  omega
theorem bytesE_bytes (a : Int) (b : Bool) (s : ByteArray) : isBytes (bytesE a b s) := by
  refine isBytes_append (isBytes_append ?_ (bytesOf_bytes s)) (isBytes_zeros _)
  intro x hx
  have h0 := dig_range (IntKind.u64.wrap a) 0
  have h1 := dig_range (IntKind.u64.wrap a) 1
  simp only [List.mem_cons, List.not_mem_nil, or_false] at hx
  rcases hx with rfl | rfl | rfl | rfl
  · exact h0
  · exact h1
  · cases b
    · exact ⟨by decide, by decide⟩
    · exact ⟨by decide, by decide⟩
  · omega
theorem splice_zeros (A M : List Int) (off m n q : Nat) (hA : A.length = off) (hM : M.length = m) (hq : q = m + n) : splice (A ++ List.replicate q 0) off M = A ++ M ++ List.replicate n 0 := by
  subst hA hM hq
  simp [splice, List.drop_append]
theorem entL_eq (a : Int) (b : Bool) (s : ByteArray) (h : s.size ≤ 28) : entL a b s = bytesE a b s := by
  have e1 : List.set (if b = true then List.set (splice (List.replicate 32 0) 0 (putV (IntKind.u64.wrap a) 2)) 2 1 else splice (List.replicate 32 0) 0 (putV (IntKind.u64.wrap a) 2)) 3 ((s.size : Int) % 256) = [dig (IntKind.u64.wrap a) 0, dig (IntKind.u64.wrap a) 1, (if b = true then 1 else 0), (s.size : Int) % 256] ++ List.replicate 28 0 := by
    cases b <;> rfl
  unfold entL bytesE
  rw [e1]
  exact splice_zeros _ _ 4 s.size (28 - s.size) 28 rfl (bytesOf_length s) (by omega)
theorem dPut_eq (k : Nat) (a : Int) (b : Bool) (s : ByteArray) : dirent_Put.f k a b s = some (if rightS a b s = true then (bytesE a b s, 0) else ([], 1)) := by
  unfold dirent_Put.f
  rw [dRight_eq, Option.bind_some]
  by_cases h : rightS a b s = true
  · have := (right_small h).1
    rw [if_pos h, if_pos h, entL_eq a b s (by omega)]
  · rw [if_neg h, if_neg h]
theorem rPut_l0 : ∀ (d k : Nat) (l : List Int), l.length + d = 32 → leveeref08_Put.l0 (k + d + 1) l = some (l ++ List.replicate d 0, 0)
  | 0, k, l, h => by
    unfold leveeref08_Put.l0
    rw [if_neg (by omega), List.replicate_zero, List.append_nil]
  | d + 1, k, l, h => by
    rw [show k + (d + 1) + 1 = (k + d + 1) + 1 from rfl]
    unfold leveeref08_Put.l0
    rw [if_pos (by omega), if_pos (by omega), rPut_l0 d k (l ++ [0]) (by simp; omega), List.replicate_succ, List.append_assoc l [0], List.singleton_append]
theorem rPut_eq (k : Nat) (a : Int) (b : Bool) (s : ByteArray) (hs : s.size ≤ 9223372036854775807) (hk : s.size + 100 < k) : leveeref08_Put.f k a b s = some (if rightS a b s = true then (bytesE a b s, 0) else ([], 1)) := by
  unfold leveeref08_Put.f
  rw [rRight_eq k a b s hs (by omega), Option.bind_some]
  by_cases h : rightS a b s = true
  · have hsz := (right_small h).1
    obtain ⟨m, rfl⟩ : ∃ m, k = m + 1 := ⟨k - 1, by omega⟩
    obtain ⟨j, hj0⟩ : ∃ j, m = j + (28 - s.size) + 1 := ⟨m - (28 - s.size) - 1, by omega⟩
    have hj : ∀ f : Int, leveeref08_Put.j0 (m + 1) (putS (IntKind.u64.wrap a) 2 ++ [f]) a b s = some (putS (IntKind.u64.wrap a) 2 ++ [f] ++ [(s.size : Int) % 256] ++ bytesOf s ++ List.replicate (28 - s.size) 0, 0) := by
      intro f
      have hl : (putS (IntKind.u64.wrap a) 2 ++ [f]).length = 3 := by rw [List.length_append, putS_length]; rfl
      have hl2 : (putS (IntKind.u64.wrap a) 2 ++ [f] ++ [(s.size : Int) % 256]).length = 4 := by rw [List.length_append, hl]; rfl
      show (if (putS (IntKind.u64.wrap a) 2 ++ [f]).length < 140737488355328 then ((some (putS (IntKind.u64.wrap a) 2 ++ [f] ++ [(s.size : Int) % 256] : List Int)).bind fun y124 => (if y124.length + s.size < 140737488355328 then (leveeref08_Put.l0 m (y124 ++ bytesOf s)) else none)) else none) = _
      rw [if_pos (by omega), Option.bind_some, if_pos (by omega), hj0, rPut_l0 (28 - s.size) j _ (by rw [List.length_append, hl2, bytesOf_length]; omega)]
    rw [if_pos h, if_pos h, Bytes_2 _ _ (by omega), Option.bind_some]
    cases b
    · rw [if_neg (by decide), if_pos (by rw [putS_length]; decide), hj]
      rfl
    · rw [if_pos rfl, if_pos (by rw [putS_length]; decide), hj]
      rfl
  · rw [if_neg h, if_neg h]
theorem getElem_cut (l : List Int) (i : Nat) (h : i < l.length) : (l.take (i + 1)).drop i = [l[i]] := by
  rw [List.take_succ_eq_append_getElem h, List.drop_left' (by rw [List.length_take]; omega)]
theorem str_bytes (s : ByteArray) : strOfNums (bytesOf s) = s := by
  have h : (strOfNums (bytesOf s)).data.toList = s.data.toList := by
    show (bytesOf s).map (fun n : Int => UInt8.ofNat n.toNat) = _
    unfold bytesOf
    rw [List.map_map]
    refine (List.map_congr_left fun x _ => ?_).trans (List.map_id _)
    show UInt8.ofNat ((x.toNat : Int).toNat) = x
    rw [Int.toNat_natCast, UInt8.ofNat_toNat]
  have h2 : (strOfNums (bytesOf s)).data = s.data := Array.toList_inj.mp h
  cases s
  cases h3 : strOfNums (bytesOf _)
  rw [h3] at h2
  exact congrArg ByteArray.mk h2
theorem bytes_str {l : List Int} (h : isBytes l) : bytesOf (strOfNums l) = l := by
  have h1 : (strOfNums l).data.toList = l.map (fun n : Int => UInt8.ofNat n.toNat) := rfl
  unfold bytesOf
  rw [h1, List.map_map]
  refine (List.map_congr_left fun x hx => ?_).trans (List.map_id l)
  have h2 := h x hx
  show (((UInt8.ofNat x.toNat).toNat : Nat) : Int) = x
  rw [UInt8.toNat_ofNat']
  omega
theorem str_size (l : List Int) : (strOfNums l).size = l.length := by
  have h1 : (strOfNums l).data.toList = l.map (fun n : Int => UInt8.ofNat n.toNat) := rfl
  have h2 := data_length (strOfNums l)
  rw [h1, List.length_map] at h2
  omega
theorem take_cut (l : List Int) (a b : Nat) (h : a ≤ b) : l.take a ++ (l.take b).drop a = l.take b := by
  have h1 : (l.take b).take a = l.take a := by rw [List.take_take, Nat.min_eq_left h]
  rw [← h1, List.take_append_drop]
theorem zeroS_iff (l : List Int) : zeroS l = true ↔ l = List.replicate l.length 0 := by
  unfold zeroS
  rw [List.all_eq_true]
  constructor
  · intro h
    exact List.eq_replicate_iff.mpr ⟨rfl, fun x hx => by simpa using h x hx⟩
  · intro h x hx
    have := (List.eq_replicate_iff.mp h).2 x hx
    simpa using this
/-- The entry that so many bytes say. -/
def slotE (l : List Int) : Int := getS (l.take 2)
def leaveE (l : List Int) : Bool := rd l 2 == 1
def nameE (l : List Int) : ByteArray := strOfNums ((l.take (4 + (rd l 3).toNat)).drop 4)
def getE (l : List Int) : Int × Bool × ByteArray × Int :=
  if l.length = 32 then
    if rd l 3 ≤ 24 ∧ rd l 2 ≤ 1 ∧ zeroS (l.drop (4 + (rd l 3).toNat)) = true ∧ rightS (slotE l) (leaveE l) (nameE l) = true then (slotE l, leaveE l, nameE l, 0) else (0, false, ⟨#[]⟩, 8)
  else (0, false, ⟨#[]⟩, 4)
theorem rd_range {l : List Int} (hb : isBytes l) (i : Nat) (h : i < l.length) : 0 ≤ rd l (i : Int) ∧ rd l (i : Int) < 256 := by
  rw [rd_eq l i h]
  exact hb _ (List.getElem_mem h)
theorem slot_range {l : List Int} (hb : isBytes l) (h : 2 ≤ l.length) : 0 ≤ slotE l ∧ slotE l < 65536 := by
  have h1 := getS_range _ (isBytes_take hb 2)
  rw [List.length_take, Nat.min_eq_left h] at h1
  exact h1
theorem dget_j0 (k : Nat) (x0 : List Int) (x4 : Int) (x31 : Bool) : dirent_Get.j0 (k + 1) x0 x4 x31 = if x31 = true then (some (0, false, (⟨#[]⟩ : ByteArray), 8)) else (if 2 ≤ (x0.length : Int) then ((num_Get.f k (x0.take 2)).bind fun t141 => (if 2 < (x0.length : Int) then (if 4 ≤ x4 then (if x4 ≤ (x0.length : Int) then ((dirent_right.f k (wrap64 (t141)) ((rd x0 2) == 1) (strOfNums ((x0.take (x4 : Int).toNat).drop 4))).bind fun t145 => (if t145 = true then (some (wrap64 (t141), ((rd x0 2) == 1), strOfNums ((x0.take (x4 : Int).toNat).drop 4), 0)) else (some (0, false, (⟨#[]⟩ : ByteArray), 8)))) else (none)) else (none)) else (none))) else (none)) := rfl
theorem dGet_eq (k : Nat) (hk : 100 ≤ k) (l : List Int) (hb : isBytes l) : dirent_Get.f k l = some (getE l) := by
  unfold dirent_Get.f getE
  by_cases hl : l.length = 32
  · obtain ⟨k, rfl⟩ : ∃ m, k = m + 1 := ⟨k - 1, by omega⟩
    have h3 : 0 ≤ rd l 3 ∧ rd l 3 < 256 := rd_range hb 3 (by omega)
    have h2 : 0 ≤ rd l 2 ∧ rd l 2 < 256 := rd_range hb 2 (by omega)
    have hs := slot_range hb (by omega)
    have hN : (4 + rd l 3).toNat = 4 + (rd l 3).toNat := by omega
    have hj : ∀ x : Bool, rd l 3 ≤ 28 → dirent_Get.j0 (k + 1) l (4 + rd l 3) x = some (if x = false ∧ rightS (slotE l) (leaveE l) (nameE l) = true then (slotE l, leaveE l, nameE l, 0) else (0, false, ⟨#[]⟩, 8)) := by
      intro x h28
      rw [dget_j0]
      cases x
      · rw [if_neg (by decide), if_pos (by omega), Get_eq k _ (isBytes_take hb 2) (by omega), Option.bind_some, List.take_of_length_le (l := l.take 2) (i := 8) (by rw [List.length_take]; omega), if_pos (by omega), if_pos (by omega), if_pos (by omega), show getS (l.take 2) = slotE l from rfl, w64 (x := slotE l) (by omega) (by omega), hN, dRight_eq, Option.bind_some]
        show (if rightS (slotE l) (leaveE l) (nameE l) = true then some (slotE l, leaveE l, nameE l, 0) else some (0, false, ⟨#[]⟩, 8)) = _
        by_cases hr : rightS (slotE l) (leaveE l) (nameE l) = true
        · rw [if_pos hr, if_pos ⟨rfl, hr⟩]
        · rw [if_neg hr, if_neg (fun h => hr h.2)]
      · rw [if_pos rfl, if_neg (fun h => by cases h.1)]
    rw [if_pos (by omega), if_pos hl, if_pos (by omega), if_pos (by omega), w64 (x := rd l 3) (by omega) (by omega), w64 (x := 4 + rd l 3) (by omega) (by omega)]
    by_cases g2 : rd l 2 > 1
    · rw [if_pos g2, if_neg (fun h => by have := h.2.1; omega)]
      rw [dget_j0, if_pos rfl]
    · rw [if_neg g2]
      by_cases g3 : 4 + rd l 3 > (l.length : Int)
      · rw [if_pos g3, if_neg (fun h => by have := h.1; omega)]
        rw [dget_j0, if_pos rfl]
      · rw [if_neg g3, if_pos (by omega), if_pos (by omega), hN, Zero_eq (k + 1) _ (fun x hx => hb x (List.mem_of_mem_drop hx)) (by rw [List.length_drop]; omega) (by rw [List.length_drop]; omega), Option.bind_some, hj _ (by omega)]
        have hsz : (nameE l).size = (rd l 3).toNat := by
          unfold nameE
          rw [str_size, List.length_drop, List.length_take]
          omega
        by_cases hc : rd l 3 ≤ 24 ∧ rd l 2 ≤ 1 ∧ zeroS (l.drop (4 + (rd l 3).toNat)) = true ∧ rightS (slotE l) (leaveE l) (nameE l) = true
        · rw [if_pos hc, if_pos ⟨by rw [hc.2.2.1]; rfl, hc.2.2.2⟩]
        · rw [if_neg hc, if_neg]
          rintro ⟨h5, h6⟩
          have h7 := (right_small h6).1
          exact hc ⟨by omega, by omega, by simpa using h5, h6⟩
  · rw [if_neg (by omega), if_neg hl]
theorem U_id {x : Int} (h0 : 0 ≤ x) (h1 : x < 65536) : IntKind.u64.wrap x = x := u64_wrap h0 (by omega)
/-- Bytes and the bytes of the entry that they say: the same, if they can be. -/
theorem bytes_back {l : List Int} (hb : isBytes l) (hl : l.length = 32) (h24 : rd l 3 ≤ 24) : bytesE (slotE l) (leaveE l) (nameE l) = l ↔ rd l 2 ≤ 1 ∧ zeroS (l.drop (4 + (rd l 3).toNat)) = true := by
  have h3 : 0 ≤ rd l 3 ∧ rd l 3 < 256 := rd_range hb 3 (by omega)
  have h2 : 0 ≤ rd l 2 ∧ rd l 2 < 256 := rd_range hb 2 (by omega)
  have hs := slot_range hb (by omega)
  have hP := putS_getS _ (isBytes_take hb 2)
  rw [List.length_take, Nat.min_eq_left (by omega)] at hP
  have hP2 : [dig (IntKind.u64.wrap (slotE l)) 0, dig (IntKind.u64.wrap (slotE l)) 1] = l.take 2 := by
    rw [U_id hs.1 hs.2, ← hP]
    rfl
  have hsz : (nameE l).size = (rd l 3).toNat := by
    unfold nameE
    rw [str_size, List.length_drop, List.length_take]
    omega
  have hn : bytesOf (nameE l) = (l.take (4 + (rd l 3).toNat)).drop 4 := by
    unfold nameE
    exact bytes_str (cut_bytes hb 4 _)
  have e2 : rd l 2 = l[2] := rd_eq l 2 (by omega)
  have e3 : rd l 3 = l[3] := rd_eq l 3 (by omega)
  have hk : bytesE (slotE l) (leaveE l) (nameE l) = l.take 2 ++ [(if leaveE l = true then 1 else 0)] ++ [rd l 3] ++ (l.take (4 + (rd l 3).toNat)).drop 4 ++ List.replicate (28 - (rd l 3).toNat) 0 := by
    unfold bytesE
    rw [hn, hsz, ← hP2, show (((rd l 3).toNat : Nat) : Int) % 256 = rd l 3 by omega]
    rfl
  have hspl : l = l.take 2 ++ [l[2]] ++ [l[3]] ++ (l.take (4 + (rd l 3).toNat)).drop 4 ++ l.drop (4 + (rd l 3).toNat) := by
    have t2 := take_cut l 2 3 (by omega)
    have t3 := take_cut l 3 4 (by omega)
    have t4 := take_cut l 4 (4 + (rd l 3).toNat) (by omega)
    rw [show (3 : Nat) = 2 + 1 from rfl, getElem_cut l 2 (by omega)] at t2
    rw [show (4 : Nat) = 3 + 1 from rfl, getElem_cut l 3 (by omega)] at t3
    rw [t2, t3, t4, List.take_append_drop]
  have hd : (l.drop (4 + (rd l 3).toNat)).length = 28 - (rd l 3).toNat := by rw [List.length_drop]; omega
  rw [zeroS_iff, hd, hk]
  generalize hD : l.drop (4 + (rd l 3).toNat) = D at *
  generalize hM : (l.take (4 + (rd l 3).toNat)).drop 4 = M at *
  generalize hT : l.take 2 = T at *
  have hl2 : (l[2]'(by omega) = if leaveE l = true then 1 else 0) ↔ rd l 2 ≤ 1 := by
    unfold leaveE
    rw [← e2]
    by_cases h : rd l 2 = 1
    · rw [h]; decide
    · have e : (rd l 2 == 1) = false := beq_eq_false_iff_ne.mpr h
      rw [e, if_neg (by decide)]
      omega
  constructor
  · intro h
    have h4 := h.trans hspl
    simp only [List.append_assoc, List.singleton_append] at h4
    have h5 := List.append_cancel_left h4
    injection h5 with h6 h7
    injection h7 with _ h8
    have h9 := List.append_cancel_left h8
    exact ⟨hl2.mp h6.symm, (List.append_cancel_left h9).symm⟩
  · rintro ⟨h5, h6⟩
    refine Eq.trans ?_ hspl.symm
    rw [← h6, hl2.mpr h5, e3]
theorem rGet_eq (k : Nat) (hk : 300 ≤ k) (l : List Int) (hb : isBytes l) : leveeref08_Get.f k l = some (getE l) := by
  unfold leveeref08_Get.f getE
  by_cases hl : l.length = 32
  · have h3 : 0 ≤ rd l 3 ∧ rd l 3 < 256 := rd_range hb 3 (by omega)
    have hs := slot_range hb (by omega)
    rw [if_pos (by omega), if_pos hl, if_pos (by omega)]
    by_cases h24 : rd l 3 > 24
    · rw [if_pos h24, if_neg (fun h => by have := h.1; omega)]
    · have hm : (4 + rd l 3) % 256 = 4 + rd l 3 := by omega
      have hN : (4 + rd l 3).toNat = 4 + (rd l 3).toNat := by omega
      have hsz : (nameE l).size = (rd l 3).toNat := by
        unfold nameE
        rw [str_size, List.length_drop, List.length_take]
        omega
      rw [if_neg h24, if_pos (by omega), refGet_eq k _ (isBytes_take hb 2) (by omega), Option.bind_some, List.take_of_length_le (l := l.take 2) (i := 8) (by rw [List.length_take]; omega), if_pos (by omega), hm, if_pos (by omega), if_pos (by omega), show getS (l.take 2) = slotE l from rfl, w64 (x := slotE l) (by omega) (by omega), hN]
      show ((leveeref08_Put.f k (slotE l) (leaveE l) (nameE l)).bind fun bt155 => (if bt155.2 = 0 then (if (strOfNums bt155.1).toList = (strOfNums l).toList then (some (slotE l, leaveE l, nameE l, 0)) else (some (0, false, (⟨#[]⟩ : ByteArray), 8))) else (some (0, false, (⟨#[]⟩ : ByteArray), 8)))) = _
      rw [rPut_eq k _ _ _ (by omega) (by omega), Option.bind_some]
      by_cases hr : rightS (slotE l) (leaveE l) (nameE l) = true
      · rw [if_pos hr, if_pos rfl]
        have h6 := (str_inj (bytesE_bytes (slotE l) (leaveE l) (nameE l)) hb).trans (bytes_back hb hl (by omega))
        by_cases h5 : rd l 2 ≤ 1 ∧ zeroS (l.drop (4 + (rd l 3).toNat)) = true
        · rw [if_pos (h6.mpr h5), if_pos ⟨by omega, h5.1, h5.2, hr⟩]
        · rw [if_neg (fun h => h5 (h6.mp h)), if_neg (fun h => h5 ⟨h.2.1, h.2.2.1⟩)]
      · rw [if_neg hr, if_neg (by decide), if_neg (fun h => hr h.2.2.2)]
  · rw [if_neg (by omega), if_neg hl]
/-- What is put is got as it was. -/
theorem get_put {a : Int} {b : Bool} {s : ByteArray} (h : rightS a b s = true) : getE (bytesE a b s) = (a, b, s, 0) := by
  obtain ⟨h1, h2, h3⟩ := right_small h
  have hl := bytesE_length a b s (by omega)
  have hb := bytesE_bytes a b s
  have e3 : rd (bytesE a b s) 3 = (s.size : Int) := by
    show (s.size : Int) % 256 = _
    omega
  have e2 : rd (bytesE a b s) 2 = if b = true then 1 else 0 := rfl
  have eN : (rd (bytesE a b s) 3).toNat = s.size := by rw [e3]; rfl
  have eslot : slotE (bytesE a b s) = a := by
    show getS (putS (IntKind.u64.wrap a) 2) = a
    rw [U_id h2 (by omega), getS_putS]
    omega
  have eleave : leaveE (bytesE a b s) = b := by
    unfold leaveE
    rw [e2]
    cases b <;> rfl
  have hA : ([dig (IntKind.u64.wrap a) 0, dig (IntKind.u64.wrap a) 1, (if b = true then 1 else 0), (s.size : Int) % 256] ++ bytesOf s).length = 4 + s.size := by rw [List.length_append, bytesOf_length]; rfl
  have ename : nameE (bytesE a b s) = s := by
    unfold nameE
    rw [eN]
    unfold bytesE
    rw [List.take_left' hA]
    show strOfNums (bytesOf s) = s
    exact str_bytes s
  have ez : zeroS ((bytesE a b s).drop (4 + (rd (bytesE a b s) 3).toNat)) = true := by
    rw [eN]
    unfold bytesE
    rw [List.drop_left' hA, zeroS_iff, List.length_replicate]
  unfold getE
  rw [if_pos hl, eslot, eleave, ename, if_pos ⟨by omega, by rw [e2]; cases b <;> decide, ez, h⟩]
/-- The entry at a place. -/
def readE (l : List Int) (p : Int) : Int × Bool × ByteArray × Int := if l.length = 256 then (if 0 ≤ p ∧ p < 8 then getE (cut32 l p) else (0, false, ⟨#[]⟩, 3)) else (0, false, ⟨#[]⟩, 4)
theorem cut32_bytes {l : List Int} (h : isBytes l) (p : Int) : isBytes (cut32 l p) := cut_bytes h _ _
theorem dRead_eq (k : Nat) (hk : 100 ≤ k) (l : List Int) (hb : isBytes l) (p : Int) : dirent_Read.f k l p = some (readE l p) := by
  unfold dirent_Read.f readE
  by_cases hl : l.length = 256
  · rw [if_pos hl, if_pos hl]
    by_cases hp : 0 ≤ p ∧ p < 8
    · rw [if_pos hp, if_pos hp, dGet_eq k hk _ (cut32_bytes hb p)]
    · rw [if_neg hp, if_neg hp]
  · rw [if_neg hl, if_neg hl]
theorem rRead_eq (k : Nat) (hk : 300 ≤ k) (l : List Int) (hb : isBytes l) (p : Int) : leveeref08_Read.f k l p = some (readE l p) := by
  unfold leveeref08_Read.f readE
  by_cases hl : l.length = 256
  · rw [if_pos (by omega), if_pos hl]
    by_cases h0 : p < 0
    · rw [if_pos h0, if_neg (by omega)]
    · rw [if_neg h0]
      by_cases h7 : p > 7
      · rw [if_pos h7, if_neg (by omega)]
      · have hc : (l.take (32 * p + 32).toNat).drop (32 * p).toNat = cut32 l p := by
          unfold cut32
          rw [Int.mul_comm 32 p]
        rw [if_neg h7, w64 (x := 32 * p) (by omega) (by omega), w64 (x := 32 * p + 32) (by omega) (by omega), if_pos (by omega), if_pos (by omega), if_pos (by omega), if_pos (by omega), hc, rGet_eq k hk _ (cut32_bytes hb p), Option.bind_some]
  · rw [if_neg (by omega), if_neg hl]
end Go.Proofs.Ytjlacfhmjjjpiaa.Dirent
