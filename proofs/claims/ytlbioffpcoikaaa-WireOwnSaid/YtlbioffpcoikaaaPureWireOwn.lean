/- What is got is new memory: what becomes of the bytes, and of what was got, changes neither the other nor the message. -/
import Derived.Test.YtlbioffpcoikaaaWire8
import Derived.Test.YtlbioffpcoikaaaKindsW
import Derived.Test.YtlbioffpcoikaaaEOwn
namespace Go.Proofs.Ytlbioffpcoikaaa.Pure
open Go.RowKit Go.Proofs.Ytlbioffpcoikaaa.PW Go.Proofs.YtlbioffpcoikaaaW.PrintWords Go.Proofs.YtlbioffpcoikaaaW.PrintLast
set_option linter.unusedVariables false
set_option linter.unusedSimpArgs false
def add9 (x : S34) : S34 := ⟨x.f0, x.f1, x.f2, x.f3 ++ [9]⟩
theorem rd_map {es : List S34} {i : Int} (h0 : 0 ≤ i) (h1 : i < es.length) : rd_T34 (es.map add9) i = add9 (rd_T34 es i) := by
  have h : i.toNat < es.length := by omega
  unfold rd_T34
  rw [List.getD_eq_getElem?_getD, List.getD_eq_getElem?_getD, List.getElem?_map, List.getElem?_eq_getElem h]
  rfl
def part9 (es : List S34) (i : Int) : List S34 := (es.take i.toNat).map add9 ++ es.drop i.toNat
theorem part9_len (es : List S34) (i : Int) : (part9 es i).length = es.length := by
  unfold part9
  rw [List.length_append, List.length_map, List.length_take, List.length_drop]
  omega
theorem part9_rd {es : List S34} {i : Int} (h0 : 0 ≤ i) (h1 : i < es.length) : rd_T34 (part9 es i) i = rd_T34 es i := by
  have h : i.toNat < es.length := by omega
  unfold rd_T34 part9
  rw [List.getD_eq_getElem?_getD, List.getD_eq_getElem?_getD, List.getElem?_append_right (by rw [List.length_map, List.length_take]; omega), List.length_map, List.length_take, List.getElem?_drop]
  rw [show i.toNat + (i.toNat - min i.toNat es.length) = i.toNat by omega]
theorem part9_set {es : List S34} {i : Int} (h0 : 0 ≤ i) (h1 : i < es.length) : (part9 es i).set i.toNat (add9 (rd_T34 es i)) = part9 es (i + 1) := by
  have h : i.toNat < es.length := by omega
  have hx : rd_T34 es i = es[i.toNat] := by
    unfold rd_T34
    rw [List.getD_eq_getElem?_getD, List.getElem?_eq_getElem h]; rfl
  unfold part9
  rw [hx, show (i + 1).toNat = i.toNat + 1 by omega, List.take_succ_eq_append_getElem h, List.drop_eq_getElem_cons h, List.map_append]
  rw [List.set_append_right _ _ (by rw [List.length_map, List.length_take]; omega), List.length_map, List.length_take]
  rw [show i.toNat - min i.toNat es.length = 0 by omega, List.set_cons_zero, List.append_assoc]
  rfl
theorem part9_zero (es : List S34) : part9 es 0 = es := by simp [part9]
theorem part9_all (es : List S34) : part9 es es.length = es.map add9 := by
  unfold part9
  rw [Int.toNat_natCast, List.take_length, List.drop_length, List.append_nil]
section
variable (a0 a1 a2 a3 a4 a5 a6 a7 a8 : Int) (a9 : Bool) (es : List S34) (d : List Int)
theorem Own_l2 (hes : es.length ≤ 8) (hl : ∀ e ∈ es, e.f3.length ≤ 2048) (d2 : List Int) : ∀ (m k : Nat) (i : Int), 0 ≤ i → i + m = es.length → 2 * m + 1 < k →
    tollgatelaw02_WireOwn.l2 k i a0 a1 a2 a3 a4 a5 a6 a7 a8 a9 es d a0 a1 a2 a3 a4 a5 a6 a7 a8 a9 (es.map add9) d2 = some true
  | 0, k, i, h0, h1, hk => by
    obtain ⟨k, rfl⟩ : ∃ j, k = j + 1 + 1 := ⟨k - 2, by omega⟩
    rw [tollgatelaw02_WireOwn.l2, List.length_map, if_neg (by omega), tollgatelaw02_WireOwn.j4]
    simp [tollgatelaw02_live.f]
  | m + 1, k, i, h0, h1, hk => by
    obtain ⟨k, rfl⟩ : ∃ j, k = j + 1 + 1 := ⟨k - 2, by omega⟩
    have hi : i < es.length := by omega
    have hlen := hl _ (rd_T34_mem es i h0 hi)
    rw [tollgatelaw02_WireOwn.l2, List.length_map, if_pos (by omega), tollgatelaw02_WireOwn.j4, if_pos (by simpa using hi), if_pos h0, List.length_map, if_pos (by omega), if_pos hi, rd_map h0 hi]
    have e1 : ((add9 (rd_T34 es i)).f3.length : Int) = ((rd_T34 es i).f3.length : Int) + 1 := by simp [add9]
    have e2 : (add9 (rd_T34 es i)).f3.take ((rd_T34 es i).f3.length : Int).toNat = (rd_T34 es i).f3 := by simp [add9]
    rw [e1, wrap64_in (n := ((rd_T34 es i).f3.length : Int) + 1) (by omega), if_pos rfl, wrap64_in (n := ((rd_T34 es i).f3.length : Int) + 1 - 1) (by omega), show ((rd_T34 es i).f3.length : Int) + 1 - 1 = (rd_T34 es i).f3.length by omega]
    rw [if_pos (by omega), if_pos (by omega), e2, if_pos rfl, wrap64_in (by omega)]
    exact Own_l2 hes hl d2 m k (i + 1) (by omega) (by omega) (by omega)
theorem Own_l1 (hes : es.length ≤ 8) (hl : ∀ e ∈ es, e.f3.length ≤ 2048) (hd : d.length ≤ 32768) : ∀ (m k : Nat) (i : Int), 0 ≤ i → i + m = es.length → m + 2 * es.length + 3 < k →
    tollgatelaw02_WireOwn.l1 k i a0 a1 a2 a3 a4 a5 a6 a7 a8 a9 es d a0 a1 a2 a3 a4 a5 a6 a7 a8 a9 (part9 es i) d = some true
  | 0, k, i, h0, h1, hk => by
    obtain ⟨k, rfl⟩ : ∃ j, k = j + 1 := ⟨k - 1, by omega⟩
    obtain rfl : i = es.length := by omega
    rw [tollgatelaw02_WireOwn.l1, part9_len, if_neg (by omega), if_pos (by omega), part9_all]
    exact Own_l2 a0 a1 a2 a3 a4 a5 a6 a7 a8 a9 es d hes hl (d ++ [9]) es.length k 0 (by omega) (by omega) (by omega)
  | m + 1, k, i, h0, h1, hk => by
    obtain ⟨k, rfl⟩ : ∃ j, k = j + 1 := ⟨k - 1, by omega⟩
    have hi : i < es.length := by omega
    have hlen := hl _ (rd_T34_mem es i h0 hi)
    rw [tollgatelaw02_WireOwn.l1, part9_len, if_pos hi, if_pos h0, part9_rd h0 hi, if_pos (by omega), wrap64_in (by omega)]
    have := part9_set h0 hi
    unfold add9 at this
    rw [this]
    exact Own_l1 hes hl hd m k (i + 1) (by omega) (by omega) (by omega)
theorem Own_l0 (hes : es.length ≤ 8) (hl : ∀ e ∈ es, e.f3.length ≤ 2048) (hd : d.length ≤ 32768) : ∀ (m k : Nat) (x3 : List Int) (i : Int), 0 ≤ i → i + m = x3.length → x3.length ≤ 200000 → m + 40 < k →
    tollgatelaw02_WireOwn.l0 k x3 0 i a0 a1 a2 a3 a4 a5 a6 a7 a8 a9 es d a0 a1 a2 a3 a4 a5 a6 a7 a8 a9 es d = some true
  | 0, k, x3, i, h0, h1, hx, hk => by
    obtain ⟨k, rfl⟩ : ∃ j, k = j + 1 + 1 := ⟨k - 2, by omega⟩
    have L : Lens es d := ⟨by omega, by omega, fun x hx => by have := hl x hx; omega⟩
    rw [tollgatelaw02_WireOwn.l0, if_neg (by omega), if_pos rfl, SameMsg_f L (by omega)]
    simp only [Option.bind_some, Bool.not_true]
    rw [tollgatelaw02_WireOwn.j1, if_neg (by decide)]
    have := Own_l1 a0 a1 a2 a3 a4 a5 a6 a7 a8 a9 es d hes hl hd es.length k 0 (by omega) (by omega) (by omega)
    rw [part9_zero] at this
    exact this
  | m + 1, k, x3, i, h0, h1, hx, hk => by
    obtain ⟨k, rfl⟩ : ∃ j, k = j + 1 := ⟨k - 1, by omega⟩
    rw [tollgatelaw02_WireOwn.l0, if_pos (by omega), if_pos h0, wrap64_in (by omega)]
    exact Own_l0 hes hl hd m k _ (i + 1) (by omega) (by rw [List.length_set]; omega) (by rw [List.length_set]; exact hx) (by omega)
end
theorem WireOwn_pure (x : S40) (g : Good40 x) : ∃ k, tollgatelaw02_WireOwn.f k x.f0 x.f1 x.f2 x.f3 x.f4 x.f5 x.f6 x.f7 x.f8 x.f9 x.f10 x.f11 = some true := by
  have L := lens_good g
  have hL := L.le
  obtain ⟨K, hK⟩ : ∃ K, K = 200041 := ⟨_, rfl⟩
  refine ⟨K, ?_⟩
  unfold tollgatelaw02_WireOwn.f wire_PutMsg.f
  rw [if_pos (by omega)]
  simp only [Option.bind_some]
  by_cases h : msgErr x.f0 x.f1 x.f2 x.f3 x.f4 x.f5 x.f6 x.f7 x.f8 x.f10 x.f11 = 0
  · obtain ⟨hA, hM⟩ := msgErr_zero.1 h
    have hlen := msgBytes_len (a9 := x.f9) hA hM
    have hb := msgBytes_ok (a9 := x.f9) hA hM (okBytes_mem (okBytes_wf g.2.2.2.2.2.2.2.2.2.2.2.2.2)) (fun e he => okBytes_mem (okBytes_wf (g.2.2.2.2.2.2.2.2.2.2.1.2.2 e he).2.2.2.2.2))
    have hp := refMsg_put (a9 := x.f9) [] hA hM
    rw [List.append_nil, if_pos rfl] at hp
    obtain ⟨l1, l2, l3⟩ := msgLim_ok hM
    rw [putMsg, if_pos h]
    simp only [if_true]
    unfold wire_GetMsg.f
    rw [if_pos ⟨hb, by omega⟩, hp]
    simp only [Option.bind_some]
    exact Own_l0 _ _ _ _ _ _ _ _ _ _ _ _ l1 l3 l2 (msgBytes x.f0 x.f1 x.f2 x.f3 x.f4 x.f5 x.f6 x.f7 x.f8 x.f9 x.f10 x.f11).length _ _ 0 (by omega) (by omega) (by omega) (by omega)
  · rw [putMsg, if_neg h]
    simp only
    rw [if_neg h]
    simp [tollgatelaw02_live.f]
end Go.Proofs.Ytlbioffpcoikaaa.Pure
