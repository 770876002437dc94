/- The reference's disk in memory; its find. -/
import Derived.Test.YtmmiipnmimjojaaR2
import Derived.Test.YtmmiipnmimjojaaQ4
import Derived.Test.YtmmiipnmimjojaaN1
namespace Go.Proofs.Ytmmiipnmimjojaa.PS
open Go.RowKit Go.Proofs.YtmmiipnmimjojaaW.PrintWords Go.Proofs.YtmmiipnmimjojaaW.PrintLast Go.Proofs.YtmmiipnmimjojaaW.PrintMore
open Go.Maps Go.Proofs.Ytmmiipnmimjojaa.PD
set_option linter.unusedVariables false
set_option linter.unusedSimpArgs false
/-- The reference's disk in block r: its room and its files; R: its blocks. -/
structure RefAt (W : World) (R : Nat → Prop) (r : Nat) (room : Int) (l : List S144) : Prop where
  own : R r
  lt : ∀ k, R k → k < W.heap.size
  cells : ∃ A c, W.heap[r]? = some (.cells #[.int .i64 room, .slice A l.length c] 140 (0, 0)) ∧ Kd.V k144 144 W 0 (fun k => R k ∧ k ≠ r) (.slice A l.length c) l
section
variable {W W1 w' : World} {R R1 P : Nat → Prop} {r : Nat} {room : Int} {l : List S144}
theorem RefAt.step (h : RefAt W R r room l) (hs : W.heap.size ≤ W1.heap.size) (hm : ∀ k, R k → W1.heap[k]? = W.heap[k]?) : RefAt W1 R r room l := by
  obtain ⟨A, c, hh, hv⟩ := h.cells
  exact ⟨h.own, fun k hk => Nat.lt_of_lt_of_le (h.lt k hk) hs, A, c, (hm r h.own).trans hh, Kd.V_step hv (fun k hk _ => hm k hk.1)⟩
theorem RefAt.below (h : RefAt W R r room l) (hb : Below W.heap.size W W1) : RefAt W1 R r room l := h.step hb.size (fun k hk => hb.block k (h.lt k hk))
theorem RefAt.kp (h : RefAt W R r room l) (k : Kp W W1 P) (hP : ∀ k, R k → ¬ P k) : RefAt W1 R r room l := h.step k.size (fun i hi => k.block i (h.lt i hi) (hP i hi))
/-- A new row is laid into the disk's cell. -/
theorem RefAt.set {A : Option Addr} {c : Nat} {l' : List S144} (h : RefAt W R r room l) (hb : Below W.heap.size W W1) (hv : Kd.V k144 144 W1 0 (fun k => (R k ∧ k ≠ r) ∨ (W.heap.size ≤ k ∧ k < W1.heap.size)) (.slice A l'.length c) l') :
    RefAt (W1.setCell ⟨r, 1, none⟩ (.slice A l'.length c)) (Nw W W1 R) r room l' ∧ Kp W (W1.setCell ⟨r, 1, none⟩ (.slice A l'.length c)) (fun k => k = r) := by
  obtain ⟨A0, c0, hh, _⟩ := h.cells
  have hlt := h.lt r h.own
  have hr1 := (hb.block r hlt).trans hh
  have hs := hb.size
  refine ⟨⟨.inl h.own, fun k hk => ?_, A, c, ?_, ?_⟩, (Kp.of_below hb (fun k => k = r)).setCell (p := ⟨r, 1, none⟩) (.inl rfl) _⟩
  · rw [set_size]
    rcases hk with hk | hk
    · exact Nat.lt_of_lt_of_le (h.lt k hk) hs
    · exact hk.2
  · simpa using blk_set hr1 1 (.slice A l'.length c)
  · refine Kd.V_far (Kd.V_mono hv (fun k hk => ?_)) (p := ⟨r, 1, none⟩) (fun k hk => hk.2) _
    rcases hk with hk | hk
    · exact ⟨.inl hk.1, hk.2⟩
    · exact ⟨.inr hk, by omega⟩
end
/-- One file of a row, as it is read. -/
structure FilR (W : World) (ok : Nat → Prop) (A : Option Addr) (i : Int) (f : S144) (ad : Addr) (A2 : Option Addr) (c2 : Nat) (A3 : Option Addr) (c3 : Nat) : Prop where
  at_ : A = some ad
  name : W.cell? (ad.add (i.toNat * 4)) = some (.string f.f0)
  lasts : W.cell? ⟨(ad.add (i.toNat * 4)).block, (ad.add (i.toNat * 4)).off + 1, none⟩ = some (.bool f.f1)
  sure : W.cell? ⟨(ad.add (i.toNat * 4)).block, (ad.add (i.toNat * 4)).off + 2, none⟩ = some (.slice A2 f.f2.length c2)
  units : W.cell? ⟨(ad.add (i.toNat * 4)).block, (ad.add (i.toNat * 4)).off + 3, none⟩ = some (.slice A3 f.f3.length c3)
  vs : Kd.V (Kd.int .u8) 5 W 0 ok (.slice A2 f.f2.length c2) f.f2
  vu : Kd.V k166 166 W 0 ok (.slice A3 f.f3.length c3) f.f3
theorem filR_of {W : World} {ok : Nat → Prop} {A : Option Addr} {c : Nat} {l : List S144} {i : Int} {f : S144} (h : Kd.V k144 144 W 0 ok (.slice A l.length c) l) (h0 : 0 ≤ i) (h1 : i < l.length) (hf : rd_T144 l i = f) :
    ∃ ad A2 c2 A3 c3, FilR W ok A i f ad A2 c2 A3 c3 := by
  obtain ⟨ad, A2, c2, A3, c3, e, x0, x1, x2, x3, l2, i2, l3, i3⟩ := at_T144 (Kd.V_reads' h).2.2 i h0 h1
  subst e
  obtain ⟨ce, hce, hMe, hcc⟩ := Kd.V_get h z144 i h0 h1
  obtain ⟨ua2, uc2, ua3, uc3, rfl, ul2, ge2, ul3, ge3⟩ := k144_openF hMe
  have hv2 := hcc 2 _ rfl
  rw [add_field _ _ 2 (by omega)] at hv2
  replace hv2 := Option.some.inj (hv2.symm.trans x2)
  injection hv2 with hva hvn hvc
  rw [hva] at ge2
  rw [hvc] at ul2
  have hv3 := hcc 3 _ rfl
  rw [add_field _ _ 3 (by omega)] at hv3
  replace hv3 := Option.some.inj (hv3.symm.trans x3)
  injection hv3 with hva3 hvn3 hvc3
  rw [hva3] at ge3
  rw [hvc3] at ul3
  subst hf
  exact ⟨ad, A2, c2, A3, c3, rfl, x0, x1, x2, x3, Kd.V_mk ul2 ge2, Kd.V_mk ul3 ge3⟩
theorem findR_step (s : ByteArray) (l : List S144) {i : Int} (h0 : 0 ≤ i) (h1 : i < l.length) : findR s (l.drop i.toNat) i.toNat = if (rd_T144 l i).f0 = s then i else findR s (l.drop (i + 1).toNat) (i + 1).toNat := by
  rw [drop_rd4 h0 h1]
  show (if _ then ((i.toNat : Nat) : Int) else findR s _ (i.toNat + 1)) = _
  rw [show ((i.toNat : Nat) : Int) = i by omega, show (i + 1).toNat = i.toNat + 1 by omega]
theorem findR_end (s : ByteArray) (l : List S144) {i : Int} (h1 : (l.length : Int) ≤ i) : findR s (l.drop i.toNat) i.toNat = -1 := by
  rw [List.drop_eq_nil_of_le (by omega)]
  rfl
set_option maxHeartbeats 1000000 in
set_option maxRecDepth 100000 in
theorem rfind_calls {W : World} {R : Nat → Prop} {r : Nat} {room : Int} {l : List S144} (s : ByteArray) (h : RefAt W R r room l) (hl : l.length ≤ 1000000000) :
    Calls Try.prog 86 #[.pointer (some ⟨r, 0, none⟩), .string s] W fun e w' => e = .returned (.int .i64 (findR s l 0)) ∧ W = w' := by
  obtain ⟨A, c, hh, hv⟩ := h.cells
  have hc1 : W.cell? ⟨r, 1, none⟩ = some (.slice A l.length c) := blk_cell hh 1
  have HV := Aside0.mk hv
  clear h hh hv
  obtain ⟨x, hx⟩ : ∃ x, findR s l 0 = x := ⟨_, rfl⟩
  rw [hx]
  have HX := Aside0.mk hx
  clear hx
  go_enter Try.func86, Try.ntmps86
  go_wp2_with fail
  go_loopg [5] l.length (fun kq v5 w' => ∃ i : Int, v5 = .int .i64 i ∧ 0 ≤ i ∧ i + kq = l.length ∧ Aside0 (findR s (l.drop i.toNat) i.toNat = x) ∧ W = w')
  case atStart => exact ⟨0, rfl, by omega, by omega, ⟨HX.out⟩, rfl⟩
  case round =>
    obtain ⟨i, rfl, i0, i1, HF, rfl⟩ := hrel
    by_cases hi : i < (l.length : Int)
    · have c6 : decide (i < (l.length : Int)) = true := decide_eq_true hi
      have hst := findR_step s l i0 hi
      rw [HF.out] at hst
      obtain ⟨f, hf⟩ : ∃ f, rd_T144 l i = f := ⟨_, rfl⟩
      obtain ⟨ad, A2, c2, A3, c3, hr⟩ := filR_of HV.out i0 hi hf
      obtain rfl := hr.at_
      have hx0 := hr.name
      rw [hf] at hst
      have p0 := eq_true i0
      have p1 := eq_true hi
      have hni : IntKind.i64.wrap (i + 1) = i + 1 := IntWalk.i64_in _ ⟨by omega, by omega⟩
      have HST := Aside0.mk hst
      clear hst hr hf
      by_cases e : f.f0 = s
      · have he : (f.f0.toList == s.toList) = true := by rw [beq_str]; exact decide_eq_true e
        have hxi : x = i := by rw [HST.out, if_pos e]
        subst hxi
        clear e HX HF HST
        go_wp2_with fail
        go_ret
        exact ⟨rfl, rfl⟩
      · have he : (f.f0.toList == s.toList) = false := by rw [beq_str]; exact decide_eq_false e
        have HE := Aside0.mk e
        clear e
        go_wp2_with fail
        go_roundg (gk - 1)
        case measure => omega
        case rel => exact ⟨i + 1, rfl, by omega, by omega, ⟨by rw [HST.out, if_neg HE.out]⟩, rfl⟩
    · have c6 : decide (i < (l.length : Int)) = false := decide_eq_false hi
      have hxi : x = -1 := by rw [← HF.out]; exact findR_end s l (by omega)
      subst hxi
      go_wp2_with fail
      go_ret
      exact ⟨rfl, rfl⟩
end Go.Proofs.Ytmmiipnmimjojaa.PS
