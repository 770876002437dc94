/- disk.Used: how many bytes all files have. -/
import Derived.Test.YtmmiipnmimjojaaD1
namespace Go.Proofs.Ytmmiipnmimjojaa.PS
open Go.RowKit Go.Proofs.YtmmiipnmimjojaaW.PrintWords Go.Proofs.YtmmiipnmimjojaaW.PrintLast Go.Proofs.YtmmiipnmimjojaaW.PrintMore
open Go.Maps Go.Proofs.Ytmmiipnmimjojaa.PD
set_option linter.unusedVariables false
set_option linter.unusedSimpArgs false
theorem key9_inv {key : Value} {kl : Lit} (h : keyOf Try.prog 9 key = some kl) : ∃ s : ByteArray, key = .string s ∧ kl = .string s.data.toList := by
  have hk := Try.underlying9
  cases key <;> simp [keyOf, hk, mapKey] at h
  obtain ⟨_, rfl⟩ := h
  exact ⟨_, rfl, rfl⟩
theorem ptr_inv {v : Value} {y : DataW Unit × List MemPlace} (h : ptrElem v = some y) : ∃ c : Option Addr, v = .pointer c := by
  unfold ptrElem at h
  split at h
  · exact ⟨_, rfl⟩
  · exact ⟨_, rfl⟩
  · cases h
theorem dOf_hit {L : List (Nm × Nat)} {n : Nm} {y : DataW Unit} (h : ∀ zd, (dOf L).atKey (.string n) zd = y) : ∃ b, aget n L = some b ∧ y = .lit (.int .i64 b) := by
  cases hg : aget n L with
  | none =>
    have h1 := h .nil
    have h2 := h (.lit (.int .i64 0))
    rw [dOf_at, hg] at h1 h2
    simp only at h1 h2
    rw [← h1] at h2
    cases h2
  | some b =>
    refine ⟨b, rfl, ?_⟩
    have h1 := h .nil
    rw [dOf_at, hg] at h1
    exact h1.symm
theorem Nodup_keys {T : Tb} (h : Srt T) : T.Pairwise fun p q => p.1 ≠ q.1 := h.imp fun h => nlt_ne h
/-- The bytes of the files that are no more to come. -/
def usum (left : Lit → Bool) : Tb → Nat
  | [] => 0
  | e :: T => (if left (.string e.1) = true then 0 else e.2.2.f0.length) + usum left T
def usedB (l : List (Nm × Fil)) : Nat := (l.map fun p => p.2.f0.length).sum
theorem usum_zero {left : Lit → Bool} : ∀ {T : Tb}, (∀ e ∈ T, left (.string e.1) = true) → usum left T = 0
  | [], _ => rfl
  | e :: T, h => by rw [usum, if_pos (h e (.head _)), usum_zero (fun q hq => h q (.tail _ hq))]
theorem usum_done {left : Lit → Bool} (h : ∀ k, left k = false) : ∀ T : Tb, usum left T = usedB (tfil T)
  | [] => rfl
  | e :: T => by
    rw [usum, h, usum_done h T]
    show _ = (e.2.2.f0.length :: _).sum
    rw [List.sum_cons]; rfl
theorem usum_le {left : Lit → Bool} : ∀ T : Tb, usum left T ≤ usedB (tfil T)
  | [] => Nat.le_refl _
  | e :: T => by
    have := usum_le (left := left) T
    rw [usum]
    show _ ≤ (e.2.2.f0.length :: _).sum
    rw [List.sum_cons]
    unfold usedB tfil amap at this
    split <;> omega
theorem usum_same {left left' : Lit → Bool} : ∀ {T : Tb}, (∀ e ∈ T, left' (.string e.1) = left (.string e.1)) → usum left' T = usum left T
  | [], _ => rfl
  | e :: T, h => by rw [usum, usum, h e (.head _), usum_same (fun q hq => h q (.tail _ hq))]
theorem usum_step {left : Lit → Bool} {n : Nm} {b : Nat} {f : Fil} (hl : left (.string n) = true) : ∀ {T : Tb}, Srt T → (n, b, f) ∈ T → usum (fun z => left z && !z.sameKey (.string n)) T = usum left T + f.f0.length
  | e :: T, hs, hm => by
    obtain ⟨h1, h2⟩ := List.pairwise_cons.1 hs
    rw [usum, usum]
    rcases List.mem_cons.1 hm with rfl | hm
    · have hrest : usum (fun z => left z && !z.sameKey (.string n)) T = usum left T := usum_same fun q hq => by
        have := nlt_ne (h1 q hq)
        have e : (q.1 == n) = false := by simpa using fun e => this e.symm
        simp [same_str, e]
      have he : (left (.string n) && !(Lit.string n).sameKey (.string n)) = false := by rw [same_str]; simp
      rw [hrest, if_neg (by rw [he]; decide), if_pos hl]
      dsimp only
      omega
    · have hne : (Lit.string e.1).sameKey (.string n) = false := by rw [same_str]; simpa using nlt_ne (h1 _ hm)
      have he : (left (.string e.1) && !(Lit.string e.1).sameKey (.string n)) = left (.string e.1) := by rw [hne]; simp
      rw [usum_step hl h2 hm]
      by_cases hle : left (.string e.1) = true
      · rw [if_pos (by rw [he]; exact hle), if_pos hle]; omega
      · rw [if_neg (by rw [he]; exact hle), if_neg hle]; omega
theorem dOf_left (L : List (Nm × Nat)) : ∀ p ∈ L, Maps.has (dOf L) (.string p.1) = true := by
  intro p hp
  rw [dOf_has]
  cases h : aget p.1 L with
  | none => exact absurd rfl (aget_none.1 h p hp)
  | some b => rfl
theorem FilAt.cells {W : World} {S : Nat → Prop} {own : Nat → Nat} {b : Nat} {f : Fil} (h : FilAt W S own b f) : ∃ An cn, W.cell? ⟨b, 0, none⟩ = some (.slice An f.f0.length cn) ∧ f.f0.length ≤ cn ∧ k8.C W An f.f0.length f.f0 := by
  obtain ⟨_, _, vn, vs, vc, hh, hn, _⟩ := h
  obtain ⟨A, c, rfl⟩ := Kd.V_slice hn
  obtain ⟨_, h1, h2⟩ := Kd.V_reads' hn
  exact ⟨A, c, blk_cell hh 0, h1, h2⟩
set_option maxHeartbeats 1000000 in
set_option maxRecDepth 100000 in
/-- disk.Used -/
theorem used_calls {W : World} {S : Nat → Prop} {d : Nat} {D : Dsk} (h : DskAt W S d D) (hu : usedB D.files ≤ 1000000000) :
    Calls Try.prog 45 #[.pointer (some ⟨d, 0, none⟩)] W fun e w' => e = .returned (.int .i64 (usedB D.files)) ∧ Below W.heap.size W w' := by
  obtain ⟨m, own, T, ⟨hd, hM, hh, ht, hs, hf, hnd⟩, hD⟩ := h
  rw [← hD] at hu ⊢
  clear hD
  have HH := Aside0.mk hh
  have HF := Aside0.mk hf
  have HS := Aside0.mk hs
  have hc1 : W.cell? ⟨d, 1, none⟩ = some (.map (some m)) := blk_cell hh 1
  have HT := Aside0.mk ht
  clear hh hf hs hnd ht
  obtain ⟨N, hN⟩ : ∃ N, usedB (tfil T) = N := ⟨_, rfl⟩
  rw [hN] at hu ⊢
  have HN := Aside0.mk hN
  clear hN
  go_enter Try.func45, Try.ntmps45
  go_wp2_with (first
    | (at_range; refine wpList_range_own _ rfl _ 103 rfl 9 106 law9 Try.underlying103 ptrElem m (tblk T).length (dOf (tblk T)) rfl HT.out ?_; intro w0 hrg0 hg0 hs0)
    | go_in)
  go_frame
  have hb0 : Below W.heap.size W w0 := (Below.refl _ _).grown hg0 (Nat.le_refl _) (fun j hj => by cases hj)
  have HB0 := Aside0.mk hb0
  clear hb0 hg0
  generalize hr0 : W.heap.size = r0 at *
  have HR0 := Aside0.mk hr0
  clear hr0
  go_loopw [3] (fun s wr => ∃ (left : Lit → Bool) (cnt : Nat), wr.ranges Try.prog 9 ptrElem m r0 (tblk T).length (dOf (tblk T)) left cnt ∧ s = .int .i64 (usum left T : Nat) ∧ Below r0 W wr)
    (fun _ wr => wr.rangeLeft m r0)
  case atStart =>
    refine ⟨_, _, hrg0, ?_, HB0.out⟩
    rw [usum_zero (fun e he => ?_)]
    · rfl
    · exact dOf_left (tblk T) (e.1, e.2.1) (List.mem_map.2 ⟨e, he, rfl⟩)
  case round =>
    obtain ⟨left, cnt, hrg, rfl, hnx⟩ := hrel
    have HNX := Aside0.mk hnx
    clear hnx hrg0 hs0 HB0
    have hul := usum_le (left := left) T
    rw [HN.out] at hul
    go_wp2_with (first
      | (at_next; refine wpList_next_ranges _ rfl _ rfl 9 law9 ptrElem (Value.string) (Value.pointer) (fun key kl h => by obtain ⟨s, e, _⟩ := key9_inv h; exact ⟨s, e⟩) (fun v y h => ptr_inv h) m r0 (tblk T).length _ _ _ rfl hrg ?_ ?_)
      | go_in)
    · intro _ hl0
      have hsum := usum_done hl0 T
      rw [HN.out] at hsum
      rw [hsum]
      clear hsum hul
      go_wp2
      go_ret
      exact ⟨rfl, by rw [HR0.out]; exact HNX.out⟩
    · intro x c kl y ps wx cnt1 hkx hlx hvc hat hrg1 hlt hg1 hs1 hen
      obtain ⟨s, hse, rfl⟩ := key9_inv hkx
      cases hse
      obtain ⟨b, hb, hy⟩ := dOf_hit hat
      subst hy
      have hce := ptrElem_some hvc
      cases hce
      have hb' : aget x.data.toList T = some (b, (((aget x.data.toList T).getD (0, z110)).2)) := by
        unfold tblk at hb
        rw [aget_map] at hb
        obtain ⟨e, he, hee⟩ := Option.map_eq_some_iff.1 hb
        rw [he, ← hee]; rfl
      generalize ((aget x.data.toList T).getD (0, z110)).2 = f at hb'
      have hmem := aget_mem hb'
      have hfl : b < W.heap.size := (HF.out _ _ _ hmem).lt
      obtain ⟨An, cn, hcell, hle, _⟩ := (HF.out _ _ _ hmem).cells
      have hcell' : wx.cell? ⟨b, 0, none⟩ = some (.slice An f.f0.length cn) := by
        have hbb := HNX.out.grown hg1 (by have := HNX.out.size; rw [HR0.out] at this; exact this) (fun j hj => by cases hj; exact Nat.le_refl _)
        exact (hbb.cell (by rw [← HR0.out]; exact hfl)).trans hcell
      have hq := usum_step hlx HS.out hmem
      have hul2 := usum_le (left := fun z => left z && !z.sameKey (.string x.data.toList)) T
      rw [HN.out, hq] at hul2
      have HQ := Aside0.mk hq
      clear hq hb' hb hmem hcell hat hvc hkx
      go_wp2
      go_roundw
      case rel => exact ⟨_, _, hrg1, by rw [HQ.out]; go_num, HNX.out.grown hg1 (by have := HNX.out.size; rw [HR0.out] at this; exact this) (fun j hj => by cases hj; exact Nat.le_refl _)⟩
      case measure => rw [hrg1.left_eq, hrg.left_eq]; exact hlt
end Go.Proofs.Ytmmiipnmimjojaa.PS
