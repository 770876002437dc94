/- What stays true of a disk, whatever is done. -/
import Derived.Test.YtmmiipnmimjojaaD13
namespace Go.Proofs.Ytmmiipnmimjojaa.PS
open Go.RowKit Go.Proofs.YtmmiipnmimjojaaW.PrintWords Go.Proofs.YtmmiipnmimjojaaW.PrintLast Go.Proofs.YtmmiipnmimjojaaW.PrintMore
open Go.Maps Go.Proofs.Ytmmiipnmimjojaa.PD
set_option linter.unusedVariables false
set_option linter.unusedSimpArgs false
/-- All changes' work. -/
def mkAll : List S114 → List Int → List Int
  | [], o => o
  | c :: cs, o => mkAll cs (ap1 c o (chN c))
/-- Each change fits, and no text is longer than B. -/
def ChB (B : Nat) : List S114 → List Int → Prop
  | [], o => o.length ≤ B
  | c :: cs, o => o.length ≤ B ∧ (c.f0 = true → 0 ≤ c.f1 ∧ c.f1 ≤ o.length) ∧ (c.f0 = false → 0 ≤ c.f2 ∧ c.f2 ≤ o.length) ∧ c.f3.length ≤ B ∧ ChB B cs (ap1 c o (chN c))
theorem ChB.len {B : Nat} {cs : List S114} {o : List Int} (h : ChB B cs o) : o.length ≤ B := by cases cs with | nil => exact h | cons c cs => exact h.1
theorem ChB.ok {B : Nat} (hB : B ≤ 1000000) : ∀ {cs : List S114} {o : List Int}, ChB B cs o → ChOk cs o
  | [], o, h => Nat.le_trans h hB
  | c :: cs, o, h => ⟨Nat.le_trans h.1 hB, h.2.1, h.2.2.1, Nat.le_trans h.2.2.2.1 hB, ChB.ok hB h.2.2.2.2⟩
theorem ChB.snoc {B : Nat} {c : S114} : ∀ {cs : List S114} {o : List Int}, ChB B cs o → (c.f0 = true → 0 ≤ c.f1 ∧ c.f1 ≤ (mkAll cs o).length) → (c.f0 = false → 0 ≤ c.f2 ∧ c.f2 ≤ (mkAll cs o).length) → c.f3.length ≤ B →
    (ap1 c (mkAll cs o) (chN c)).length ≤ B → ChB B (cs ++ [c]) o
  | [], o, h, h1, h2, h3, h4 => ⟨h, h1, h2, h3, h4⟩
  | d :: cs, o, h, h1, h2, h3, h4 => ⟨h.1, h.2.1, h.2.2.1, h.2.2.2.1, ChB.snoc h.2.2.2.2 h1 h2 h3 h4⟩
theorem mkAll_snoc (c : S114) : ∀ (cs : List S114) (o : List Int), mkAll (cs ++ [c]) o = ap1 c (mkAll cs o) (chN c)
  | [], _ => rfl
  | _ :: cs, _ => mkAll_snoc c cs _
theorem layL_nil {o : List Int} {j : Nat} (h : j ≤ o.length) : layL o j [] = o := by
  unfold layL
  simp
theorem ap1_write {o b : List Int} {z a : Int} (h : a.toNat ≤ o.length) : ap1 ⟨false, z, a, b⟩ o (chN ⟨false, z, a, b⟩) = layL o a.toNat b := by
  show ap1 ⟨false, z, a, b⟩ o (b.length : Int) = _
  by_cases hb : b.length = 0
  · rw [hb, show ((0 : Nat) : Int) = 0 from rfl, ap1_zero, List.length_eq_zero_iff.1 hb, layL_nil h]
  · rw [ap1_lay _ _ _ _ hb, List.take_length]
theorem ap1_cutN {o b : List Int} {z a : Int} : ap1 ⟨true, z, a, b⟩ o (chN ⟨true, z, a, b⟩) = o.take z.toNat := ap1_cut _ _ _ _
theorem aft_lenB {B : Nat} (k : Int) : ∀ (cs : List S114) (o : List Int) (u : Int), u ≤ k → o.length ≤ B → (u = k ∨ ChB B cs o) → (aft k cs (o, u)).1.length ≤ B
  | [], o, u, _, hl, _ => hl
  | c :: cs, o, u, hu, hl, h => by
    have hc := chN_0 c
    have hm : u + min (chN c) (k - u) ≤ k := by omega
    refine aft_lenB k cs _ _ hm ?_ ?_
    · show (ap1 c o (min (chN c) (k - u))).length ≤ B
      rcases h with rfl | h
      · rw [show min (chN c) (u - u) = 0 by omega, ap1_zero]; exact hl
      · obtain ⟨a1, a2, a3, a4, a5⟩ := h
        have a6 := a5.len
        obtain ⟨c0, z, a, b⟩ := c
        cases c0 with
        | true =>
          unfold ap1
          split
          · exact hl
          · rw [if_pos rfl, List.length_take]; omega
        | false =>
          have h3 := a3 rfl
          dsimp only at h3 a4
          rw [ap1_write (by omega), layL_len _ _ _ (by omega)] at a6
          unfold ap1
          split
          · exact hl
          · rw [if_neg (by simp), layL_len _ _ _ (by dsimp only; omega), List.length_take]
            dsimp only
            omega
    · show u + min (chN c) (k - u) = k ∨ ChB B cs (ap1 c o (min (chN c) (k - u)))
      rcases h with rfl | h
      · exact .inl (by omega)
      · by_cases hh : chN c ≤ k - u
        · rw [Int.min_eq_left hh]; exact .inr h.2.2.2.2
        · exact .inl (by omega)
/-- A file that N deeds have made. -/
structure FInv (N : Nat) (n : Nm) (f : Fil) : Prop where
  named : namedB (str n) = true
  few : f.f3.length ≤ N
  ch : ChB 262144 f.f3 f.f1
  now : mkAll f.f3 f.f1 = f.f0
  short : f.f0.length ≤ 262144
  none_ : f.f2 = false → f.f1 = []
structure DInv (N : Nat) (D : Dsk) : Prop where
  room : 0 ≤ D.room ∧ D.room ≤ 9223372036854775807
  few : D.files.length ≤ 16
  srt : Srt D.files
  files : ∀ n f, (n, f) ∈ D.files → FInv N n f
theorem FInv.mono {N M : Nat} {n : Nm} {f : Fil} (h : FInv N n f) (hm : N ≤ M) : FInv M n f := ⟨h.named, Nat.le_trans h.few hm, h.ch, h.now, h.short, h.none_⟩
theorem DInv.mono {N M : Nat} {D : Dsk} (h : DInv N D) (hm : N ≤ M) : DInv M D := ⟨h.room, h.few, h.srt, fun n f hx => (h.files n f hx).mono hm⟩
theorem ChB.each {B : Nat} : ∀ {cs : List S114} {o : List Int}, ChB B cs o → ∀ c ∈ cs, c.f3.length ≤ B
  | [], _, _, c, hc => by cases hc
  | d :: cs, o, h, c, hc => by
    rcases List.mem_cons.1 hc with rfl | hc
    · exact h.2.2.2.1
    · exact ChB.each h.2.2.2.2 c hc
theorem DInv.ok {N : Nat} {D : Dsk} (h : DInv N D) (hN : N ≤ 1000000) : DskOk D :=
  ⟨h.room, by have := h.few; omega, fun p hp => by
    have hf := h.files p.1 p.2 hp
    refine ⟨by have := hf.short; omega, by have := hf.ch.len; omega, by have := hf.few; omega, fun c hc => by have := hf.ch.each c hc; omega⟩⟩
theorem str_size (n : Nm) : (str n).size = n.length := by show n.toArray.size = _; simp
theorem DInv.ck {N : Nat} {D : Dsk} (h : DInv N D) : DskCk D := fun p hp => by
  have hf := h.files p.1 p.2 hp
  refine ⟨?_, hf.ch.ok (by omega)⟩
  have := namedB_size hf.named
  rw [str_size] at this
  exact this
theorem usedB_le {B : Nat} : ∀ {l : List (Nm × Fil)}, (∀ p ∈ l, p.2.f0.length ≤ B) → usedB l ≤ l.length * B
  | [], _ => by simp [usedB]
  | p :: l, h => by
    have h1 := h p (.head _)
    have h2 := usedB_le (l := l) (fun q hq => h q (.tail _ hq))
    have e : usedB (p :: l) = p.2.f0.length + usedB l := by simp [usedB]
    rw [e, List.length_cons, Nat.succ_mul]
    omega
theorem DInv.used {N : Nat} {D : Dsk} (h : DInv N D) : usedB D.files ≤ 4194304 := by
  have h1 := usedB_le (B := 262144) (l := D.files) (fun p hp => (h.files p.1 p.2 hp).short)
  have h2 := h.few
  have h3 : D.files.length * 262144 ≤ 16 * 262144 := Nat.mul_le_mul_right _ h2
  omega
theorem DInv.put {N : Nat} {D : Dsk} {n : Nm} {f : Fil} (h : DInv N D) (hf : FInv N n f) (hl : (aput n f D.files).length ≤ 16) : DInv N ⟨D.room, aput n f D.files⟩ :=
  ⟨h.room, hl, aput_srt h.srt, fun n' f' hx => by
    rcases (aput_mem h.srt).1 hx with e | ⟨hx, _⟩
    · cases e; exact hf
    · exact h.files _ _ hx⟩
theorem DInv.get {N : Nat} {D : Dsk} {n : Nm} {f : Fil} (h : DInv N D) (hg : aget n D.files = some f) : FInv N n f := h.files _ _ (aget_mem hg)
theorem put_len {N : Nat} {D : Dsk} {n : Nm} {f g : Fil} (h : DInv N D) (hg : aget n D.files = some f) : (aput n g D.files).length ≤ 16 := by
  rw [aput_len h.srt, hg]
  exact h.few
theorem inv_write {N : Nat} {n : Nm} {f : Fil} {at_ : Int} {b : List Int} (h : FInv N n f) (h0 : 0 ≤ at_) (h1 : at_ ≤ f.f0.length) (h2 : (f.f0.length : Int) + moreB f at_ b ≤ 262144) : FInv (N + 1) n (wFil f at_ b) := by
  have hl : (layL f.f0 at_.toNat b).length ≤ 262144 := by
    rw [layL_len _ _ _ (by omega)]
    unfold moreB at h2
    omega
  have hbl : b.length ≤ 262144 := by unfold moreB at h2; omega
  have e := ap1_write (o := f.f0) (b := b) (z := 0) (a := at_) (by omega)
  refine ⟨h.named, ?_, ?_, ?_, hl, h.none_⟩
  · show (f.f3 ++ [_]).length ≤ N + 1
    have := h.few
    simp; omega
  · show ChB 262144 (f.f3 ++ [_]) f.f1
    refine ChB.snoc h.ch (fun h => by cases h) (fun _ => by rw [h.now]; exact ⟨h0, h1⟩) hbl ?_
    rw [h.now, e]
    exact hl
  · show mkAll (f.f3 ++ [_]) f.f1 = _
    rw [mkAll_snoc, h.now, e]
    rfl
theorem inv_empty {N : Nat} {n : Nm} (h : namedB (str n) = true) : FInv N n z110 := ⟨h, Nat.zero_le _, Nat.zero_le _, rfl, Nat.zero_le _, fun _ => rfl⟩
theorem dWrite_inv {N : Nat} {D : Dsk} {s : ByteArray} {at_ : Int} {b : List Int} (h : DInv N D) : DInv (N + 1) (dWrite D s at_ b).2 := by
  have h' := h.mono (Nat.le_succ N)
  unfold dWrite
  split
  · exact h'
  · next hn =>
    have hn' : namedB (str s.data.toList) = true := by rw [str_nm]; simpa using hn
    obtain ⟨f, hf⟩ : ∃ f, (aget s.data.toList D.files).getD z110 = f := ⟨_, rfl⟩
    rw [hf]
    have hfi : FInv N s.data.toList f := by
      cases hg : aget s.data.toList D.files with
      | none => rw [hg] at hf; rw [← hf]; exact inv_empty hn'
      | some g => rw [hg] at hf; rw [← hf]; exact h.get hg
    unfold dW2
    split
    · exact h'
    · split
      · exact h'
      · split
        · exact h'
        · next hp hl hr =>
          have hlim : (f.f0.length : Int) + moreB f at_ b ≤ 262144 := by
            by_cases hh : 262144 < (f.f0.length : Int) + moreB f at_ b
            · exact absurd (.inr hh) hl
            · omega
          refine h'.put (inv_write hfi (by omega) (by omega) hlim) ?_
          rw [aput_len h.srt]
          cases hg : aget s.data.toList D.files with
          | none =>
            have : ¬ 16 ≤ D.files.length := fun hc => hl (.inl ⟨by rw [hg]; rfl, hc⟩)
            show D.files.length + 1 ≤ 16
            omega
          | some g => exact h.few
theorem dCut_inv {N : Nat} {D : Dsk} {s : ByteArray} {z : Int} (h : DInv N D) : DInv (N + 1) (dCut D s z).2 := by
  have h' := h.mono (Nat.le_succ N)
  unfold dCut
  split
  · exact h'
  · next f hg =>
    split
    · exact h'
    · have hf := h.get hg
      refine h'.put ⟨hf.named, ?_, ?_, ?_, ?_, hf.none_⟩ (put_len h hg)
      · show (f.f3 ++ [_]).length ≤ N + 1
        have := hf.few
        simp; omega
      · refine ChB.snoc hf.ch (fun _ => by rw [hf.now]; dsimp only; omega) (fun h => by cases h) (Nat.zero_le _) ?_
        rw [hf.now, ap1_cutN, List.length_take]
        have := hf.short
        omega
      · show mkAll (f.f3 ++ [_]) f.f1 = _
        rw [mkAll_snoc, hf.now, ap1_cutN]
      · show (f.f0.take z.toNat).length ≤ _
        have := hf.short
        rw [List.length_take]; omega
theorem dSync_inv {N : Nat} {D : Dsk} {s : ByteArray} (h : DInv N D) : DInv N (dSync D s).2 := by
  unfold dSync
  split
  · exact h
  · next f hg =>
    have hf := h.get hg
    exact h.put ⟨hf.named, Nat.zero_le _, hf.short, rfl, hf.short, fun h => by cases h⟩ (put_len h hg)
theorem dRemove_inv {N : Nat} {D : Dsk} {s : ByteArray} (h : DInv N D) : DInv N (dRemove D s).2 := by
  unfold dRemove
  split
  · exact h
  · exact ⟨h.room, Nat.le_trans adel_len h.few, adel_srt h.srt, fun n f hx => h.files n f (adel_mem.1 hx).1⟩
theorem del_lt {α : Type} {n : Nm} {x : α} {l : List (Nm × α)} (h : aget n l = some x) : (adel n l).length + 1 ≤ l.length := by
  have hm := aget_mem h
  have : (adel n l).length < l.length := by
    unfold adel
    rw [List.length_filter_lt_length_iff_exists]
    exact ⟨_, hm, by simp⟩
  omega
theorem dRename_inv {N : Nat} {D : Dsk} {s t : ByteArray} (h : DInv N D) : DInv N (dRename D s t).2 := by
  unfold dRename
  split
  · exact h
  · next f hg =>
    split
    · exact h
    · next hn =>
      split
      · exact h
      · have hf := h.get hg
        have h1 : DInv N ⟨D.room, adel s.data.toList D.files⟩ := ⟨h.room, Nat.le_trans adel_len h.few, adel_srt h.srt, fun n f hx => h.files n f (adel_mem.1 hx).1⟩
        refine h1.put ⟨by rw [str_nm]; simpa using hn, hf.few, hf.ch, hf.now, hf.short, hf.none_⟩ ?_
        show (aput _ _ (adel _ _)).length ≤ 16
        rw [aput_len (adel_srt h.srt)]
        have := del_lt hg
        have := h.few
        split <;> omega
theorem crL_inv {N : Nat} (keep : List Int) : ∀ (i : Nat) (l : List (Nm × Fil)), (∀ n f, (n, f) ∈ l → FInv N n f) → (crL keep i l).length ≤ l.length ∧ (∀ n f, (n, f) ∈ crL keep i l → FInv N n f ∧ n ∈ l.map (·.1)) ∧ (Srt l → Srt (crL keep i l))
  | i, [], _ => ⟨Nat.le_refl _, (fun n f h => (List.not_mem_nil h).elim), (fun h => h)⟩
  | i, (n, f) :: l, h => by
    obtain ⟨a1, a2, a3⟩ := crL_inv keep (i + 1) l (fun n f hx => h n f (.tail _ hx))
    have hf := h n f (.head _)
    have hs : Srt ((n, f) :: l) → Srt (crL keep (i + 1) l) := fun hs => a3 (List.pairwise_cons.1 hs).2
    have hk0 : 0 ≤ kOf keep i := by unfold kOf; split <;> omega
    unfold crL
    split
    · exact ⟨by simp; omega, fun n' f' hx => ⟨(a2 _ _ hx).1, by have := (a2 _ _ hx).2; simp only [List.map_cons, List.mem_cons]; exact .inr this⟩, hs⟩
    · next f' hc =>
      refine ⟨by simp; omega, fun n' f1 hx => ?_, fun hss => ?_⟩
      · rcases List.mem_cons.1 hx with e | hx
        · cases e
          refine ⟨?_, by simp⟩
          unfold crF at hc
          split at hc
          · cases hc
          · cases hc
            have hl := aft_lenB (kOf keep i) f.f3 f.f1 0 hk0 hf.ch.len (.inr hf.ch)
            exact ⟨hf.named, Nat.zero_le _, hl, rfl, hl, fun h => by cases h⟩
        · exact ⟨(a2 _ _ hx).1, by have := (a2 _ _ hx).2; simp only [List.map_cons, List.mem_cons]; exact .inr this⟩
      · refine List.pairwise_cons.2 ⟨fun p hp => ?_, hs hss⟩
        have h2 := (a2 p.1 p.2 hp).2
        obtain ⟨q, hq, hqe⟩ := List.mem_map.1 h2
        have := (List.pairwise_cons.1 hss).1 q hq
        rw [hqe] at this
        exact this
theorem dCrash_inv {N : Nat} {D : Dsk} {keep : List Int} (h : DInv N D) : DInv N (dCrash D keep) := by
  obtain ⟨a1, a2, a3⟩ := crL_inv keep 0 D.files h.files
  exact ⟨h.room, Nat.le_trans a1 h.few, a3 h.srt, fun n f hx => (a2 n f hx).1⟩
end Go.Proofs.Ytmmiipnmimjojaa.PS
