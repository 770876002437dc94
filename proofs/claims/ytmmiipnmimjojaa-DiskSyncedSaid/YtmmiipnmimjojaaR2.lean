/- What the reference's functions compute: the printed ones, in lists. -/
import Derived.Test.YtmmiipnmimjojaaR1
import Derived.Test.YtmmiipnmimjojaaXPut
import Derived.Test.YtmmiipnmimjojaaPSx5
import Derived.Test.YtmmiipnmimjojaaPSx7
import Derived.Test.YtmmiipnmimjojaaPSx8
namespace Go.Proofs.Ytmmiipnmimjojaa.PS
open Go.RowKit Go.Proofs.YtmmiipnmimjojaaW.PrintWords Go.Proofs.YtmmiipnmimjojaaW.PrintLast Go.Proofs.YtmmiipnmimjojaaW.PrintMore
open Go.Maps Go.Proofs.Ytmmiipnmimjojaa.PD
set_option linter.unusedVariables false
set_option linter.unusedSimpArgs false
/-- Units that fit what they are laid over. -/
def UB (B : Nat) : List S166 → List Int → Prop
  | [], o => o.length ≤ B
  | u :: us, o => o.length ≤ B ∧ 0 ≤ u.f1 ∧ (u.f0 = true → u.f1 ≤ o.length) ∧ UB B us (u1 u o)
theorem UB.len {B : Nat} {us : List S166} {o : List Int} (h : UB B us o) : o.length ≤ B := by cases us with | nil => exact h | cons u us => exact h.1
theorem u1_len (u : S166) (o : List Int) : (u1 u o).length ≤ o.length + 1 := by
  unfold u1
  split
  · rw [List.length_take]; omega
  · split
    · rw [List.length_set]; omega
    · simp
theorem UB_w {B : Nat} {rest : List S166} : ∀ (b : List Int) (a : Int) (o : List Int), 0 ≤ a → a ≤ o.length → o.length ≤ B → a + b.length ≤ B → UB B rest (layL o a.toNat b) → UB B (wU a b ++ rest) o
  | [], a, o, h0, h1, _, _, hr => by rw [layL_nil (by omega)] at hr; exact hr
  | x :: b, a, o, h0, h1, h2, h3, hr => by
    have e : layL o a.toNat (x :: b) = layL (u1 ⟨false, a, x⟩ o) (a + 1).toNat b := by
      have hlen : a + 1 ≤ ((u1 ⟨false, a, x⟩ o).length : Int) := by
        unfold u1
        rw [if_neg (by simp)]
        dsimp only
        split
        · rw [List.length_set]; omega
        · simp; omega
      rw [← mkU_w (x :: b) a o h0 h1, ← mkU_w b (a + 1) _ (by omega) hlen]
      rfl
    rw [e] at hr
    simp only [List.length_cons] at h3
    refine ⟨h2, h0, (fun h => absurd h (by simp)), UB_w b (a + 1) _ (by omega) ?_ ?_ (by omega) hr⟩
    · unfold u1
      rw [if_neg (by simp)]
      dsimp only
      split
      · rw [List.length_set]; omega
      · simp; omega
    · unfold u1
      rw [if_neg (by simp)]
      dsimp only
      split
      · rw [List.length_set]; omega
      · simp; omega
theorem UB_flat {B : Nat} : ∀ {cs : List S114} {o : List Int}, ChB B cs o → UB B (flat cs) o
  | [], o, h => h
  | c :: cs, o, h => by
    have ih := UB_flat h.2.2.2.2
    have hl := h.2.2.2.2.len
    show UB B (unitsOf c ++ flat cs) o
    obtain ⟨c0, z, a, b⟩ := c
    cases c0 with
    | true =>
      have h1 := h.2.1 rfl
      rw [ap1_cutN] at ih
      refine ⟨h.1, h1.1, fun _ => h1.2, ?_⟩
      show UB B (flat cs) (u1 ⟨true, z, 0⟩ o)
      unfold u1
      rw [if_pos rfl]
      exact ih
    | false =>
      have h2 := h.2.2.1 rfl
      dsimp only at h2
      rw [ap1_write (by omega)] at ih hl
      rw [layL_len _ _ _ (by omega)] at hl
      exact UB_w b a o h2.1 h2.2 h.1 (by omega) ih
theorem drop_rd6 {xs : List S166} {i : Int} (h0 : 0 ≤ i) (h1 : i < (xs.length : Int)) : xs.drop i.toNat = rd_T166 xs i :: xs.drop (i + 1).toNat := by
  have hl : i.toNat < xs.length := by omega
  rw [List.drop_eq_getElem_cons hl, show (i + 1).toNat = i.toNat + 1 by omega]
  unfold rd_T166
  rw [List.getD_eq_getElem?_getD, List.getElem?_eq_getElem hl]
  rfl
theorem drop_rd4 {xs : List S144} {i : Int} (h0 : 0 ≤ i) (h1 : i < (xs.length : Int)) : xs.drop i.toNat = rd_T144 xs i :: xs.drop (i + 1).toNat := by
  have hl : i.toNat < xs.length := by omega
  rw [List.drop_eq_getElem_cons hl, show (i + 1).toNat = i.toNat + 1 by omega]
  unfold rd_T144
  rw [List.getD_eq_getElem?_getD, List.getElem?_eq_getElem hl]
  rfl
theorem wrap_next {i : Int} {n : Nat} (h0 : 0 ≤ i) (h : i < (n : Int)) (hn : n ≤ 1000000000000) : wrap64 (i + 1) = i + 1 := by unfold wrap64; omega
theorem made_l (kk : Int) (nm : ByteArray) (ls : Bool) (sure : List Int) (us : List S166) {B : Nat} (hB : B ≤ 1000000) (hus : us.length ≤ 1000000000000) : ∀ (m k : Nat) (i : Int) (o : List Int), 0 ≤ i → i + m = us.length → 2 * m + 2 ≤ k → UB B (us.drop i.toNat) o →
    tollgateref05_made.l0 k kk o i nm ls sure us = some (mkU ((us.drop i.toNat).take (kk - i).toNat) o) := by
  intro m
  induction m with
  | zero =>
    intro k i o h0 hm hk hu
    obtain ⟨k, rfl⟩ : ∃ q, k = q + 2 := ⟨k - 2, by omega⟩
    rw [tollgateref05_made.l0, if_neg (by omega), tollgateref05_made.j1, if_neg (by simp), List.drop_eq_nil_of_le (by omega), List.take_nil]
    rfl
  | succ m ih =>
    intro k i o h0 hm hk hu
    obtain ⟨k, rfl⟩ : ∃ q, k = q + 2 := ⟨k - 2, by omega⟩
    have hlt : i < (us.length : Int) := by omega
    rw [drop_rd6 h0 hlt] at hu ⊢
    obtain ⟨u, hud⟩ : ∃ u, rd_T166 us i = u := ⟨_, rfl⟩
    have hw := wrap_next h0 hlt hus
    rw [tollgateref05_made.l0, if_pos hlt, tollgateref05_made.j1]
    rw [hud] at hu ⊢
    by_cases hkk : i < kk
    · rw [if_pos (decide_eq_true hkk), if_pos h0, if_pos hlt]
      obtain ⟨a1, a2, a3, a4⟩ := hu
      have hst : mkU ((u :: us.drop (i + 1).toNat).take (kk - i).toNat) o = mkU ((us.drop (i + 1).toNat).take (kk - (i + 1)).toNat) (u1 u o) := by
        rw [show (kk - i).toNat = (kk - (i + 1)).toNat + 1 by omega, List.take_succ_cons]
        rfl
      have hih := ih k (i + 1) (u1 u o) (by omega) (by omega) (by omega) a4
      rw [hst, ← hih]
      unfold u1
      by_cases hc : u.f0 = true
      · rw [if_pos hc, if_pos a2, if_pos (a3 hc), hw, if_pos hc]
      · rw [if_neg hc, if_neg hc]
        by_cases hl : u.f1 < (o.length : Int)
        · rw [if_pos hl, if_pos a2, hw, if_pos hl]
        · rw [if_neg hl, if_pos (by omega), hw, if_neg hl]
    · rw [if_neg (by simpa using hkk), show (kk - i).toNat = 0 by omega, List.take_zero]
      rfl
theorem made_f (kk : Int) (nm : ByteArray) (ls : Bool) (sure : List Int) (us : List S166) {B : Nat} (hB : B ≤ 1000000) (hus : us.length ≤ 1000000000000) (h : UB B us sure) :
    tollgateref05_made.f (2 * us.length + 2) nm ls sure us kk = some (mkU (us.take kk.toNat) sure) := by
  have hl := h.len
  have := made_l kk nm ls sure us hB hus us.length (2 * us.length + 2) 0 sure (by omega) (by omega) (by omega) h
  unfold tollgateref05_made.f
  rw [Option.bind_some, if_pos (by simp; omega), List.nil_append, this, show (0 : Int).toNat = 0 from rfl, List.drop_zero, Int.sub_zero]
theorem now_f (nm : ByteArray) (ls : Bool) (sure : List Int) (us : List S166) {B : Nat} (hB : B ≤ 1000000) (hus : us.length ≤ 1000000000000) (h : UB B us sure) :
    tollgateref05_now.f (2 * us.length + 2) nm ls sure us = some (mkU us sure) := by
  unfold tollgateref05_now.f
  rw [made_f _ nm ls sure us hB hus h, Option.bind_some, show ((us.length : Nat) : Int).toNat = us.length by omega, List.take_length]
theorem str_ne {x y : ByteArray} : x.toList = y.toList ↔ x = y := by
  rw [ByteArray.toList_eq, ByteArray.toList_eq]
  exact ⟨fun h => ByteArray.ext (Array.toList_inj.mp h), fun h => by rw [h]⟩
theorem without_l (x0 : List S144) (s : ByteArray) (hx : x0.length ≤ 1000) : ∀ (m k : Nat) (i : Int) (o : List S144), 0 ≤ i → i + m = x0.length → m < k → o.length ≤ i →
    tollgateref05_without.l0 k x0 s o i = some (o ++ woR (x0.drop i.toNat) s) := by
  intro m
  induction m with
  | zero =>
    intro k i o h0 hm hk ho
    obtain ⟨k, rfl⟩ : ∃ q, k = q + 1 := ⟨k - 1, by omega⟩
    rw [tollgateref05_without.l0, if_neg (by omega), List.drop_eq_nil_of_le (by omega)]
    simp [woR]
  | succ m ih =>
    intro k i o h0 hm hk ho
    obtain ⟨k, rfl⟩ : ∃ q, k = q + 1 := ⟨k - 1, by omega⟩
    have hlt : i < (x0.length : Int) := by omega
    rw [tollgateref05_without.l0, if_pos hlt, if_pos h0, drop_rd4 h0 hlt, wrap_next h0 hlt (by omega)]
    obtain ⟨f, hf⟩ : ∃ f, rd_T144 x0 i = f := ⟨_, rfl⟩
    rw [hf]
    by_cases e : f.f0 = s
    · rw [if_pos (str_ne.2 e), ih k (i + 1) o (by omega) (by omega) (by omega) (by omega)]
      simp [woR, e]
    · rw [if_neg (fun h => e (str_ne.1 h)), if_pos (by omega), ih k (i + 1) _ (by omega) (by omega) (by omega) (by simp; omega)]
      simp [woR, e]
theorem without_f (x0 : List S144) (s : ByteArray) (hx : x0.length ≤ 1000) : tollgateref05_without.f (x0.length + 1) x0 s = some (woR x0 s) := by
  unfold tollgateref05_without.f
  have := without_l x0 s hx x0.length (x0.length + 1) 0 [] (by omega) (by omega) (by omega) (by simp)
  rw [this]; rfl
theorem putP_j (f x : S144) (o : List S144) (d : Bool) : putP f x (o, d) = if (!d && !(Op.bytesLess x.f0.toList f.f0.toList)) = true then (o ++ [f], true) else (o, d) := by
  unfold putP
  rw [ByteArray.toList_eq, ByteArray.toList_eq]
  have e : (d = false ∧ nlt x.f0.data.toList f.f0.data.toList = false) ↔ (!d && !(Op.bytesLess x.f0.data.toList f.f0.data.toList)) = true := by
    unfold nlt
    simp
  by_cases h : (d = false ∧ nlt x.f0.data.toList f.f0.data.toList = false)
  · rw [if_pos h, if_pos (e.1 h)]
  · rw [if_neg h, if_neg (fun h' => h (e.2 h'))]
theorem put_l (x0 : List S144) (f : S144) (hx : x0.length ≤ 1000) : ∀ (m k : Nat) (i : Int) (o : List S144) (d : Bool), 0 ≤ i → i + m = x0.length → 2 * m + 1 ≤ k → o.length ≤ 2 * i →
    tollgateref05_put.l0 k x0 o d i f.f0 f.f1 f.f2 f.f3 = some (if (putS f (x0.drop i.toNat) (o, d)).2 = true then (putS f (x0.drop i.toNat) (o, d)).1 else (putS f (x0.drop i.toNat) (o, d)).1 ++ [f]) := by
  intro m
  induction m with
  | zero =>
    intro k i o d h0 hm hk ho
    obtain ⟨k, rfl⟩ : ∃ q, k = q + 1 := ⟨k - 1, by omega⟩
    rw [tollgateref05_put.l0, if_neg (by omega), List.drop_eq_nil_of_le (by omega)]
    show _ = some (if d = true then o else o ++ [f])
    by_cases hd : d = true
    · rw [if_pos hd, if_pos hd]
    · rw [if_neg hd, if_neg hd, if_pos (by omega)]
  | succ m ih =>
    intro k i o d h0 hm hk ho
    obtain ⟨k, rfl⟩ : ∃ q, k = q + 2 := ⟨k - 2, by omega⟩
    have hlt : i < (x0.length : Int) := by omega
    rw [drop_rd4 h0 hlt]
    obtain ⟨x, hxx⟩ : ∃ x, rd_T144 x0 i = x := ⟨_, rfl⟩
    have hw := wrap_next h0 hlt (show x0.length ≤ 1000000000000 by omega)
    rw [tollgateref05_put.l0, if_pos hlt, hxx]
    have hj : (if d = true then tollgateref05_put.j1 (k + 1) x0 o d i false f.f0 f.f1 f.f2 f.f3 else if 0 ≤ i then tollgateref05_put.j1 (k + 1) x0 o d i (!(Op.bytesLess (x.f0.toList) f.f0.toList)) f.f0 f.f1 f.f2 f.f3 else none) = tollgateref05_put.j1 (k + 1) x0 o d i (!d && !(Op.bytesLess (x.f0.toList) f.f0.toList)) f.f0 f.f1 f.f2 f.f3 := by
      cases d with
      | true => rw [if_pos rfl]; rfl
      | false => rw [if_neg (by simp), if_pos h0]; rfl
    rw [hj, putS_cons, putP_j]
    rw [tollgateref05_put.j1]
    by_cases hb : (!d && !(Op.bytesLess x.f0.toList f.f0.toList)) = true
    · rw [if_pos hb, if_pos hb, if_pos (by omega), Option.bind_some, if_pos h0, if_pos hlt, hxx, hw]
      by_cases e : x.f0 = f.f0
      · rw [if_pos (str_ne.2 e), if_pos e]
        exact ih k (i + 1) _ true (by omega) (by omega) (by omega) (by simp; omega)
      · rw [if_neg (fun h => e (str_ne.1 h)), if_pos (by simp; omega), if_neg e]
        exact ih k (i + 1) _ true (by omega) (by omega) (by omega) (by simp; omega)
    · rw [if_neg hb, if_neg hb, if_pos h0, if_pos hlt, hxx, hw]
      by_cases e : x.f0 = f.f0
      · rw [if_pos (str_ne.2 e), if_pos e]
        exact ih k (i + 1) _ d (by omega) (by omega) (by omega) (by omega)
      · rw [if_neg (fun h => e (str_ne.1 h)), if_pos (by omega), if_neg e]
        exact ih k (i + 1) _ d (by omega) (by omega) (by omega) (by simp; omega)
theorem put_f (x0 : List S144) (f : S144) (hx : x0.length ≤ 1000) : tollgateref05_put.f (2 * x0.length + 1) x0 f.f0 f.f1 f.f2 f.f3 = some (putR x0 f) := by
  unfold tollgateref05_put.f
  rw [put_l x0 f hx x0.length _ 0 [] false (by omega) (by omega) (by omega) (by simp)]
  rfl
theorem sameT_l (x0 x1 : List ByteArray) (hx : x0.length ≤ 1000000000) (hl : x0.length = x1.length) : ∀ (m k : Nat) (i : Int), 0 ≤ i → i + m = x0.length → m < k →
    ∃ b, tollgateref05_SameTexts.l0 k x0 x1 i = some b ∧ (x0 = x1 → b = true) := by
  intro m
  induction m with
  | zero =>
    intro k i h0 hm hk
    obtain ⟨k, rfl⟩ : ∃ q, k = q + 1 := ⟨k - 1, by omega⟩
    exact ⟨true, by rw [tollgateref05_SameTexts.l0, if_neg (by omega)], fun _ => rfl⟩
  | succ m ih =>
    intro k i h0 hm hk
    obtain ⟨k, rfl⟩ : ∃ q, k = q + 1 := ⟨k - 1, by omega⟩
    have hlt : i < (x0.length : Int) := by omega
    rw [tollgateref05_SameTexts.l0, if_pos hlt, if_pos h0, if_pos (by omega), wrap_next h0 hlt (by omega)]
    by_cases e : (rdOf ByteArray.empty x0 i).toList = (rdOf ByteArray.empty x1 i).toList
    · rw [if_pos e]
      exact ih k (i + 1) (by omega) (by omega) (by omega)
    · rw [if_neg e]
      exact ⟨false, rfl, fun h => absurd (by rw [h]) e⟩
theorem sameT_f (x0 x1 : List ByteArray) (hx : x0.length ≤ 1000000000) (h : x0 = x1) : tollgateref05_SameTexts.f (x0.length + 1) x0 x1 = some true := by
  unfold tollgateref05_SameTexts.f
  obtain ⟨b, hb, hb'⟩ := sameT_l x0 x1 hx (by rw [h]) x0.length (x0.length + 1) 0 (by omega) (by omega) (by omega)
  rw [if_pos (by rw [h]), hb, hb' h]
end Go.Proofs.Ytmmiipnmimjojaa.PS
