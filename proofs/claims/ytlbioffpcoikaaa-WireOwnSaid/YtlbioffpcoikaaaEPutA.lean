import Derived.Test.YtlbioffpcoikaaaWire3
import Derived.Test.YtlbioffpcoikaaaEGetHard
namespace Go.Proofs.Ytlbioffpcoikaaa.PW
open Go.RowKit Go.Proofs.YtlbioffpcoikaaaW.PrintWords Go.Proofs.YtlbioffpcoikaaaW.PrintLast Go.Proofs.YtlbioffpcoikaaaW.PrintMore
set_option linter.unusedVariables false
set_option linter.unusedSimpArgs false
theorem ret38 {R : Ending → World → Prop} {W : World} {X : Nat} {a b c d e f : Value} {tmps : Array Value} (h : Bk W X #[a, b, c, d, e, f] 66) (htm : tmps.getD 2 undef = .pointer (some ⟨X, 0, none⟩))
    (hR : R (.returned (.agg #[a, b, c, d, e, f])) W) : bodyPost Try.prog Try.f38 R .ret { tmps := tmps, defers := [] } W := by
  have q0 := h.cell 0 _ rfl
  have q1 := h.cell 1 _ rfl
  have q2 := h.cell 2 _ rfl
  have q3 := h.cell 3 _ rfl
  have q4 := h.cell 4 _ rfl
  have q5 := h.cell 5 _ rfl
  refine bodyPost_ret (v := .agg #[a, b, c, d, e, f]) ?_ rfl hR
  have ht : tmps[2]?.getD undef = .pointer (some ⟨X, 0, none⟩) := by simpa using htm
  have hu66 := Try.underlying66
  simp [results, Try.results38, go_sem, ht, q0, q1, q2, q3, q4, q5]
set_option maxHeartbeats 2000000 in
set_option maxRecDepth 100000 in
theorem numbers_calls (a0 a1 a2 a3 a4 a5 a6 a7 a8 a9 a10 a11 : Value) (w : World) (n3 n4 n5 n6 n7 n8 : Int) (h3 : a3 = .int .i64 n3) (h4 : a4 = .int .i64 n4) (h5 : a5 = .int .i64 n5) (h6 : a6 = .int .i64 n6) (h7 : a7 = .int .i64 n7) (h8 : a8 = .int .i64 n8) :
    Calls Try.prog 38 #[.agg #[a0, a1, a2, a3, a4, a5, a6, a7, a8, a9, a10, a11]] w fun e w' => e = .returned (.agg #[.int .i64 n3, .int .i64 n4, .int .i64 n5, .int .i64 n6, .int .i64 n7, .int .i64 n8]) ∧ Below w.heap.size w w' := by
  subst h3 h4 h5 h6 h7 h8
  have hu40 := Try.underlying40
  have hu66 := Try.underlying66
  go_enter Try.func38, Try.ntmps38
  go_wp2
  have hb := blk_new (w.alloc (.cells #[a0, a1, a2, .int .i64 n3, .int .i64 n4, .int .i64 n5, .int .i64 n6, .int .i64 n7, .int .i64 n8, a9, a10, a11] 40 (0, 0))) (.cells #[.int .i64 n3, .int .i64 n4, .int .i64 n5, .int .i64 n6, .int .i64 n7, .int .i64 n8] 66 (0, 0))
  rw [World.size_alloc] at hb
  exact ret38 (X := w.heap.size + 1) hb rfl ⟨rfl, below_alloc (below_alloc (Below.refl _ _) _) _⟩

def nbad (n : Int) : Bool := !(decide (0 ≤ n ∧ n ≤ 1099511627776))
def accN (b : Bool) (f : List Int) : Nat → Bool
  | 0 => b
  | j + 1 => accN b f j || nbad (f.getD j 0)
def argBad (k f t : Int) : Bool := !(decide (1 ≤ k ∧ k ≤ 7)) || !(decide (1 ≤ f ∧ f ≤ 9)) || !(decide (1 ≤ t ∧ t ≤ 9))
theorem index66_0 (a b c d e f : Value) (W : World) : (Instr.index 66 (.agg #[a, b, c, d, e, f]) (.int .i64 0)).run Try.prog W = .ok a W := by kernel_rfl
theorem index66_1 (a b c d e f : Value) (W : World) : (Instr.index 66 (.agg #[a, b, c, d, e, f]) (.int .i64 1)).run Try.prog W = .ok b W := by kernel_rfl
theorem index66_2 (a b c d e f : Value) (W : World) : (Instr.index 66 (.agg #[a, b, c, d, e, f]) (.int .i64 2)).run Try.prog W = .ok c W := by kernel_rfl
theorem index66_3 (a b c d e f : Value) (W : World) : (Instr.index 66 (.agg #[a, b, c, d, e, f]) (.int .i64 3)).run Try.prog W = .ok d W := by kernel_rfl
theorem index66_4 (a b c d e f : Value) (W : World) : (Instr.index 66 (.agg #[a, b, c, d, e, f]) (.int .i64 4)).run Try.prog W = .ok e W := by kernel_rfl
theorem index66_5 (a b c d e f : Value) (W : World) : (Instr.index 66 (.agg #[a, b, c, d, e, f]) (.int .i64 5)).run Try.prog W = .ok f W := by kernel_rfl
attribute [local go_sem] index66_0 index66_1 index66_2 index66_3 index66_4 index66_5
def accE (f : S34 → Bool) (b : Bool) (l : List S34) (i : Int) : Bool := b || (l.take i.toNat).any f
theorem accE_step (f : S34 → Bool) (b : Bool) (l : List S34) (i : Int) (h0 : 0 ≤ i) (h1 : i < l.length) : accE f b l (i + 1) = (accE f b l i || f (rd_T34 l i)) := by
  unfold accE rd_T34
  have h : i.toNat < l.length := by omega
  rw [show (i + 1).toNat = i.toNat + 1 by omega, List.take_succ_eq_append_getElem h, List.any_append, List.getD_eq_getElem?_getD, List.getElem?_eq_getElem h]
  simp [Bool.or_assoc]
theorem accE_zero (f : S34 → Bool) (b : Bool) (l : List S34) : accE f b l 0 = b := by simp [accE]
theorem accE_all (f : S34 → Bool) (b : Bool) (l : List S34) : accE f b l l.length = (b || l.any f) := by simp [accE]
def eArg (x : S34) : Bool := decide (entBad x.f0 x.f1 x.f2 x.f3)
def eLim (x : S34) : Bool := decide (2048 < x.f3.length)
def msgArg (a0 a1 a2 a3 a4 a5 a6 a7 a8 : Int) (l10 : List S34) : Bool := accN (argBad a0 a1 a2) [a3, a4, a5, a6, a7, a8] 6 || l10.any eArg
def msgLim (l10 : List S34) (l11 : List Int) : Bool := (decide (8 < l10.length) || decide (32768 < l11.length)) || l10.any eLim
def msgErr (a0 a1 a2 a3 a4 a5 a6 a7 a8 : Int) (l10 : List S34) (l11 : List Int) : Int := if msgArg a0 a1 a2 a3 a4 a5 a6 a7 a8 l10 = true then 2 else if msgLim l10 l11 = true then 6 else 0
def eBytes (x : S34) : List Int := entBytes x.f0 x.f1 x.f2 x.f3
def msgHead (a0 a1 a2 : Int) (a9 : Bool) : List Int := [a0, a1, a2, if a9 = true then 1 else 0]
def msgBytes (a0 a1 a2 a3 a4 a5 a6 a7 a8 : Int) (a9 : Bool) (l10 : List S34) (l11 : List Int) : List Int :=
  msgHead a0 a1 a2 a9 ++ [a3, a4, a5, a6, a7, a8].flatMap enc ++ enc l10.length ++ l10.flatMap eBytes ++ enc l11.length ++ l11
def putMsg (a0 a1 a2 a3 a4 a5 a6 a7 a8 : Int) (a9 : Bool) (l10 : List S34) (l11 : List Int) : List Int × Int :=
  if msgErr a0 a1 a2 a3 a4 a5 a6 a7 a8 l10 l11 = 0 then (msgBytes a0 a1 a2 a3 a4 a5 a6 a7 a8 a9 l10 l11, 0) else ([], msgErr a0 a1 a2 a3 a4 a5 a6 a7 a8 l10 l11)
theorem msgArg_ok {a0 a1 a2 a3 a4 a5 a6 a7 a8 : Int} {l10 : List S34} (h : ¬ msgArg a0 a1 a2 a3 a4 a5 a6 a7 a8 l10 = true) :
    (1 ≤ a0 ∧ a0 ≤ 7) ∧ (1 ≤ a1 ∧ a1 ≤ 9) ∧ (1 ≤ a2 ∧ a2 ≤ 9) ∧ (0 ≤ a3 ∧ a3 ≤ 1099511627776) ∧ (0 ≤ a4 ∧ a4 ≤ 1099511627776) ∧ (0 ≤ a5 ∧ a5 ≤ 1099511627776) ∧ (0 ≤ a6 ∧ a6 ≤ 1099511627776) ∧ (0 ≤ a7 ∧ a7 ≤ 1099511627776) ∧ (0 ≤ a8 ∧ a8 ≤ 1099511627776) ∧ ∀ e ∈ l10, ¬ entBad e.f0 e.f1 e.f2 e.f3 := by
  simp only [msgArg, accN, argBad, nbad, eArg, Bool.not_eq_true, Bool.or_eq_false_iff, Bool.not_eq_false', decide_eq_true_eq, List.any_eq_false, decide_eq_false_iff_not, List.getD_cons_zero, List.getD_cons_succ] at h
  obtain ⟨⟨⟨⟨⟨⟨⟨⟨⟨k0, k1⟩, k2⟩, k3⟩, k4⟩, k5⟩, k6⟩, k7⟩, k8⟩, k9⟩ := h
  exact ⟨k0, k1, k2, k3, k4, k5, k6, k7, k8, k9⟩
theorem Bk.set {w : World} {g : Nat} {cs : Array Value} {t : TypeId} (h : Bk w g cs t) (j : Nat) (u : Value) : Bk (w.setCell ⟨g, j, none⟩ u) g (cs.setIfInBounds j u) t := by
  unfold Bk at *
  exact blk_set h j u
theorem Bk.setFar {w : World} {g : Nat} {cs : Array Value} {t : TypeId} (h : Bk w g cs t) (p : Addr) (hne : g ≠ p.block) (u : Value) : Bk (w.setCell p u) g cs t := (Below.heap_setCell w p u g hne).trans h
theorem R_of_bk {w : World} {g base : Nat} {a b c d : Int} {P : Nat → Prop} (h : Bk w g #[.int .u8 a, .int .u8 b, .int .u8 c, .int .u8 d] 5) (hb : base ≤ g) (hP : P g) :
    Kd.R (Kd.int .u8) 5 w base P (.slice (some ⟨g, 0, none⟩) 4 4) [a, b, c, d] :=
  Kd.R_of_own (enc := Value.int .u8) ⟨rfl, .inr ⟨g, 4, _, rfl, hb, h, Nat.le_refl _, by decide, rfl, rfl⟩⟩ (fun k hk => by
    have : g = k := by simpa [Value.ownBlock] using hk
    subst this; exact hP)
def encsUpto (l : List Int) (i : Int) : List Int := (l.take i.toNat).flatMap enc
theorem encsUpto_zero (b l : List Int) : b ++ encsUpto l 0 = b := by simp [encsUpto]
theorem encsUpto_0 (b : List Int) (a c d e f g : Int) : (b ++ encsUpto [a, c, d, e, f, g] 0) ++ enc a = b ++ encsUpto [a, c, d, e, f, g] 1 := by simp [encsUpto, List.take]
theorem encsUpto_1 (b : List Int) (a c d e f g : Int) : (b ++ encsUpto [a, c, d, e, f, g] 1) ++ enc c = b ++ encsUpto [a, c, d, e, f, g] 2 := by simp [encsUpto, List.take]
theorem encsUpto_2 (b : List Int) (a c d e f g : Int) : (b ++ encsUpto [a, c, d, e, f, g] 2) ++ enc d = b ++ encsUpto [a, c, d, e, f, g] 3 := by simp [encsUpto, List.take]
theorem encsUpto_3 (b : List Int) (a c d e f g : Int) : (b ++ encsUpto [a, c, d, e, f, g] 3) ++ enc e = b ++ encsUpto [a, c, d, e, f, g] 4 := by simp [encsUpto, List.take]
theorem encsUpto_4 (b : List Int) (a c d e f g : Int) : (b ++ encsUpto [a, c, d, e, f, g] 4) ++ enc f = b ++ encsUpto [a, c, d, e, f, g] 5 := by simp [encsUpto, List.take]
theorem encsUpto_5 (b : List Int) (a c d e f g : Int) : (b ++ encsUpto [a, c, d, e, f, g] 5) ++ enc g = b ++ encsUpto [a, c, d, e, f, g] 6 := by simp [encsUpto, List.take]
theorem encs_len : ∀ l : List Int, (∀ n ∈ l, 0 ≤ n ∧ n ≤ 1099511627776) → (l.flatMap enc).length ≤ 6 * l.length
  | [], _ => by simp
  | n :: l, h => by
    have h1 := encs_len l (fun m hm => h m (List.mem_cons_of_mem _ hm))
    have h2 := enc_len (h n (List.mem_cons_self ..)).1 (h n (List.mem_cons_self ..)).2
    rw [List.flatMap_cons, List.length_append, List.length_cons]; omega
theorem msgHead_len (a0 a1 a2 : Int) (a9 : Bool) : (msgHead a0 a1 a2 a9).length = 4 := rfl
theorem msgArg_nums {a0 a1 a2 a3 a4 a5 a6 a7 a8 : Int} {l10 : List S34} (h : ¬ msgArg a0 a1 a2 a3 a4 a5 a6 a7 a8 l10 = true) : ∀ n ∈ [a3, a4, a5, a6, a7, a8], 0 ≤ n ∧ n ≤ 1099511627776 := by
  obtain ⟨_, _, _, k3, k4, k5, k6, k7, k8, _⟩ := msgArg_ok h
  intro n hn
  simp only [List.mem_cons, List.not_mem_nil, or_false] at hn
  rcases hn with rfl | rfl | rfl | rfl | rfl | rfl <;> assumption
theorem msgArg_num {a0 a1 a2 a3 a4 a5 a6 a7 a8 : Int} {a9 : Bool} {l10 : List S34} (h : ¬ msgArg a0 a1 a2 a3 a4 a5 a6 a7 a8 l10 = true) (j : Nat) (hj : j < 6) :
    (0 ≤ [a3, a4, a5, a6, a7, a8][j] ∧ [a3, a4, a5, a6, a7, a8][j] ≤ 9223372036854775807) ∧ (msgHead a0 a1 a2 a9 ++ encsUpto [a3, a4, a5, a6, a7, a8] j).length + 9 < 140737488355328 := by
  have h1 := msgArg_nums h
  have h2 := h1 [a3, a4, a5, a6, a7, a8][j] (List.getElem_mem _)
  have h3 := encs_len ([a3, a4, a5, a6, a7, a8].take j) (fun n hn => h1 n (List.mem_of_mem_take hn))
  have h4 : ([a3, a4, a5, a6, a7, a8].take j).length ≤ 6 := by rw [List.length_take]; simp only [List.length_cons, List.length_nil]; omega
  refine ⟨⟨h2.1, by omega⟩, ?_⟩
  rw [List.length_append, msgHead_len, encsUpto, Int.toNat_natCast]
  omega
theorem row_step {w wc w' : World} {cs : Array Value} {v : Value} {xs : List Int} (h : Kd.R (Kd.int .u8) 5 w' w.heap.size (fun k => w.heap.size + 1 ≤ k ∨ wc.heap.size ≤ k) v xs) (hk : Bk wc w.heap.size cs 40) :
    Kd.R (Kd.int .u8) 5 w' w.heap.size (fun k => w.heap.size + 1 ≤ k) v xs := Kd.R_mono h (fun k hk2 => by have := hk.lt; omega)
theorem msgLim_ok {l10 : List S34} {l11 : List Int} (h : ¬ msgLim l10 l11 = true) : l10.length ≤ 8 ∧ l11.length ≤ 32768 ∧ ∀ e ∈ l10, e.f3.length ≤ 2048 := by
  simp only [msgLim, eLim, Bool.not_eq_true, Bool.or_eq_false_iff, decide_eq_false_iff_not, List.any_eq_false, decide_eq_true_eq] at h
  obtain ⟨⟨h1, h2⟩, h3⟩ := h
  exact ⟨by omega, by omega, fun e he => by have := h3 e he; omega⟩
theorem msgHead_bound {a0 a1 a2 a3 a4 a5 a6 a7 a8 : Int} {a9 : Bool} {l10 : List S34} (h : ¬ msgArg a0 a1 a2 a3 a4 a5 a6 a7 a8 l10 = true) :
    (msgHead a0 a1 a2 a9 ++ encsUpto [a3, a4, a5, a6, a7, a8] 6).length ≤ 40 := by
  have h1 := msgArg_nums h
  have h3 := encs_len ([a3, a4, a5, a6, a7, a8].take (6 : Int).toNat) (fun n hn => h1 n (List.mem_of_mem_take hn))
  have h4 : ([a3, a4, a5, a6, a7, a8].take (6 : Int).toNat).length ≤ 6 := by rw [List.length_take]; simp only [List.length_cons, List.length_nil]; omega
  rw [List.length_append, msgHead_len, encsUpto]
  omega
def entsUpto (l : List S34) (i : Int) : List Int := (l.take i.toNat).flatMap eBytes
theorem entsUpto_zero (b : List Int) (l : List S34) : b ++ entsUpto l 0 = b := by simp [entsUpto]
theorem entsUpto_all (l : List S34) : entsUpto l l.length = l.flatMap eBytes := by simp [entsUpto]
theorem entsUpto_step (b : List Int) (l : List S34) (i : Int) (h0 : 0 ≤ i) (h1 : i < l.length) : b ++ entsUpto l i ++ eBytes (rd_T34 l i) = b ++ entsUpto l (i + 1) := by
  unfold entsUpto rd_T34
  have h : i.toNat < l.length := by omega
  rw [show (i + 1).toNat = i.toNat + 1 by omega, List.take_succ_eq_append_getElem h, List.flatMap_append, List.getD_eq_getElem?_getD, List.getElem?_eq_getElem h]
  simp
theorem rd_T34_mem (l : List S34) (i : Int) (h0 : 0 ≤ i) (h1 : i < l.length) : rd_T34 l i ∈ l := by
  unfold rd_T34
  have h : i.toNat < l.length := by omega
  rw [List.getD_eq_getElem?_getD, List.getElem?_eq_getElem h]
  exact List.getElem_mem h
theorem eBytes_len {x : S34} (h : ¬ entBad x.f0 x.f1 x.f2 x.f3) (hd : x.f3.length ≤ 2048) : (eBytes x).length ≤ 2067 := by
  unfold entBad at h
  have ht := enc_len (n := x.f1) (by omega) (by omega)
  have hi := enc_len (n := x.f2) (by omega) (by omega)
  have hl := enc_len (n := (x.f3.length : Int)) (by omega) (by omega)
  simp only [eBytes, entBytes, List.length_cons, List.length_append]
  omega
theorem ents_len : ∀ l : List S34, (∀ x ∈ l, ¬ entBad x.f0 x.f1 x.f2 x.f3) → (∀ x ∈ l, x.f3.length ≤ 2048) → (l.flatMap eBytes).length ≤ 2067 * l.length
  | [], _, _ => by simp
  | x :: l, h, hd => by
    have h1 := ents_len l (fun m hm => h m (List.mem_cons_of_mem _ hm)) (fun m hm => hd m (List.mem_cons_of_mem _ hm))
    have h2 := eBytes_len (h x (List.mem_cons_self ..)) (hd x (List.mem_cons_self ..))
    rw [List.flatMap_cons, List.length_append, List.length_cons]; omega
theorem entsUpto_len {l : List S34} (h : ∀ x ∈ l, ¬ entBad x.f0 x.f1 x.f2 x.f3) (hd : ∀ x ∈ l, x.f3.length ≤ 2048) (hl : l.length ≤ 8) (i : Int) : (entsUpto l i).length ≤ 16536 := by
  have h1 := ents_len (l.take i.toNat) (fun x hx => h x (List.mem_of_mem_take hx)) (fun x hx => hd x (List.mem_of_mem_take hx))
  have h2 : (l.take i.toNat).length ≤ 8 := by rw [List.length_take]; omega
  unfold entsUpto
  omega
theorem in_calls (a b c : Int) (w : World) : Calls Try.prog 37 #[.int .i64 a, .int .i64 b, .int .i64 c] w fun e w' => e = .returned (.bool (decide (b ≤ a ∧ a ≤ c))) ∧ Drawn0 w w' := wire_in.calls a b c _ w (in_f a b c)
end Go.Proofs.Ytlbioffpcoikaaa.PW
