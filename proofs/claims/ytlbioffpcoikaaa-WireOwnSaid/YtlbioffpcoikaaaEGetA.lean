import Derived.Test.YtlbioffpcoikaaaEScan4
import Derived.Test.YtlbioffpcoikaaaEGetHard
namespace Go.Proofs.Ytlbioffpcoikaaa.PW
open Go.RowKit Go.Proofs.YtlbioffpcoikaaaW.PrintWords Go.Proofs.YtlbioffpcoikaaaW.PrintLast Go.Proofs.YtlbioffpcoikaaaW.PrintMore
set_option linter.unusedVariables false
set_option linter.unusedSimpArgs false
theorem scOne_err {l : List Int} {x a b k : Int} {s : Except Int Int} (h : scOne l (.error x) a b = (k, s)) : s = .error x := by unfold scOne at h; dsimp only at h; cases h; rfl
theorem scNum_err {l : List Int} {x a k : Int} {s : Except Int Int} (h : scNum l (.error x) a = (k, s)) : s = .error x := by unfold scNum at h; dsimp only at h; cases h; rfl
theorem scRow_err {l : List Int} {x a : Int} {k : List Int} {s : Except Int Int} (h : scRow l (.error x) a = (k, s)) : s = .error x := by unfold scRow at h; dsimp only at h; cases h; rfl
theorem scEnts_err {l : List Int} {x : Int} {n : Nat} {es es' : List S34} {s : Except Int Int} (h : scEnts l n es (.error x) = (es', s)) : s = .error x := by
  cases n with
  | zero => unfold scEnts at h; cases h; rfl
  | succ n => unfold scEnts at h; cases h; rfl
/-- The states of a message's scan, one behind the other. -/
structure MsgEq (l : List Int) (k : Int) (f : Int) (t : Int) (o : Int) (n1 : Int) (n2 : Int) (n3 : Int) (n4 : Int) (n5 : Int) (n6 : Int) (n : Int) (s1 : Except Int Int) (s2 : Except Int Int) (s3 : Except Int Int) (s4 : Except Int Int) (s5 : Except Int Int) (s6 : Except Int Int) (s7 : Except Int Int) (s8 : Except Int Int) (s9 : Except Int Int) (s10 : Except Int Int) (s11 : Except Int Int) (sR : Except Int Int) (sD : Except Int Int) (sE : Except Int Int) (es : List S34) (d : List Int) : Prop where
  h1 : scOne l (.ok 0) 1 7 = (k, s1)
  h2 : scOne l s1 1 9 = (f, s2)
  h3 : scOne l s2 1 9 = (t, s3)
  h4 : scOne l s3 0 1 = (o, s4)
  h5 : scNum l s4 0 = (n1, s5)
  h6 : scNum l s5 0 = (n2, s6)
  h7 : scNum l s6 0 = (n3, s7)
  h8 : scNum l s7 0 = (n4, s8)
  h9 : scNum l s8 0 = (n5, s9)
  h10 : scNum l s9 0 = (n6, s10)
  h11 : scNum l s10 0 = (n, s11)
  he : scEnts l n.toNat [] (scLim n s11) = (es, sR)
  hd : scRow l sR 32768 = (d, sD)
  hE : scEnd l sD = sE
namespace MsgEq
variable {l : List Int} {k f t o n1 n2 n3 n4 n5 n6 n x : Int} {s1 s2 s3 s4 s5 s6 s7 s8 s9 s10 s11 sR sD sE : Except Int Int} {es : List S34} {d : List Int} (h : MsgEq l k f t o n1 n2 n3 n4 n5 n6 n s1 s2 s3 s4 s5 s6 s7 s8 s9 s10 s11 sR sD sE es d)
include h
theorem res : refMsg l = msgOf k f t n1 n2 n3 n4 n5 n6 o es d sE := refMsg_eq h.h1 h.h2 h.h3 h.h4 h.h5 h.h6 h.h7 h.h8 h.h9 h.h10 h.h11 h.he h.hd h.hE
theorem eE (e : sE = .error x) : refMsg l = msgZ x := by subst e; exact h.res
theorem eD (e : sD = .error x) : refMsg l = msgZ x := h.eE (by subst e; exact h.hE.symm)
theorem eR (e : sR = .error x) : refMsg l = msgZ x := h.eD (by subst e; exact scRow_err h.hd)
theorem eL (e : scLim n s11 = .error x) : refMsg l = msgZ x := h.eR (by have h0 := h.he; rw [e] at h0; exact scEnts_err h0)
theorem e11 (e : s11 = .error x) : refMsg l = msgZ x := h.eL (by subst e; rfl)
theorem e10 (e : s10 = .error x) : refMsg l = msgZ x := h.e11 (by subst e; exact scNum_err h.h11)
theorem e9 (e : s9 = .error x) : refMsg l = msgZ x := h.e10 (by subst e; exact scNum_err h.h10)
theorem e8 (e : s8 = .error x) : refMsg l = msgZ x := h.e9 (by subst e; exact scNum_err h.h9)
theorem e7 (e : s7 = .error x) : refMsg l = msgZ x := h.e8 (by subst e; exact scNum_err h.h8)
theorem e6 (e : s6 = .error x) : refMsg l = msgZ x := h.e7 (by subst e; exact scNum_err h.h7)
theorem e5 (e : s5 = .error x) : refMsg l = msgZ x := h.e6 (by subst e; exact scNum_err h.h6)
theorem e4 (e : s4 = .error x) : refMsg l = msgZ x := h.e5 (by subst e; exact scNum_err h.h5)
theorem e3 (e : s3 = .error x) : refMsg l = msgZ x := h.e4 (by subst e; exact scOne_err h.h4)
theorem e2 (e : s2 = .error x) : refMsg l = msgZ x := h.e3 (by subst e; exact scOne_err h.h3)
theorem e1 (e : s1 = .error x) : refMsg l = msgZ x := h.e2 (by subst e; exact scOne_err h.h2)
end MsgEq
theorem entry_ok {l : List Int} {a a1 : Int} {p : Int × Int × Int × List Int} (h : rdEntry l a = .ok (p, a1)) : scEntry l (.ok a) = (p, .ok a1) := by
  unfold rdEntry at h
  cases h1 : rdByte l a 1 3 with
  | error x => rw [h1] at h; cases h
  | ok q =>
    obtain ⟨k, b1⟩ := q
    rw [h1] at h; dsimp only at h
    cases h2 : rdNum l b1 1 with
    | error x => rw [h2] at h; cases h
    | ok q =>
      obtain ⟨t, b2⟩ := q
      rw [h2] at h; dsimp only at h
      cases h3 : rdNum l b2 1 with
      | error x => rw [h3] at h; cases h
      | ok q =>
        obtain ⟨i, b3⟩ := q
        rw [h3] at h; dsimp only at h
        by_cases hk : k = 1
        · rw [if_pos hk] at h
          cases h4 : rdNum l b3 0 with
          | error x => rw [h4] at h; cases h
          | ok q =>
            obtain ⟨n, b4⟩ := q
            rw [h4] at h; dsimp only at h
            by_cases hn : 0 < n
            · rw [if_pos hn] at h; cases h
            · rw [if_neg hn] at h; cases h
              subst hk
              simp [scEntry, scOne, scNum, entTail, h1, h2, h3, h4, hn]
        · rw [if_neg hk] at h
          cases h4 : rdData l b3 2048 with
          | error x => rw [h4] at h; cases h
          | ok q =>
            obtain ⟨n, b4⟩ := q
            rw [h4] at h; dsimp only at h; cases h
            simp [scEntry, scOne, scNum, scRow, h1, h2, h3, h4, hk]
theorem entry_error {l : List Int} {a y : Int} (h : rdEntry l a = .error y) : (scEntry l (.ok a)).2 = .error y := by
  unfold rdEntry at h
  cases h1 : rdByte l a 1 3 with
  | error x => rw [h1] at h; cases h; simp [scEntry, scOne, scNum, scRow, h1]
  | ok q =>
    obtain ⟨k, b1⟩ := q
    rw [h1] at h; dsimp only at h
    cases h2 : rdNum l b1 1 with
    | error x => rw [h2] at h; cases h; by_cases hk : k = 1 <;> simp [scEntry, scOne, scNum, scRow, entTail, h1, h2, hk]
    | ok q =>
      obtain ⟨t, b2⟩ := q
      rw [h2] at h; dsimp only at h
      cases h3 : rdNum l b2 1 with
      | error x => rw [h3] at h; cases h; by_cases hk : k = 1 <;> simp [scEntry, scOne, scNum, scRow, entTail, h1, h2, h3, hk]
      | ok q =>
        obtain ⟨i, b3⟩ := q
        rw [h3] at h; dsimp only at h
        by_cases hk : k = 1
        · rw [if_pos hk] at h
          cases h4 : rdNum l b3 0 with
          | error x => rw [h4] at h; cases h; simp [scEntry, scOne, scNum, scRow, entTail, h1, h2, h3, h4, hk]
          | ok q =>
            obtain ⟨n, b4⟩ := q
            rw [h4] at h; dsimp only at h
            by_cases hn : 0 < n
            · rw [if_pos hn] at h; cases h
              simp [scEntry, scOne, scNum, scRow, entTail, h1, h2, h3, h4, hk, hn]
            · rw [if_neg hn] at h; cases h
        · rw [if_neg hk] at h
          cases h4 : rdData l b3 2048 with
          | error x => rw [h4] at h; cases h; simp [scEntry, scOne, scNum, scRow, entTail, h1, h2, h3, h4, hk]
          | ok q =>
            obtain ⟨n, b4⟩ := q
            rw [h4] at h; cases h
def RdAny (w0 w : World) (g : Nat) (A : Option Addr) (n c : Nat) (v : Value) (st : Except Int Int) (e : Ending) (w' : World) : Prop :=
  Below w0.heap.size w0 w' ∧ KeepBut w w' g none ∧ match st with
    | .ok a => e = .returned v ∧ IsRd w' g A n c a
    | .error x => e = .panicked (fault x)
def RdRow (w0 w : World) (g : Nat) (A : Option Addr) (n c : Nat) (xs : List Int) (st : Except Int Int) (e : Ending) (w' : World) : Prop :=
  Below w0.heap.size w0 w' ∧ KeepBut w w' g none ∧ match st with
    | .ok a => ∃ v, e = .returned v ∧ Kd.R (Kd.int .u8) 5 w' w.heap.size (fun _ => True) v xs ∧ IsRd w' g A n c a
    | .error x => e = .panicked (fault x)
def RdEnt (w0 w : World) (g : Nat) (A : Option Addr) (n c : Nat) (x : Int × Int × Int × List Int) (st : Except Int Int) (e : Ending) (w' : World) : Prop :=
  Below w0.heap.size w0 w' ∧ KeepBut w w' g none ∧ match st with
    | .ok a => ∃ v, e = .returned (.agg #[.int .i64 x.1, .int .i64 x.2.1, .int .i64 x.2.2.1, v]) ∧ Kd.R (Kd.int .u8) 5 w' w.heap.size (fun _ => True) v x.2.2.2 ∧ IsRd w' g A n c a
    | .error x => e = .panicked (fault x)
section
variable (w0 w : World) (g : Nat) (A : Option Addr) (c : Nat) (l : List Int) (a : Int) (hr : Kd.C (Kd.int .u8) w0 A l.length l) (hc : l.length ≤ c) (hI : IsRd w g A l.length c a)
    (hB : Below w0.heap.size w0 w) (hg : w0.heap.size ≤ g) (hok : okLen l)
include hr hc hI hB hg hok
theorem rone_any (least most k : Int) (s1 : Except Int Int) (hres : scOne l (.ok a) least most = (k, s1)) :
    Calls Try.prog 45 #[.pointer (some ⟨g, 0, none⟩), .int .i64 least, .int .i64 most] w fun e w' => RdAny w0 w g A l.length c (.int .i64 k) s1 e w' := by
  refine (byte_calls w0 w g A c l a least most (Kd.C_below hr hB) hc hI hB hg hok _ rfl).mono ?_
  rintro e w' ⟨B, K, hm⟩
  unfold scOne at hres
  dsimp only at hres
  cases hn : rdByte l a least most with
  | error x =>
    rw [hn] at hm hres; cases hres
    exact ⟨B, K, hm⟩
  | ok p =>
    obtain ⟨k1, a1⟩ := p
    rw [hn] at hm hres; cases hres
    exact ⟨B, K, hm⟩
theorem rnum_any (least k : Int) (s1 : Except Int Int) (hres : scNum l (.ok a) least = (k, s1)) :
    Calls Try.prog 44 #[.pointer (some ⟨g, 0, none⟩), .int .i64 least] w fun e w' => RdAny w0 w g A l.length c (.int .i64 k) s1 e w' := by
  refine (number_calls w0 w g A c l a least (Kd.C_below hr hB) hc hI hB hg hok).mono ?_
  rintro e w' ⟨B, K, hm⟩
  unfold scNum at hres
  dsimp only at hres
  cases hn : rdNum l a least with
  | error x =>
    rw [hn] at hm hres; cases hres
    exact ⟨B, K, hm⟩
  | ok p =>
    obtain ⟨k1, a1⟩ := p
    rw [hn] at hm hres; cases hres
    exact ⟨B, K, hm⟩
theorem rrow_any (most : Int) (hmost : most ≤ 1000000) (d : List Int) (s1 : Except Int Int) (hres : scRow l (.ok a) most = (d, s1)) :
    Calls Try.prog 46 #[.pointer (some ⟨g, 0, none⟩), .int .i64 most] w fun e w' => RdRow w0 w g A l.length c d s1 e w' := by
  refine (data_calls w0 w g A c l a most hr hc hI hB hg hok hmost _ rfl).mono ?_
  rintro e w' ⟨B, K, hm⟩
  unfold scRow at hres
  dsimp only at hres
  cases hn : rdData l a most with
  | error x =>
    rw [hn] at hm hres; cases hres
    exact ⟨B, K, hm⟩
  | ok p =>
    obtain ⟨k1, a1⟩ := p
    rw [hn] at hm hres; cases hres
    exact ⟨B, K, hm⟩
omit hr hc hok in
theorem rend_any (s1 : Except Int Int) (hres : scEnd l (.ok a) = s1) :
    Calls Try.prog 43 #[.pointer (some ⟨g, 0, none⟩)] w fun e w' => RdAny w0 w g A l.length c (.tuple #[]) s1 e w' := by
  refine (end_calls w0 w g A l.length c a hI hB hg _ rfl).mono ?_
  rintro e w' ⟨B, K, hm⟩
  unfold scEnd at hres
  dsimp only at hres
  by_cases ha : a < l.length
  · rw [if_pos ha] at hm hres; subst hres
    exact ⟨B, K, hm⟩
  · rw [if_neg ha] at hm hres; subst hres
    exact ⟨B, K, hm⟩
theorem rent_any (x : Int × Int × Int × List Int) (s1 : Except Int Int) (hres : scEntry l (.ok a) = (x, s1)) :
    Calls Try.prog 42 #[.pointer (some ⟨g, 0, none⟩)] w fun e w' => RdEnt w0 w g A l.length c x s1 e w' := by
  refine (entry_calls w0 w g A c l a hr hc hI hB hg hok _ rfl).mono ?_
  rintro e w' ⟨B, K, hm⟩
  refine ⟨B, K, ?_⟩
  have hk : ∀ {p : Int × Int × Int × List Int} {a1 : Int}, rdEntry l a = .ok (p, a1) → scEntry l (.ok a) = (p, .ok a1) := fun h => entry_ok h
  have he : ∀ {y : Int}, rdEntry l a = .error y → (scEntry l (.ok a)).2 = .error y := fun h => entry_error h
  cases hn : rdEntry l a with
  | error y =>
    rw [hn] at hm
    have := he hn
    rw [hres] at this
    dsimp only at this
    subst this
    exact hm
  | ok p =>
    obtain ⟨⟨q1, q2, q3, q4⟩, a1⟩ := p
    rw [hn] at hm
    have := hk hn
    rw [hres] at this
    cases this
    exact hm
end
theorem Bk.setq {W : World} {g : Nat} {cs : Array Value} {t : TypeId} (h : Bk W g cs t) (j : Nat) (u : Value) : Bk (W.setCell ⟨g, j, none⟩ u) g (cs.setIfInBounds j u) t := by unfold Bk at h ⊢; simp [World.setCell, Array.getElem?_modify, h]
theorem Bk.farq {W : World} {g : Nat} {cs : Array Value} {t : TypeId} (h : Bk W g cs t) {p : Addr} (hne : g ≠ p.block) (u : Value) : Bk (W.setCell p u) g cs t := (Below.heap_setCell W p u g hne).trans h
theorem Bk.allocq {W : World} {g : Nat} {cs : Array Value} {t : TypeId} (h : Bk W g cs t) (o : Obj) : Bk (W.alloc o) g cs t := (Below.heap_alloc W o g h.lt).trans h
/-- What GetMsg holds: the result's block X, the error's E, the reader's g, the message's m. -/
structure C29 (w0 W : World) (g : Nat) (A : Option Addr) (n c : Nat) (a : Int) (X E m : Nat) (cX cm : Array Value) (e : Int) : Prop where
  below : Below w0.heap.size w0 W
  rd : IsRd W g A n c a
  g0 : w0.heap.size ≤ g
  x0 : w0.heap.size ≤ X
  e0 : w0.heap.size ≤ E
  m0 : w0.heap.size ≤ m
  gx : X ≠ g
  ge : E ≠ g
  gm : m ≠ g
  xe : X ≠ E
  xm : X ≠ m
  em : E ≠ m
  x : Bk W X cX 40
  e : Bk W E #[.int .i64 e] 23
  m : Bk W m cm 40
theorem IsRd.move {w w1 : World} {g : Nat} {A : Option Addr} {n c : Nat} {a : Int} (h : IsRd w g A n c a) (hm : w1.heap[g]? = w.heap[g]?) : IsRd w1 g A n c a := ⟨hm.trans h.1, h.2⟩
theorem res29 {W : World} {X E : Nat} {a0 a1 a2 a3 a4 a5 a6 a7 a8 a9 a10 a11 e : Value} {tmps : Array Value} (h : Bk W X #[a0, a1, a2, a3, a4, a5, a6, a7, a8, a9, a10, a11] 40) (hE : Bk W E #[e] 23) (ht : tmps.getD 2 undef = .pointer (some ⟨X, 0, none⟩)) (ht2 : tmps.getD 3 undef = .pointer (some ⟨E, 0, none⟩)) :
    (results Try.f29 tmps).run Try.prog W = .ok (.tuple #[.agg #[a0, a1, a2, a3, a4, a5, a6, a7, a8, a9, a10, a11], e]) W := by
  have q0 := h.cell 0 a0 rfl
  have q1 := h.cell 1 a1 rfl
  have q2 := h.cell 2 a2 rfl
  have q3 := h.cell 3 a3 rfl
  have q4 := h.cell 4 a4 rfl
  have q5 := h.cell 5 a5 rfl
  have q6 := h.cell 6 a6 rfl
  have q7 := h.cell 7 a7 rfl
  have q8 := h.cell 8 a8 rfl
  have q9 := h.cell 9 a9 rfl
  have q10 := h.cell 10 a10 rfl
  have q11 := h.cell 11 a11 rfl
  have q12 := hE.cell 0 e rfl
  have t1 : tmps[2]?.getD undef = .pointer (some ⟨X, 0, none⟩) := by simpa using ht
  have t2 : tmps[3]?.getD undef = .pointer (some ⟨E, 0, none⟩) := by simpa using ht2
  simp [results, Try.results29, go_sem, t1, t2, q0, q1, q2, q3, q4, q5, q6, q7, q8, q9, q10, q11, q12]
namespace C29
variable {w0 W W1 : World} {g : Nat} {A : Option Addr} {n c : Nat} {a a1 : Int} {X E m : Nat} {cX cm : Array Value} {e : Int}
theorem step (h : C29 w0 W g A n c a X E m cX cm e) (B : Below w0.heap.size w0 W1) (R : IsRd W1 g A n c a1) (hx : W1.heap[X]? = W.heap[X]?) (he : W1.heap[E]? = W.heap[E]?) (hm : W1.heap[m]? = W.heap[m]?) : C29 w0 W1 g A n c a1 X E m cX cm e :=
  ⟨B, R, h.g0, h.x0, h.e0, h.m0, h.gx, h.ge, h.gm, h.xe, h.xm, h.em, hx.trans h.x, he.trans h.e, hm.trans h.m⟩
theorem call (h : C29 w0 W g A n c a X E m cX cm e) (B : Below w0.heap.size w0 W1) (K : KeepBut W W1 g none) (R : IsRd W1 g A n c a1) : C29 w0 W1 g A n c a1 X E m cX cm e :=
  ⟨B, R, h.g0, h.x0, h.e0, h.m0, h.gx, h.ge, h.gm, h.xe, h.xm, h.em, h.x.keep K h.gx, h.e.keep K h.ge, h.m.keep K h.gm⟩
theorem drew (h : C29 w0 W g A n c a X E m cX cm e) : C29 w0 W.drew g A n c a X E m cX cm e := h.step (below_drew1 h.below) h.rd rfl rfl rfl
theorem alloc (h : C29 w0 W g A n c a X E m cX cm e) (o : Obj) : C29 w0 (W.alloc o) g A n c a X E m cX cm e :=
  h.step (below_alloc h.below o) (h.rd.alloc o) (Below.heap_alloc W o X h.x.lt) (Below.heap_alloc W o E h.e.lt) (Below.heap_alloc W o m h.m.lt)
theorem setM (h : C29 w0 W g A n c a X E m cX cm e) (j : Nat) (u : Value) : C29 w0 (W.setCell ⟨m, j, none⟩ u) g A n c a X E m cX (cm.setIfInBounds j u) e :=
  ⟨h.below.setCell (p := ⟨m, j, none⟩) h.m0 _, h.rd.move (Below.heap_setCell W ⟨m, j, none⟩ u g (Ne.symm h.gm)), h.g0, h.x0, h.e0, h.m0, h.gx, h.ge, h.gm, h.xe, h.xm, h.em,
    (Below.heap_setCell W ⟨m, j, none⟩ u X h.xm).trans h.x, (Below.heap_setCell W ⟨m, j, none⟩ u E h.em).trans h.e, by have := h.m; unfold Bk at this ⊢; simp [World.setCell, Array.getElem?_modify, this]⟩
theorem grown (h : C29 w0 W g A n c a X E m cX cm e) (B : Below w0.heap.size w0 W1) {α : Type} {d : Kd α} {base : Nat} {ok : Nat → Prop} {v : Value} {xs : List α} (G : W.grownBy W1 v.ownBlock) (HS : Kd.S d 34 W base ok v xs) : C29 w0 W1 g A n c a X E m cX cm e :=
  h.step B (h.rd.move (G.block g h.rd.lt (Kd.S_ne HS h.rd.1 (by decide)))) (G.block X h.x.lt (Kd.S_ne HS h.x (by decide))) (G.block E h.e.lt (Kd.S_ne HS h.e (by decide))) (G.block m h.m.lt (Kd.S_ne HS h.m (by decide)))
/-- The deferred call turns a fault into the answer. -/
theorem panic (h : C29 w0 W g A n c a X E m Z40 cm e) (B : Below w0.heap.size w0 W1) (K : KeepBut W W1 g none) {r : MsgR} {x : Int} (hr : r = msgZ x) {tmps : Array Value} (ht : tmps.getD 2 undef = .pointer (some ⟨X, 0, none⟩)) (ht2 : tmps.getD 3 undef = .pointer (some ⟨E, 0, none⟩)) :
    bodyPostD Try.prog Try.f29 (fun e w' => MsgPost w0 r e w') (.panic (fault x)) { tmps := tmps, defers := door E } W1 := by
  have hE := h.e.keep K h.ge
  have hX := h.x.keep K h.gx
  refine door_panic (v := .tuple #[.agg #[.int .i64 0, .int .i64 0, .int .i64 0, .int .i64 0, .int .i64 0, .int .i64 0, .int .i64 0, .int .i64 0, .int .i64 0, .bool false, .slice none 0 0, .slice none 0 0], .int .i64 x]) hE (fun W2 hW => ?_)
  subst hW
  have hE2 : Bk (W1.setCell ⟨E, 0, none⟩ (.int .i64 x)) E #[.int .i64 x] 23 := by unfold Bk at hE ⊢; simp [World.setCell, Array.getElem?_modify, hE]
  have hX2 : Bk (W1.setCell ⟨E, 0, none⟩ (.int .i64 x)) X Z40 40 := (Below.heap_setCell W1 ⟨E, 0, none⟩ _ X h.xe).trans hX
  subst hr
  exact ⟨res29 hX2 hE2 ht ht2, _, _, rfl, Kd.S_nil _ _ _ _ _, Kd.R_nil _ _ _ _ _, B.setCell (p := ⟨E, 0, none⟩) h.e0 _⟩
theorem put (h : C29 w0 W g A n c a X E m Z40 cm e) (a0 a1 a2 a3 a4 a5 a6 a7 a8 a9 a10 a11 : Value) (x : Int) : Below w0.heap.size w0 (((((((((((((W.setCell ⟨X, 0, none⟩ a0).setCell ⟨X, 1, none⟩ a1).setCell ⟨X, 2, none⟩ a2).setCell ⟨X, 3, none⟩ a3).setCell ⟨X, 4, none⟩ a4).setCell ⟨X, 5, none⟩ a5).setCell ⟨X, 6, none⟩ a6).setCell ⟨X, 7, none⟩ a7).setCell ⟨X, 8, none⟩ a8).setCell ⟨X, 9, none⟩ a9).setCell ⟨X, 10, none⟩ a10).setCell ⟨X, 11, none⟩ a11).setCell ⟨E, 0, none⟩ (.int .i64 x)) ∧ Bk (((((((((((((W.setCell ⟨X, 0, none⟩ a0).setCell ⟨X, 1, none⟩ a1).setCell ⟨X, 2, none⟩ a2).setCell ⟨X, 3, none⟩ a3).setCell ⟨X, 4, none⟩ a4).setCell ⟨X, 5, none⟩ a5).setCell ⟨X, 6, none⟩ a6).setCell ⟨X, 7, none⟩ a7).setCell ⟨X, 8, none⟩ a8).setCell ⟨X, 9, none⟩ a9).setCell ⟨X, 10, none⟩ a10).setCell ⟨X, 11, none⟩ a11).setCell ⟨E, 0, none⟩ (.int .i64 x)) X #[a0, a1, a2, a3, a4, a5, a6, a7, a8, a9, a10, a11] 40 ∧ Bk (((((((((((((W.setCell ⟨X, 0, none⟩ a0).setCell ⟨X, 1, none⟩ a1).setCell ⟨X, 2, none⟩ a2).setCell ⟨X, 3, none⟩ a3).setCell ⟨X, 4, none⟩ a4).setCell ⟨X, 5, none⟩ a5).setCell ⟨X, 6, none⟩ a6).setCell ⟨X, 7, none⟩ a7).setCell ⟨X, 8, none⟩ a8).setCell ⟨X, 9, none⟩ a9).setCell ⟨X, 10, none⟩ a10).setCell ⟨X, 11, none⟩ a11).setCell ⟨E, 0, none⟩ (.int .i64 x)) E #[.int .i64 x] 23 := by
  have b : Below w0.heap.size w0 W := h.below
  have q : Bk W X Z40 40 := h.x
  have p : Bk W E #[.int .i64 e] 23 := h.e
  replace b := b.setCell (p := ⟨X, 0, none⟩) h.x0 a0
  replace q : Bk _ X #[a0, .int .i64 0, .int .i64 0, .int .i64 0, .int .i64 0, .int .i64 0, .int .i64 0, .int .i64 0, .int .i64 0, .bool false, .slice none 0 0, .slice none 0 0] 40 := q.setq 0 a0
  replace p := p.farq (p := ⟨X, 0, none⟩) (Ne.symm h.xe) a0
  replace b := b.setCell (p := ⟨X, 1, none⟩) h.x0 a1
  replace q : Bk _ X #[a0, a1, .int .i64 0, .int .i64 0, .int .i64 0, .int .i64 0, .int .i64 0, .int .i64 0, .int .i64 0, .bool false, .slice none 0 0, .slice none 0 0] 40 := q.setq 1 a1
  replace p := p.farq (p := ⟨X, 1, none⟩) (Ne.symm h.xe) a1
  replace b := b.setCell (p := ⟨X, 2, none⟩) h.x0 a2
  replace q : Bk _ X #[a0, a1, a2, .int .i64 0, .int .i64 0, .int .i64 0, .int .i64 0, .int .i64 0, .int .i64 0, .bool false, .slice none 0 0, .slice none 0 0] 40 := q.setq 2 a2
  replace p := p.farq (p := ⟨X, 2, none⟩) (Ne.symm h.xe) a2
  replace b := b.setCell (p := ⟨X, 3, none⟩) h.x0 a3
  replace q : Bk _ X #[a0, a1, a2, a3, .int .i64 0, .int .i64 0, .int .i64 0, .int .i64 0, .int .i64 0, .bool false, .slice none 0 0, .slice none 0 0] 40 := q.setq 3 a3
  replace p := p.farq (p := ⟨X, 3, none⟩) (Ne.symm h.xe) a3
  replace b := b.setCell (p := ⟨X, 4, none⟩) h.x0 a4
  replace q : Bk _ X #[a0, a1, a2, a3, a4, .int .i64 0, .int .i64 0, .int .i64 0, .int .i64 0, .bool false, .slice none 0 0, .slice none 0 0] 40 := q.setq 4 a4
  replace p := p.farq (p := ⟨X, 4, none⟩) (Ne.symm h.xe) a4
  replace b := b.setCell (p := ⟨X, 5, none⟩) h.x0 a5
  replace q : Bk _ X #[a0, a1, a2, a3, a4, a5, .int .i64 0, .int .i64 0, .int .i64 0, .bool false, .slice none 0 0, .slice none 0 0] 40 := q.setq 5 a5
  replace p := p.farq (p := ⟨X, 5, none⟩) (Ne.symm h.xe) a5
  replace b := b.setCell (p := ⟨X, 6, none⟩) h.x0 a6
  replace q : Bk _ X #[a0, a1, a2, a3, a4, a5, a6, .int .i64 0, .int .i64 0, .bool false, .slice none 0 0, .slice none 0 0] 40 := q.setq 6 a6
  replace p := p.farq (p := ⟨X, 6, none⟩) (Ne.symm h.xe) a6
  replace b := b.setCell (p := ⟨X, 7, none⟩) h.x0 a7
  replace q : Bk _ X #[a0, a1, a2, a3, a4, a5, a6, a7, .int .i64 0, .bool false, .slice none 0 0, .slice none 0 0] 40 := q.setq 7 a7
  replace p := p.farq (p := ⟨X, 7, none⟩) (Ne.symm h.xe) a7
  replace b := b.setCell (p := ⟨X, 8, none⟩) h.x0 a8
  replace q : Bk _ X #[a0, a1, a2, a3, a4, a5, a6, a7, a8, .bool false, .slice none 0 0, .slice none 0 0] 40 := q.setq 8 a8
  replace p := p.farq (p := ⟨X, 8, none⟩) (Ne.symm h.xe) a8
  replace b := b.setCell (p := ⟨X, 9, none⟩) h.x0 a9
  replace q : Bk _ X #[a0, a1, a2, a3, a4, a5, a6, a7, a8, a9, .slice none 0 0, .slice none 0 0] 40 := q.setq 9 a9
  replace p := p.farq (p := ⟨X, 9, none⟩) (Ne.symm h.xe) a9
  replace b := b.setCell (p := ⟨X, 10, none⟩) h.x0 a10
  replace q : Bk _ X #[a0, a1, a2, a3, a4, a5, a6, a7, a8, a9, a10, .slice none 0 0] 40 := q.setq 10 a10
  replace p := p.farq (p := ⟨X, 10, none⟩) (Ne.symm h.xe) a10
  replace b := b.setCell (p := ⟨X, 11, none⟩) h.x0 a11
  replace q : Bk _ X #[a0, a1, a2, a3, a4, a5, a6, a7, a8, a9, a10, a11] 40 := q.setq 11 a11
  replace p := p.farq (p := ⟨X, 11, none⟩) (Ne.symm h.xe) a11
  exact ⟨b.setCell (p := ⟨E, 0, none⟩) h.e0 _, q.farq (p := ⟨E, 0, none⟩) h.xe _, p.setq 0 _⟩
end C29
theorem C29.start {w0 : World} {A : Option Addr} {n c : Nat} :
    C29 w0 ((((w0.alloc (.cells Z40 40 (0, 0))).alloc (.cells #[.int .i64 0] 23 (0, 0))).alloc (.cells #[.slice A n c, .int .i64 0] 74 (0, 0))).alloc (.cells Z40 40 (0, 0))) (w0.heap.size + 1 + 1) A n c 0 w0.heap.size (w0.heap.size + 1) (w0.heap.size + 1 + 1 + 1) Z40 Z40 0 := by
  have h1 : (w0.alloc (.cells Z40 40 (0, 0))).heap.size = w0.heap.size + 1 := World.size_alloc _ _
  have h2 : ((w0.alloc (.cells Z40 40 (0, 0))).alloc (.cells #[.int .i64 0] 23 (0, 0))).heap.size = w0.heap.size + 1 + 1 := by rw [World.size_alloc, h1]
  have h3 : (((w0.alloc (.cells Z40 40 (0, 0))).alloc (.cells #[.int .i64 0] 23 (0, 0))).alloc (.cells #[.slice A n c, .int .i64 0] 74 (0, 0))).heap.size = w0.heap.size + 1 + 1 + 1 := by rw [World.size_alloc, h2]
  have b0 : Bk (w0.alloc (.cells Z40 40 (0, 0))) w0.heap.size Z40 40 := blk_new w0 _
  have b1 : Bk ((w0.alloc (.cells Z40 40 (0, 0))).alloc (.cells #[.int .i64 0] 23 (0, 0))) (w0.heap.size + 1) #[.int .i64 0] 23 := by
    have := blk_new (w0.alloc (.cells Z40 40 (0, 0))) (.cells #[.int .i64 0] 23 (0, 0))
    rwa [h1] at this
  have b2 := blk_new ((w0.alloc (.cells Z40 40 (0, 0))).alloc (.cells #[.int .i64 0] 23 (0, 0))) (.cells #[.slice A n c, .int .i64 0] 74 (0, 0))
  rw [h2] at b2
  have b3 := blk_new (((w0.alloc (.cells Z40 40 (0, 0))).alloc (.cells #[.int .i64 0] 23 (0, 0))).alloc (.cells #[.slice A n c, .int .i64 0] 74 (0, 0))) (.cells Z40 40 (0, 0))
  rw [h3] at b3
  exact ⟨below_alloc (below_alloc (below_alloc (below_alloc (Below.refl _ _) _) _) _) _, (show IsRd _ _ A n c 0 from ⟨b2, by omega, by omega⟩).alloc _, by omega, by omega, by omega, by omega, by omega, by omega, by omega, by omega, by omega, by omega, ((b0.allocq _).allocq _).allocq _, (b1.allocq _).allocq _, b3⟩
end Go.Proofs.Ytlbioffpcoikaaa.PW
