import Derived.Test.YtlbioffpcoikaaaEScan2
import Derived.Test.YtlbioffpcoikaaaEEntry
namespace Go.Proofs.Ytlbioffpcoikaaa.PW
open Go.RowKit Go.Proofs.YtlbioffpcoikaaaW.PrintWords Go.Proofs.YtlbioffpcoikaaaW.PrintLast Go.Proofs.YtlbioffpcoikaaaW.PrintMore
set_option linter.unusedVariables false
set_option linter.unusedSimpArgs false
/-- The scan's state: a place, or the first fault. -/
def IsSt (w : World) (g : Nat) (A : Option Addr) (n c : Nat) (st : Except Int Int) : Prop := match st with
  | .ok a => IsSc w g A n c a 0
  | .error x => x ≠ 0 ∧ ∃ a, IsSc w g A n c a x
theorem IsSc.move {w w1 : World} {g : Nat} {A : Option Addr} {n c : Nat} {a e : Int} (h : IsSc w g A n c a e) (hm : w1.heap[g]? = w.heap[g]?) : IsSc w1 g A n c a e := ⟨hm.trans h.1, h.2⟩
namespace IsSt
variable {w w1 : World} {g : Nat} {A : Option Addr} {n c : Nat} {st : Except Int Int}
theorem move (h : IsSt w g A n c st) (hm : w1.heap[g]? = w.heap[g]?) : IsSt w1 g A n c st := by
  cases st with
  | ok a => exact IsSc.move h hm
  | error x => obtain ⟨h0, a, h1⟩ := h; exact ⟨h0, a, h1.move hm⟩
theorem lt (h : IsSt w g A n c st) : g < w.heap.size := by
  cases st with
  | ok a => exact IsSc.lt h
  | error x => obtain ⟨h0, a, h1⟩ := h; exact h1.lt
theorem drewN (h : IsSt w g A n c st) (k : Nat) : IsSt (w.drewN k) g A n c st := h.move rfl
theorem alloc (h : IsSt w g A n c st) (o : Obj) : IsSt (w.alloc o) g A n c st := h.move (Below.heap_alloc w o g h.lt)
theorem far (h : IsSt w g A n c st) (p : Addr) (u : Value) (hne : g ≠ p.block) : IsSt (w.setCell p u) g A n c st := h.move (Below.heap_setCell w p u g hne)
end IsSt
def scOne (l : List Int) (st : Except Int Int) (least most : Int) : Int × Except Int Int := match st with
  | .error x => (0, .error x)
  | .ok a => match rdByte l a least most with
    | .error x => (0, .error x)
    | .ok (k, a1) => (k, .ok a1)
def scNum (l : List Int) (st : Except Int Int) (least : Int) : Int × Except Int Int := match st with
  | .error x => (0, .error x)
  | .ok a => match rdNum l a least with
    | .error x => (0, .error x)
    | .ok (k, a1) => (k, .ok a1)
def scRow (l : List Int) (st : Except Int Int) (most : Int) : List Int × Except Int Int := match st with
  | .error x => ([], .error x)
  | .ok a => match rdData l a most with
    | .error x => ([], .error x)
    | .ok (d, a1) => (d, .ok a1)
def scEnd (l : List Int) (st : Except Int Int) : Except Int Int := match st with
  | .error x => .error x
  | .ok a => if a < l.length then .error 4 else .ok a
def ScAny (w0 w : World) (g : Nat) (A : Option Addr) (n c : Nat) (v : Value) (st : Except Int Int) (e : Ending) (w' : World) : Prop :=
  Below w0.heap.size w0 w' ∧ KeepBut w w' g none ∧ e = .returned v ∧ IsSt w' g A n c st
def ScRowAny (w0 w : World) (g : Nat) (A : Option Addr) (n c : Nat) (xs : List Int) (st : Except Int Int) (e : Ending) (w' : World) : Prop :=
  Below w0.heap.size w0 w' ∧ KeepBut w w' g none ∧ ∃ v, e = .returned v ∧ Kd.R (Kd.int .u8) 5 w' w.heap.size (fun _ => True) v xs ∧ IsSt w' g A n c st
section
variable (w0 w : World) (g : Nat) (A : Option Addr) (c : Nat) (l : List Int) (st : Except Int Int) (hr : Kd.C (Kd.int .u8) w0 A l.length l) (hc : l.length ≤ c) (hI : IsSt w g A l.length c st)
    (hB : Below w0.heap.size w0 w) (hg : w0.heap.size ≤ g) (hok : okLen l)
include hr hc hI hB hg hok
theorem one_any (least most k : Int) (s1 : Except Int Int) (hres : scOne l st least most = (k, s1)) :
    Calls Try.prog 47 #[.pointer (some ⟨g, 0, none⟩), .int .i64 least, .int .i64 most] w fun e w' => ScAny w0 w g A l.length c (.int .i64 k) s1 e w' := by
  cases st with
  | ok a =>
    refine (one_ok w0 w g A c l a least most (Kd.C_below hr hB) hc hI hB hg hok _ rfl).mono ?_
    rintro e w' ⟨B, K, hm⟩
    unfold scOne at hres
    dsimp only at hres
    cases hn : rdByte l a least most with
    | error x =>
      rw [hn] at hm hres; cases hres
      exact ⟨B, K, hm.1, hm.2⟩
    | ok p =>
      obtain ⟨k1, a1⟩ := p
      rw [hn] at hm hres; cases hres
      exact ⟨B, K, hm.1, hm.2⟩
  | error x =>
    obtain ⟨h0, a, h1⟩ := hI
    unfold scOne at hres; cases hres
    refine (one_err w g A l.length c a x least most h1 h0).mono ?_
    rintro e w' ⟨rfl, rfl⟩
    exact ⟨hB, KeepBut.refl _ _ _, rfl, h0, a, h1⟩
theorem num_any (least k : Int) (s1 : Except Int Int) (hres : scNum l st least = (k, s1)) :
    Calls Try.prog 48 #[.pointer (some ⟨g, 0, none⟩), .int .i64 least] w fun e w' => ScAny w0 w g A l.length c (.int .i64 k) s1 e w' := by
  cases st with
  | ok a =>
    refine (num_ok w0 w g A c l a least (Kd.C_below hr hB) hc hI hB hg hok _ rfl).mono ?_
    rintro e w' ⟨B, K, hm⟩
    unfold scNum at hres
    dsimp only at hres
    cases hn : rdNum l a least with
    | error x =>
      rw [hn] at hm hres; cases hres
      exact ⟨B, K, hm.1, hm.2⟩
    | ok p =>
      obtain ⟨k1, a1⟩ := p
      rw [hn] at hm hres; cases hres
      exact ⟨B, K, hm.1, hm.2⟩
  | error x =>
    obtain ⟨h0, a, h1⟩ := hI
    unfold scNum at hres; cases hres
    refine (num_err w g A l.length c a x least h1 h0).mono ?_
    rintro e w' ⟨rfl, rfl⟩
    exact ⟨hB, KeepBut.refl _ _ _, rfl, h0, a, h1⟩
theorem row_any (most : Int) (hmost : most ≤ 1000000) (d : List Int) (s1 : Except Int Int) (hres : scRow l st most = (d, s1)) :
    Calls Try.prog 51 #[.pointer (some ⟨g, 0, none⟩), .int .i64 most] w fun e w' => ScRowAny w0 w g A l.length c d s1 e w' := by
  cases st with
  | ok a =>
    refine (row_ok w0 w g A c l a most hr hc hI hB hg hok hmost _ rfl).mono ?_
    rintro e w' ⟨B, K, hm⟩
    unfold scRow at hres
    dsimp only at hres
    cases hn : rdData l a most with
    | error x =>
      rw [hn] at hm hres; cases hres
      exact ⟨B, K, _, hm.1, Kd.R_nil _ _ _ _ _, hm.2⟩
    | ok p =>
      obtain ⟨k1, a1⟩ := p
      rw [hn] at hm hres; cases hres
      exact ⟨B, K, hm⟩
  | error x =>
    obtain ⟨h0, a, h1⟩ := hI
    unfold scRow at hres; cases hres
    refine (row_err w g A l.length c a x most h1 h0).mono ?_
    rintro e w' ⟨rfl, m, rfl⟩
    exact ⟨pw_below_drewN hB m, keep_drewN (KeepBut.refl _ _ _) m, _, rfl, Kd.R_nil _ _ _ _ _, h0, a, h1.drewN m⟩
omit hr hc hok in
theorem scend_any (s1 : Except Int Int) (hres : scEnd l st = s1) :
    Calls Try.prog 52 #[.pointer (some ⟨g, 0, none⟩)] w fun e w' => ScAny w0 w g A l.length c (.tuple #[]) s1 e w' := by
  cases st with
  | ok a =>
    refine (scend_ok w g A l.length c a hI).mono ?_
    rintro e w' ⟨rfl, m, ⟨h, rfl⟩ | ⟨h, rfl⟩⟩
    · unfold scEnd at hres; dsimp only at hres; rw [if_pos h] at hres; subst hres
      exact ⟨(pw_below_drewN hB m).setCell (p := ⟨g, 2, none⟩) hg _, (keep_drewN (KeepBut.refl _ _ _) m).set_ 2 _, rfl, by decide, a, (IsSc.drewN hI m).set2 4⟩
    · unfold scEnd at hres; dsimp only at hres; rw [if_neg h] at hres; subst hres
      exact ⟨pw_below_drewN hB m, keep_drewN (KeepBut.refl _ _ _) m, rfl, IsSc.drewN hI m⟩
  | error x =>
    obtain ⟨h0, a, h1⟩ := hI
    unfold scEnd at hres; subst hres
    refine (scend_err w g A l.length c a x h1 h0).mono ?_
    rintro e w' ⟨rfl, m, rfl⟩
    exact ⟨pw_below_drewN hB m, keep_drewN (KeepBut.refl _ _ _) m, rfl, h0, a, h1.drewN m⟩
end
/-- A fault where there is none. -/
theorem fail_any (w0 w : World) (g : Nat) (A : Option Addr) (n c : Nat) (a x : Int) (hI : IsSt w g A n c (.ok a)) (hB : Below w0.heap.size w0 w) (hg : w0.heap.size ≤ g) (hx : x ≠ 0) :
    Calls Try.prog 49 #[.pointer (some ⟨g, 0, none⟩), .int .i64 x] w fun e w' => ScAny w0 w g A n c (.tuple #[]) (.error x) e w' := by
  refine (fail_calls w g A n c a x hI).mono ?_
  rintro e w' ⟨rfl, rfl⟩
  exact ⟨hB.setCell (p := ⟨g, 2, none⟩) hg _, (KeepBut.refl _ _ _).set_ 2 _, rfl, hx, a, IsSc.set2 hI x⟩
def entTail (n : Int) (st : Except Int Int) : Except Int Int := match st with
  | .error x => .error x
  | .ok a => if 0 < n then .error 4 else .ok a
/-- s.entry() -/
def scEntry (l : List Int) (st : Except Int Int) : (Int × Int × Int × List Int) × Except Int Int :=
  let k := scOne l st 1 3
  let t := scNum l k.2 1
  let i := scNum l t.2 1
  if k.1 = 1 then
    let n := scNum l i.2 0
    ((1, t.1, i.1, []), entTail n.1 n.2)
  else
    let d := scRow l i.2 2048
    ((k.1, t.1, i.1, d.1), d.2)
def ScEnt (w0 w : World) (g : Nat) (A : Option Addr) (n c : Nat) (x : Int × Int × Int × List Int) (st : Except Int Int) (e : Ending) (w' : World) : Prop :=
  Below w0.heap.size w0 w' ∧ KeepBut w w' g none ∧ ∃ v, e = .returned (.agg #[.int .i64 x.1, .int .i64 x.2.1, .int .i64 x.2.2.1, v]) ∧ Kd.R (Kd.int .u8) 5 w' w.heap.size (fun _ => True) v x.2.2.2 ∧ IsSt w' g A n c st
/-- A scan's caller with a block of its own. -/
structure CS (w0 w W : World) (g : Nat) (A : Option Addr) (n c : Nat) (st : Except Int Int) (X : Nat) (cX : Array Value) (t : TypeId) : Prop where
  below : Below w0.heap.size w0 W
  keep : KeepBut w W g none
  st : IsSt W g A n c st
  gw : g < w.heap.size
  xw : w.heap.size ≤ X
  x : Bk W X cX t
  old : w0.heap.size ≤ w.heap.size
namespace CS
variable {w0 w W W1 : World} {g : Nat} {A : Option Addr} {n c : Nat} {st s1 : Except Int Int} {X : Nat} {cX : Array Value} {t : TypeId}
theorem call (h : CS w0 w W g A n c st X cX t) (B : Below w0.heap.size w0 W1) (K : KeepBut W W1 g none) (R : IsSt W1 g A n c s1) : CS w0 w W1 g A n c s1 X cX t :=
  ⟨B, h.keep.trans K (.inl rfl), R, h.gw, h.xw, h.x.keep K (by have := h.gw; have := h.xw; omega), h.old⟩
theorem setX (h : CS w0 w W g A n c st X cX t) (j : Nat) (u : Value) : CS w0 w (W.setCell ⟨X, j, none⟩ u) g A n c st X (cX.setIfInBounds j u) t :=
  ⟨h.below.setCell (p := ⟨X, j, none⟩) (Nat.le_trans h.old h.xw) _, keep_far h.keep (p := ⟨X, j, none⟩) h.xw _, h.st.far _ _ (by have := h.gw; have := h.xw; show g ≠ X; omega), h.gw, h.xw,
    by have := h.x; unfold Bk at this ⊢; simp [World.setCell, Array.getElem?_modify, this], h.old⟩
theorem drewN (h : CS w0 w W g A n c st X cX t) (m : Nat) : CS w0 w (W.drewN m) g A n c st X cX t := ⟨pw_below_drewN h.below m, keep_drewN h.keep m, h.st.drewN m, h.gw, h.xw, h.x, h.old⟩
end CS
theorem ret50 {R : Ending → World → Prop} {W : World} {X : Nat} {a b c d : Value} {tmps : Array Value} (h : Bk W X #[a, b, c, d] 34) (htm : tmps.getD 2 undef = .pointer (some ⟨X, 0, none⟩))
    (hR : R (.returned (.agg #[a, b, c, d])) W) : bodyPost Try.prog Try.f50 R .ret { tmps := tmps, defers := [] } W := by
  have q0 := h.cell 0 _ rfl
  have q1 := h.cell 1 _ rfl
  have q2 := h.cell 2 _ rfl
  have q3 := h.cell 3 _ rfl
  refine bodyPost_ret (v := .agg #[a, b, c, d]) ?_ rfl hR
  have ht : tmps[2]?.getD undef = .pointer (some ⟨X, 0, none⟩) := by simpa using htm
  simp [results, Try.results50, go_sem, ht, q0, q1, q2, q3]
set_option maxHeartbeats 2000000 in
set_option maxRecDepth 100000 in
theorem scentry_any (w0 w : World) (g : Nat) (A : Option Addr) (c : Nat) (l : List Int) (st : Except Int Int) (hr : Kd.C (Kd.int .u8) w0 A l.length l) (hc : l.length ≤ c) (hI : IsSt w g A l.length c st)
    (hB : Below w0.heap.size w0 w) (hg : w0.heap.size ≤ g) (hok : okLen l) (x : Int × Int × Int × List Int) (s1 : Except Int Int) (hres : scEntry l st = (x, s1)) :
    Calls Try.prog 50 #[.pointer (some ⟨g, 0, none⟩)] w fun e w' => ScEnt w0 w g A l.length c x s1 e w' := by
  obtain ⟨k, sk, hk⟩ : ∃ k s, scOne l st 1 3 = (k, s) := ⟨_, _, rfl⟩
  obtain ⟨t, st1, ht⟩ : ∃ k s, scNum l sk 1 = (k, s) := ⟨_, _, rfl⟩
  obtain ⟨i, si, hi⟩ : ∃ k s, scNum l st1 1 = (k, s) := ⟨_, _, rfl⟩
  have HS := Aside0.mk hres
  have HI := Aside0.mk hI
  have HB := Aside0.mk hB
  have HR := Aside0.mk hr
  have HK := Aside0.mk hok
  have H1 := Aside0.mk hk
  have H2 := Aside0.mk ht
  have H3 := Aside0.mk hi
  have hgl := hI.lt
  have hsz := hB.size
  clear hB hI hres hr hok hk ht hi
  go_enter Try.func50, Try.ntmps50
  go_wp2_with fail
  have B0 := Aside0.mk (below_alloc HB.out (.cells Z34 34 (0, 0)))
  have K0 := Aside0.mk (keep_alloc (KeepBut.refl w g none) (.cells Z34 34 (0, 0)))
  refine (one_any w0 _ g A c l st HR.out hc (HI.out.alloc _) B0.out hg HK.out 1 3 k sk H1.out).mono ?_
  rintro e w1 ⟨B1, K1, rfl, I1⟩
  have HC1 := Aside0.mk (show CS w0 w w1 g A l.length c sk w.heap.size Z34 34 from ⟨B1, K0.out.trans K1 (.inl rfl), I1, hgl, Nat.le_refl _, K1.blk (blk_new w _) (by omega) (by simp), hsz⟩)
  clear B1 K1 I1
  go_wp2_with fail
  refine (num_any w0 _ g A c l sk HR.out hc HC1.out.st HC1.out.below hg HK.out 1 t st1 H2.out).mono ?_
  rintro e w2 ⟨B2, K2, rfl, I2⟩
  have HC2 := Aside0.mk (HC1.out.call B2 K2 I2)
  clear B2 K2 I2 HC1
  go_wp2_with fail
  refine (num_any w0 _ g A c l st1 HR.out hc HC2.out.st HC2.out.below hg HK.out 1 i si H3.out).mono ?_
  rintro e w3 ⟨B3, K3, rfl, I3⟩
  have HC3 := Aside0.mk (HC2.out.call B3 K3 I3)
  clear B3 K3 I3 HC2
  by_cases hk : k = 1
  · have hkb : (k == 1) = true := by simpa using hk
    have HKK := Aside0.mk hk
    clear hk
    obtain ⟨n, sn, hn⟩ : ∃ k s, scNum l si 0 = (k, s) := ⟨_, _, rfl⟩
    have H4 := Aside0.mk hn
    clear hn
    go_wp2_with fail
    refine (num_any w0 _ g A c l si HR.out hc HC3.out.st HC3.out.below hg HK.out 0 n sn H4.out).mono ?_
    rintro e w4 ⟨B4, K4, rfl, I4⟩
    have HC4 := Aside0.mk (HC3.out.call B4 K4 I4)
    clear B4 K4 I4 HC3
    have hx : (x, s1) = ((1, t, i, []), entTail n sn) := by
      rw [← HS.out, scEntry, H1.out]; simp only; rw [H2.out]; simp only; rw [H3.out]; simp only; rw [if_pos HKK.out, H4.out]
    cases sn with
    | error y =>
      obtain ⟨rfl, rfl⟩ : x = (1, t, i, []) ∧ s1 = .error y := by simpa [entTail] using hx
      clear hx
      obtain ⟨hy, a, hsc⟩ := HC4.out.st
      have hy1 : (y == 0) = false := by simpa using hy
      have hy2 : (y != 0) = true := by simpa using hy
      have c2 := hsc.cell2
      have x0 := HC4.out.x.cell 0 _ rfl
      have x1 := HC4.out.x.cell 1 _ rfl
      have x2 := HC4.out.x.cell 2 _ rfl
      have x3 := HC4.out.x.cell 3 _ rfl
      have fx := HC4.out.x.frozen
      clear hsc hy
      go_wp2
      have HF := (((HC4.out.setX 0 (.int .i64 1)).setX 1 (.int .i64 t)).setX 2 (.int .i64 i)).setX 3 (.slice none 0 0)
      exact ret50 HF.x rfl ⟨HF.below, HF.keep, _, rfl, Kd.R_nil _ _ _ _ _, HF.st⟩
    | ok a =>
      have hsc : IsSc w4 g A l.length c a 0 := HC4.out.st
      have c2 := hsc.cell2
      clear hsc
      by_cases hn : 0 < n
      · obtain ⟨rfl, rfl⟩ : x = (1, t, i, []) ∧ s1 = .error 4 := by simpa [hn, entTail] using hx
        clear hx
        have hnb : decide (0 < n) = true := by simpa using hn
        go_wp2_with fail
        refine (fail_any w0 _ g A l.length c a 4 HC4.out.st HC4.out.below hg (by decide)).mono ?_
        rintro e w5 ⟨B5, K5, rfl, I5⟩
        have HC5 := Aside0.mk (HC4.out.call B5 K5 I5)
        clear B5 K5 I5 HC4 c2
        have x0 := HC5.out.x.cell 0 _ rfl
        have x1 := HC5.out.x.cell 1 _ rfl
        have x2 := HC5.out.x.cell 2 _ rfl
        have x3 := HC5.out.x.cell 3 _ rfl
        have fx := HC5.out.x.frozen
        go_wp2
        have HF := (((HC5.out.setX 0 (.int .i64 1)).setX 1 (.int .i64 t)).setX 2 (.int .i64 i)).setX 3 (.slice none 0 0)
        exact ret50 HF.x rfl ⟨HF.below, HF.keep, _, rfl, Kd.R_nil _ _ _ _ _, HF.st⟩
      · obtain ⟨rfl, rfl⟩ : x = (1, t, i, []) ∧ s1 = .ok a := by simpa [hn, entTail] using hx
        clear hx
        have hnb : decide (0 < n) = false := by simpa using hn
        have x0 := HC4.out.x.cell 0 _ rfl
        have x1 := HC4.out.x.cell 1 _ rfl
        have x2 := HC4.out.x.cell 2 _ rfl
        have x3 := HC4.out.x.cell 3 _ rfl
        have fx := HC4.out.x.frozen
        go_wp2
        have HF := (((HC4.out.setX 0 (.int .i64 1)).setX 1 (.int .i64 t)).setX 2 (.int .i64 i)).setX 3 (.slice none 0 0)
        exact ret50 HF.x rfl ⟨HF.below, HF.keep, _, rfl, Kd.R_nil _ _ _ _ _, HF.st⟩
  · have hkb : (k == 1) = false := by simpa using hk
    have HKK := Aside0.mk hk
    clear hk
    obtain ⟨d, sd, hd⟩ : ∃ k s, scRow l si 2048 = (k, s) := ⟨_, _, rfl⟩
    have H4 := Aside0.mk hd
    clear hd
    have hx : (x, s1) = ((k, t, i, d), sd) := by
      rw [← HS.out, scEntry, H1.out]; simp only; rw [H2.out]; simp only; rw [H3.out]; simp only; rw [if_neg HKK.out, H4.out]
    obtain ⟨rfl, rfl⟩ : x = (k, t, i, d) ∧ s1 = sd := by simpa using hx
    clear hx
    go_wp2_with fail
    refine (row_any w0 _ g A c l si HR.out hc HC3.out.st HC3.out.below hg HK.out 2048 (by decide) d s1 H4.out).mono ?_
    rintro e w4 ⟨B4, K4, v, rfl, R4, I4⟩
    have HC4 := Aside0.mk (HC3.out.call B4 K4 I4)
    have R5 : Kd.R (Kd.int .u8) 5 w4 w.heap.size (fun k_ => k_ ≠ w.heap.size) v d := Kd.R_lower (Kd.R_mono (Kd.R_bound R4) (fun k_ hk => by
      have h1 := hk.2.1
      have h2 := HC3.out.x.lt
      omega)) HC3.out.keep.1
    clear B4 K4 I4 HC3
    have x0 := HC4.out.x.cell 0 _ rfl
    have x1 := HC4.out.x.cell 1 _ rfl
    have x2 := HC4.out.x.cell 2 _ rfl
    have x3 := HC4.out.x.cell 3 _ rfl
    have fx := HC4.out.x.frozen
    obtain ⟨Ad, cd, rfl⟩ := Kd.R_slice R4
    have HR5 := Aside0.mk R5
    clear R4 R5
    go_wp2
    have HF := (((HC4.out.setX 0 (.int .i64 k)).setX 1 (.int .i64 t)).setX 2 (.int .i64 i)).setX 3 (.slice Ad d.length cd)
    refine ret50 HF.x rfl ⟨HF.below, HF.keep, _, rfl, ?_, HF.st⟩
    exact Kd.R_mono (ok := fun k => k ≠ w.heap.size) (ok' := fun _ => True) (h := Kd.R_far (p := ⟨w.heap.size, 3, none⟩) (Kd.R_far (p := ⟨w.heap.size, 2, none⟩) (Kd.R_far (p := ⟨w.heap.size, 1, none⟩) (Kd.R_far (p := ⟨w.heap.size, 0, none⟩) HR5.out (fun k hk => hk) _) (fun k hk => hk) _) (fun k hk => hk) _) (fun k hk => hk) _) (fun _ _ => trivial)
end Go.Proofs.Ytlbioffpcoikaaa.PW
