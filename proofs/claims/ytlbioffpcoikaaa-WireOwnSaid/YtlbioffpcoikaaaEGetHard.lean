import Derived.Test.YtlbioffpcoikaaaEEntry
namespace Go.Proofs.Ytlbioffpcoikaaa.PW
open Go.RowKit Go.Proofs.YtlbioffpcoikaaaW.PrintWords Go.Proofs.YtlbioffpcoikaaaW.PrintLast Go.Proofs.YtlbioffpcoikaaaW.PrintMore
set_option linter.unusedVariables false
set_option linter.unusedSimpArgs false
theorem caught_idle (p : Addr) (w : World) :
    CallsD Try.prog 41 #[.pointer (some p)] .returning w fun e u' w' => e = .returned (.tuple #[]) ∧ u' = .returning ∧ w' = w := by
  refine callsD_of_wpS Try.func41 rfl fun c₀ cs hu => ?_
  apply wpS_seq
  apply wpS_region
  simp [wpOpsS, go_sem, recoverD, hu, Try.ntmps41, Exit.thenS]
  refine wpS_of_wp ?_
  go_wp2
  cases c₀
  simp_all [bodyPostS, results, Try.results41]
theorem assert77 (v : Value) (W : World) : (Instr.typeAssert (.iface 77 v) 20 77 true).run Try.prog W = .ok (.tuple #[v, .bool true]) W := by kernel_rfl
set_option maxHeartbeats 1000000 in
theorem caught_fault (p : Addr) (x : Int) (u : Value) (w : World) (hc : w.cell? p = some u) (hz : w.frozen? p = false) :
    CallsD Try.prog 41 #[.pointer (some p)] (.panicking (fault x)) w fun e u' w' =>
      e = .returned (.tuple #[]) ∧ u' = .panicking [{ v := .iface 77 (.int .i64 x), recovered := true }] ∧ w' = w.setCell p (.int .i64 x) := by
  refine callsD_of_wpS Try.func41 rfl fun c₀ cs hu => ?_
  apply wpS_seq
  apply wpS_region
  unfold fault at hu
  simp [wpOpsS, go_sem, recoverD, hu, Try.ntmps41, Exit.thenS]
  refine wpS_of_wp ?_
  have hta := assert77
  have ha : #[Value.pointer (some p)] ++ (Array.replicate 13 undef).setIfInBounds 4 (Value.iface 77 (Value.int IntKind.i64 x)) = #[Value.pointer (some p), undef, undef, undef, undef, Value.iface 77 (Value.int IntKind.i64 x), undef, undef, undef, undef, undef, undef, undef, undef] := by rfl
  rw [ha]
  clear ha hu
  go_wp2
  simp [bodyPostS, results, Try.results41]
def door (E : Nat) : List Deferred := [{ target := Target.fn (Fn.func 41) #[], args := #[.pointer (some ⟨E, 0, none⟩)] }]
theorem load_cells {P : Program} {W : World} {X : Nat} {cs : Array Value} {t : TypeId} (h : Bk W X cs t) : True := trivial
theorem door_panic {fn : Func} {R : Ending → World → Prop} {W : World} {E : Nat} {e x : Int} {tmps : Array Value} {v : Value} (hE : Bk W E #[.int .i64 e] 23)
    (hv : ∀ W1, W1 = W.setCell ⟨E, 0, none⟩ (.int .i64 x) → (results fn tmps).run Try.prog W1 = .ok v W1 ∧ R (.returned v) W1) :
    bodyPostD Try.prog fn R (.panic (fault x)) { tmps := tmps, defers := door E } W := by
  refine leaves_cons (f := 41) (args := #[.pointer (some ⟨E, 0, none⟩)]) (by simp) (by simp [go_sem]) ?_
  refine (caught_fault ⟨E, 0, none⟩ x _ W (hE.cell 0 _ rfl) (hE.frozen 0)).mono ?_
  rintro e u' w'' ⟨rfl, rfl, rfl⟩
  obtain ⟨h1, h2⟩ := hv _ rfl
  exact ⟨v, h1, h2⟩
theorem door_ret {fn : Func} {R : Ending → World → Prop} {W : World} {E : Nat} {tmps : Array Value} {v : Value} (h1 : (results fn tmps).run Try.prog W = .ok v W) (h2 : R (.returned v) W) :
    bodyPostD Try.prog fn R .ret { tmps := tmps, defers := door E } W := by
  refine leaves_cons (f := 41) (args := #[.pointer (some ⟨E, 0, none⟩)]) (by simp) (by simp [go_sem]) ?_
  refine (caught_idle ⟨E, 0, none⟩ W).mono ?_
  rintro e u' w'' ⟨rfl, rfl, rfl⟩
  exact ⟨v, h1, h2⟩
theorem res28 {W : World} {X E : Nat} {a b e : Value} {tmps : Array Value} (h : Bk W X #[a, b] 46) (hE : Bk W E #[e] 23) (ht : tmps.getD 2 undef = .pointer (some ⟨X, 0, none⟩)) (ht2 : tmps.getD 3 undef = .pointer (some ⟨E, 0, none⟩)) :
    (results Try.f28 tmps).run Try.prog W = .ok (.tuple #[.agg #[a, b], e]) W := by
  have q0 := h.cell 0 _ rfl
  have q1 := h.cell 1 _ rfl
  have q2 := hE.cell 0 _ rfl
  have t1 : tmps[2]?.getD undef = .pointer (some ⟨X, 0, none⟩) := by simpa using ht
  have t2 : tmps[3]?.getD undef = .pointer (some ⟨E, 0, none⟩) := by simpa using ht2
  simp [results, Try.results28, go_sem, t1, t2, q0, q1, q2]

/-- GetHard's answer. -/
def getHard (l : List Int) : Int × Int × Int :=
  match rdNum l 0 0 with
  | .error x => (0, 0, x)
  | .ok (t, a1) => match rdNum l a1 0 with
    | .error x => (0, 0, x)
    | .ok (v, a2) => if 9 < v then (0, 0, 4) else if a2 < l.length then (0, 0, 4) else (t, v, 0)
def wire_GetHard.f (l0 : List Int) : Option (Int × Int × Int) := if okBytes l0 = true ∧ l0.length ≤ 200000000000000 then some (getHard l0) else none
def HardPost (w0 : World) (r : Int × Int × Int) (e : Ending) (w' : World) : Prop := e = .returned (.tuple #[.agg #[.int .i64 r.1, .int .i64 r.2.1], .int .i64 r.2.2]) ∧ Below w0.heap.size w0 w'
/-- What a Get holds: the result's block X, the error's E, the reader's g. -/
structure G2 (w0 W : World) (g : Nat) (A : Option Addr) (n c : Nat) (at_ : Int) (X : Nat) (cX : Array Value) (t : TypeId) (E : Nat) (e : Int) : Prop where
  below : Below w0.heap.size w0 W
  rd : IsRd W g A n c at_
  g0 : w0.heap.size ≤ g
  x0 : w0.heap.size ≤ X
  e0 : w0.heap.size ≤ E
  gx : X ≠ g
  ge : E ≠ g
  xe : X ≠ E
  x : Bk W X cX t
  e : Bk W E #[.int .i64 e] 23
namespace G2
variable {w0 W W1 : World} {g : Nat} {A : Option Addr} {n c : Nat} {at_ at1 : Int} {X : Nat} {cX : Array Value} {t : TypeId} {E : Nat} {e : Int}
theorem call (h : G2 w0 W g A n c at_ X cX t E e) (B : Below w0.heap.size w0 W1) (K : KeepBut W W1 g none) (R : IsRd W1 g A n c at1) : G2 w0 W1 g A n c at1 X cX t E e :=
  ⟨B, R, h.g0, h.x0, h.e0, h.gx, h.ge, h.xe, h.x.keep K h.gx, h.e.keep K h.ge⟩
theorem setX (h : G2 w0 W g A n c at_ X cX t E e) (j : Nat) (u : Value) : G2 w0 (W.setCell ⟨X, j, none⟩ u) g A n c at_ X (cX.setIfInBounds j u) t E e :=
  ⟨h.below.setCell (p := ⟨X, j, none⟩) h.x0 _, ⟨(Below.heap_setCell W ⟨X, j, none⟩ u g (Ne.symm h.gx)).trans h.rd.1, h.rd.2⟩, h.g0, h.x0, h.e0, h.gx, h.ge, h.xe,
    by have := h.x; unfold Bk at this ⊢; simp [World.setCell, Array.getElem?_modify, this], (Below.heap_setCell W ⟨X, j, none⟩ u E (Ne.symm h.xe)).trans h.e⟩
theorem setE (h : G2 w0 W g A n c at_ X cX t E e) (u : Int) : G2 w0 (W.setCell ⟨E, 0, none⟩ (.int .i64 u)) g A n c at_ X cX t E u :=
  ⟨h.below.setCell (p := ⟨E, 0, none⟩) h.e0 _, ⟨(Below.heap_setCell W ⟨E, 0, none⟩ _ g (Ne.symm h.ge)).trans h.rd.1, h.rd.2⟩, h.g0, h.x0, h.e0, h.gx, h.ge, h.xe,
    (Below.heap_setCell W ⟨E, 0, none⟩ _ X h.xe).trans h.x, by have := h.e; unfold Bk at this ⊢; simp [World.setCell, Array.getElem?_modify, this]⟩
theorem alloc (h : G2 w0 W g A n c at_ X cX t E e) (o : Obj) : G2 w0 (W.alloc o) g A n c at_ X cX t E e :=
  ⟨below_alloc h.below o, h.rd.alloc o, h.g0, h.x0, h.e0, h.gx, h.ge, h.xe, (Below.heap_alloc W o X h.x.lt).trans h.x, (Below.heap_alloc W o E h.e.lt).trans h.e⟩
/-- The error's cell and the rest behind a fault: the reader plays no part any more. -/
theorem bad (h : G2 w0 W g A n c at_ X cX t E e) (B : Below w0.heap.size w0 W1) (K : KeepBut W W1 g none) (u : Int) :
    Below w0.heap.size w0 (W1.setCell ⟨E, 0, none⟩ (.int .i64 u)) ∧ Bk (W1.setCell ⟨E, 0, none⟩ (.int .i64 u)) X cX t ∧ Bk (W1.setCell ⟨E, 0, none⟩ (.int .i64 u)) E #[.int .i64 u] 23 ∧ Bk W1 E #[.int .i64 e] 23 :=
  ⟨B.setCell (p := ⟨E, 0, none⟩) h.e0 _, (Below.heap_setCell W1 ⟨E, 0, none⟩ _ X h.xe).trans (h.x.keep K h.gx), by have := h.e.keep K h.ge; unfold Bk at this ⊢; simp [World.setCell, Array.getElem?_modify, this], h.e.keep K h.ge⟩
theorem start {w0 : World} {A : Option Addr} {n c : Nat} (cX : Array Value) (t : TypeId) (W : World) (hW : W = ((w0.alloc (.cells cX t (0, 0))).alloc (.cells #[.int .i64 0] 23 (0, 0))).alloc (.cells #[.slice A n c, .int .i64 0] 74 (0, 0))) :
    G2 w0 W (w0.heap.size + 1 + 1) A n c 0 w0.heap.size cX t (w0.heap.size + 1) 0 := by
  subst hW
  have h1 : (w0.alloc (.cells cX t (0, 0))).heap.size = w0.heap.size + 1 := World.size_alloc _ _
  have h2 : ((w0.alloc (.cells cX t (0, 0))).alloc (.cells #[.int .i64 0] 23 (0, 0))).heap.size = w0.heap.size + 1 + 1 := by rw [World.size_alloc, h1]
  refine ⟨below_alloc (below_alloc (below_alloc (Below.refl _ _) _) _) _, ⟨?_, by omega, by omega⟩, by omega, by omega, by omega, by omega, by omega, by omega, ?_, ?_⟩
  · have := blk_new ((w0.alloc (.cells cX t (0, 0))).alloc (.cells #[.int .i64 0] 23 (0, 0))) (.cells #[.slice A n c, .int .i64 0] 74 (0, 0))
    rwa [h2] at this
  · exact (Below.heap_alloc _ _ _ (by rw [h2]; omega)).trans ((Below.heap_alloc _ _ _ (by rw [h1]; omega)).trans (blk_new w0 _))
  · refine (Below.heap_alloc _ _ _ (by rw [h2]; omega)).trans ?_
    have := blk_new (w0.alloc (.cells cX t (0, 0))) (.cells #[.int .i64 0] 23 (0, 0))
    rwa [h1] at this
end G2

set_option maxHeartbeats 2000000 in
set_option maxRecDepth 100000 in
theorem getHard_core (A : Option Addr) (c : Nat) (l : List Int) (w0 : World) (hr : Kd.C (Kd.int .u8) w0 A l.length l) (hc : l.length ≤ c) (hok : okLen l) (r : Int × Int × Int) (hres : getHard l = r) :
    Calls Try.prog 28 #[.slice A l.length c] w0 fun e w' => HardPost w0 r e w' := by
  have HS := Aside0.mk hres
  have HR := Aside0.mk hr
  have HK := Aside0.mk hok
  clear hres hr hok
  go_enter_defers Try.func28, Try.ntmps28
  go_wp2_with fail
  have HC1 := Aside0.mk (G2.start (w0 := w0) (A := A) (n := l.length) (c := c) #[.int .i64 0, .int .i64 0] 46 _ rfl)
  refine (number_calls w0 _ (w0.heap.size + 1 + 1) A c l 0 0 (Kd.C_below HR.out HC1.out.below) hc HC1.out.rd HC1.out.below HC1.out.g0 HK.out).mono ?_
  rintro e w1 ⟨B1, K1, hm⟩
  cases hn1 : rdNum l 0 0 with
  | error x =>
    rw [hn1] at hm
    obtain rfl := hm
    have hx : r = (0, 0, x) := by rw [← HS.out, getHard, hn1]
    subst hx
    obtain ⟨q1, q2, q3, q4⟩ := HC1.out.bad B1 K1 x
    exact door_panic q4 (fun W1 hW1 => by subst hW1; exact ⟨res28 q2 q3 rfl rfl, rfl, q1⟩)
  | ok p =>
  obtain ⟨t, a1⟩ := p
  rw [hn1] at hm
  obtain ⟨rfl, I1⟩ := hm
  have HN1 := Aside0.mk hn1
  have HC2 := Aside0.mk (HC1.out.call B1 K1 I1)
  clear hn1 I1 B1 K1
  go_wp2_with fail
  refine (number_calls w0 _ (w0.heap.size + 1 + 1) A c l a1 0 (Kd.C_below HR.out HC2.out.below) hc HC2.out.rd HC2.out.below HC2.out.g0 HK.out).mono ?_
  rintro e w2 ⟨B2, K2, hm⟩
  cases hn2 : rdNum l a1 0 with
  | error x =>
    rw [hn2] at hm
    obtain rfl := hm
    have hx : r = (0, 0, x) := by rw [← HS.out, getHard, HN1.out]; simp only; rw [hn2]
    subst hx
    obtain ⟨q1, q2, q3, q4⟩ := HC2.out.bad B2 K2 x
    exact door_panic q4 (fun W1 hW1 => by subst hW1; exact ⟨res28 q2 q3 rfl rfl, rfl, q1⟩)
  | ok p =>
  obtain ⟨v, a2⟩ := p
  rw [hn2] at hm
  obtain ⟨rfl, I2⟩ := hm
  have hr0 : r = if 9 < v then (0, 0, 4) else if a2 < l.length then (0, 0, 4) else (t, v, 0) := by rw [← HS.out, getHard, HN1.out]; simp only; rw [hn2]
  have HR0 := Aside0.mk hr0
  have HG2 := (HC2.out.call B2 K2 I2).rd.lt
  have HC3 := Aside0.mk ((HC2.out.call B2 K2 I2).alloc (.cells #[.int .i64 t, .int .i64 v] 46 (0, 0)))
  have hY := blk_new w2 (.cells #[.int .i64 t, .int .i64 v] 46 (0, 0))
  clear hn2 I2 B2 K2 hr0
  by_cases hv : 9 < v
  · have hvb : decide (9 < v) = true := by simpa using hv
    go_wp2
    have hx : r = (0, 0, 4) := by rw [HR0.out, if_pos hv]
    subst hx
    obtain ⟨q1, q2, q3, q4⟩ := HC3.out.bad HC3.out.below (KeepBut.refl _ _ _) 4
    exact door_panic q4 (fun W1 hW1 => by subst hW1; exact ⟨res28 q2 q3 rfl rfl, rfl, q1⟩)
  · have hvb : decide (9 < v) = false := by simpa using hv
    go_wp2_with fail
    have HY := Aside0.mk hY
    refine (end_calls w0 _ (w0.heap.size + 1 + 1) A l.length c a2 HC3.out.rd HC3.out.below HC3.out.g0 _ rfl).mono ?_
    rintro e w3 ⟨B3, K3, hm⟩
    have hYg : w2.heap.size ≠ w0.heap.size + 1 + 1 := by have := HG2; omega
    by_cases ha : a2 < l.length
    · rw [if_pos ha] at hm
      obtain rfl := hm
      have hx : r = (0, 0, 4) := by rw [HR0.out, if_neg (by omega), if_pos ha]
      subst hx
      obtain ⟨q1, q2, q3, q4⟩ := HC3.out.bad B3 K3 4
      exact door_panic q4 (fun W1 hW1 => by subst hW1; exact ⟨res28 q2 q3 rfl rfl, rfl, q1⟩)
    · rw [if_neg ha] at hm
      obtain ⟨rfl, I3⟩ := hm
      have hx : r = (t, v, 0) := by rw [HR0.out, if_neg (by omega), if_neg ha]
      have HX := Aside0.mk hx
      have HC4 := Aside0.mk (HC3.out.call B3 K3 I3)
      have hY3 : Bk w3 w2.heap.size #[.int .i64 t, .int .i64 v] 46 := K3.blk HY.out hYg (by simp)
      have y0 := hY3.cell 0 _ rfl
      have y1 := hY3.cell 1 _ rfl
      have x0 := HC4.out.x.cell 0 _ rfl
      have x1 := HC4.out.x.cell 1 _ rfl
      have fx := HC4.out.x.frozen
      have e0 := HC4.out.e.cell 0 _ rfl
      have fe := HC4.out.e.frozen
      have hxe : ¬ w0.heap.size + 1 = w0.heap.size := by omega
      have hxe2 : ¬ w0.heap.size = w0.heap.size + 1 := by omega
      clear hx hY hY3 I3 B3 K3 hYg
      go_wp2
      have HF := ((HC4.out.setX 0 (.int .i64 t)).setX 1 (.int .i64 v)).setE 0
      have hx := HX.out
      subst hx
      exact door_ret (res28 HF.x HF.e rfl rfl) ⟨rfl, HF.below⟩
theorem wire_GetHard.calls (A0 : Option Addr) (c0 : Nat) (l0 : List Int) (r1 : Int) (r2 : Int) (r3 : Int) (w : World) (hr0 : Kd.C (Kd.int .u8) w A0 l0.length l0) (hc0 : l0.length ≤ c0) (h : wire_GetHard.f l0 = some (r1, r2, r3)) :
    Calls Try.prog 28 #[.slice A0 l0.length c0] w fun e w' => e = .returned (.tuple #[.agg #[.int .i64 r1, .int .i64 r2], .int .i64 r3]) ∧ Below w.heap.size w w' := by
  unfold wire_GetHard.f at h
  by_cases hc : okBytes l0 = true ∧ l0.length ≤ 200000000000000
  · rw [if_pos hc] at h
    exact (getHard_core A0 c0 l0 w hr0 hc0 hc _ (Option.some.inj h)).mono fun _ _ h => h
  · rw [if_neg hc] at h
    cases h
end Go.Proofs.Ytlbioffpcoikaaa.PW
