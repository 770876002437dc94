import Derived.Test.YtlbioffpcoikaaaEData
namespace Go.Proofs.Ytlbioffpcoikaaa.PW
open Go.RowKit Go.Proofs.YtlbioffpcoikaaaW.PrintWords Go.Proofs.YtlbioffpcoikaaaW.PrintLast Go.Proofs.YtlbioffpcoikaaaW.PrintMore
set_option linter.unusedVariables false
set_option linter.unusedSimpArgs false
/-- r.entry() -/
def rdEntry (l : List Int) (at_ : Int) : Except Int ((Int × Int × Int × List Int) × Int) :=
  match rdByte l at_ 1 3 with
  | .error x => .error x
  | .ok (k, a1) => match rdNum l a1 1 with
    | .error x => .error x
    | .ok (t, a2) => match rdNum l a2 1 with
      | .error x => .error x
      | .ok (i, a3) => if k = 1 then (match rdNum l a3 0 with
          | .error x => .error x
          | .ok (n, a4) => if 0 < n then .error 4 else .ok ((k, t, i, []), a4))
        else match rdData l a3 2048 with
          | .error x => .error x
          | .ok (d, a4) => .ok ((k, t, i, d), a4)
def EntPost (w0 w : World) (g : Nat) (A : Option Addr) (n c : Nat) (r : Except Int ((Int × Int × Int × List Int) × Int)) (e : Ending) (w' : World) : Prop :=
  Below w0.heap.size w0 w' ∧ KeepBut w w' g none ∧ match r with
    | .ok ((k, t, i, xs), at_) => ∃ v, e = .returned (.agg #[.int .i64 k, .int .i64 t, .int .i64 i, v]) ∧ Kd.R (Kd.int .u8) 5 w' w.heap.size (fun _ => True) v xs ∧ IsRd w' g A n c at_
    | .error x => e = .panicked (fault x)
def Bk (w : World) (g : Nat) (cs : Array Value) (t : TypeId) : Prop := w.heap[g]? = some (.cells cs t (0, 0))
theorem Bk.cell {w : World} {g : Nat} {cs : Array Value} {t : TypeId} (h : Bk w g cs t) (j : Nat) (u : Value) (hu : cs[j]? = some u) : w.cell? ⟨g, j, none⟩ = some u := by
  unfold Bk at h; simp [World.cell?, h, hu]
theorem Bk.frozen {w : World} {g : Nat} {cs : Array Value} {t : TypeId} (h : Bk w g cs t) (j : Nat) : w.frozen? ⟨g, j, none⟩ = false := by
  unfold Bk at h; simp [World.frozen?, h]
theorem Bk.keep {w w1 : World} {g g' : Nat} {cs : Array Value} {t : TypeId} (h : Bk w g' cs t) (k : KeepBut w w1 g none) (hne : g' ≠ g) : Bk w1 g' cs t := k.blk h hne (by simp)
theorem Bk.lt {w : World} {g : Nat} {cs : Array Value} {t : TypeId} (h : Bk w g cs t) : g < w.heap.size := blk_lt h
theorem IsRd.lt {w : World} {g : Nat} {A : Option Addr} {n c : Nat} {at_ : Int} (h : IsRd w g A n c at_) : g < w.heap.size := blk_lt h.1
theorem IsRd.alloc {w : World} {g : Nat} {A : Option Addr} {n c : Nat} {at_ : Int} (h : IsRd w g A n c at_) (o : Obj) : IsRd (w.alloc o) g A n c at_ := ⟨(Below.heap_alloc w o g (blk_lt h.1)).trans h.1, h.2⟩
theorem IsRd.keep {w w1 : World} {g g' : Nat} {A : Option Addr} {n c : Nat} {at_ : Int} (h : IsRd w g A n c at_) (k : KeepBut w w1 g' none) (hne : g ≠ g') : IsRd w1 g A n c at_ := ⟨k.blk h.1 hne (by simp), h.2⟩
theorem rdByte_ok {l : List Int} {at_ least most k a1 : Int} (h0 : 0 ≤ at_) (h1 : at_ ≤ l.length) (h : rdByte l at_ least most = .ok (k, a1)) : a1 = at_ + 1 ∧ a1 ≤ l.length ∧ least ≤ k ∧ k ≤ most := by
  unfold rdByte at h
  split at h
  · cases h
  · split at h
    · cases h
    · split at h
      · cases h
      · simp only [Except.ok.injEq, Prod.mk.injEq] at h
        omega

/-- A reader's caller with two blocks of its own. -/
structure C2 (w0 w W : World) (g : Nat) (A : Option Addr) (n c : Nat) (at_ : Int) (X : Nat) (cX : Array Value) (Y : Nat) (cY : Array Value) (t : TypeId) : Prop where
  below : Below w0.heap.size w0 W
  keep : KeepBut w W g none
  rd : IsRd W g A n c at_
  gw : g < w.heap.size
  xw : w.heap.size ≤ X
  yw : w.heap.size ≤ Y
  xy : X ≠ Y
  x : Bk W X cX t
  y : Bk W Y cY t
  old : w0.heap.size ≤ w.heap.size
namespace C2
variable {w0 w W W1 : World} {g : Nat} {A : Option Addr} {n c : Nat} {at_ at1 : Int} {X : Nat} {cX : Array Value} {Y : Nat} {cY : Array Value} {t : TypeId}
theorem call (h : C2 w0 w W g A n c at_ X cX Y cY t) (B : Below w0.heap.size w0 W1) (K : KeepBut W W1 g none) (R : IsRd W1 g A n c at1) : C2 w0 w W1 g A n c at1 X cX Y cY t :=
  ⟨B, h.keep.trans K (.inl rfl), R, h.gw, h.xw, h.yw, h.xy, h.x.keep K (by have := h.gw; have := h.xw; omega), h.y.keep K (by have := h.gw; have := h.yw; omega), h.old⟩
theorem bad (h : C2 w0 w W g A n c at_ X cX Y cY t) (K : KeepBut W W1 g none) : KeepBut w W1 g none := h.keep.trans K (.inl rfl)
theorem setY (h : C2 w0 w W g A n c at_ X cX Y cY t) (j : Nat) (u : Value) : C2 w0 w (W.setCell ⟨Y, j, none⟩ u) g A n c at_ X cX Y (cY.setIfInBounds j u) t :=
  ⟨h.below.setCell (p := ⟨Y, j, none⟩) (Nat.le_trans h.old h.yw) _, keep_far h.keep (p := ⟨Y, j, none⟩) h.yw _, ⟨(Below.heap_setCell W ⟨Y, j, none⟩ u g (by have := h.gw; have := h.yw; show g ≠ Y; omega)).trans h.rd.1, h.rd.2⟩, h.gw, h.xw, h.yw, h.xy,
    (Below.heap_setCell W ⟨Y, j, none⟩ u X h.xy).trans h.x, by have := h.y; unfold Bk at this ⊢; simp [World.setCell, Array.getElem?_modify, this], h.old⟩
theorem setX (h : C2 w0 w W g A n c at_ X cX Y cY t) (j : Nat) (u : Value) : C2 w0 w (W.setCell ⟨X, j, none⟩ u) g A n c at_ X (cX.setIfInBounds j u) Y cY t :=
  ⟨h.below.setCell (p := ⟨X, j, none⟩) (Nat.le_trans h.old h.xw) _, keep_far h.keep (p := ⟨X, j, none⟩) h.xw _, ⟨(Below.heap_setCell W ⟨X, j, none⟩ u g (by have := h.gw; have := h.xw; show g ≠ X; omega)).trans h.rd.1, h.rd.2⟩, h.gw, h.xw, h.yw, h.xy,
    by have := h.x; unfold Bk at this ⊢; simp [World.setCell, Array.getElem?_modify, this], (Below.heap_setCell W ⟨X, j, none⟩ u Y (Ne.symm h.xy)).trans h.y, h.old⟩
theorem drewN (h : C2 w0 w W g A n c at_ X cX Y cY t) (m : Nat) : C2 w0 w (W.drewN m) g A n c at_ X cX Y cY t := ⟨pw_below_drewN h.below m, keep_drewN h.keep m, h.rd, h.gw, h.xw, h.yw, h.xy, h.x, h.y, h.old⟩
end C2
abbrev Z34 : Array Value := #[.int .i64 0, .int .i64 0, .int .i64 0, .slice none 0 0]
theorem rdData_ok {l : List Int} {at_ most at1 : Int} {d : List Int} (hok : okLen l) (h : rdData l at_ most = .ok (d, at1)) : 0 ≤ at1 ∧ at1 ≤ l.length := by
  unfold rdData at h
  cases hn : rdNum l at_ 0 with
  | error x => rw [hn] at h; cases h
  | ok p =>
    obtain ⟨n, a1⟩ := p
    rw [hn] at h
    simp only at h
    have := rdNum_ok hok hn
    split at h
    · cases h
    · split at h
      · cases h
      · simp only [Except.ok.injEq, Prod.mk.injEq] at h
        omega

theorem ret42 {R : Ending → World → Prop} {W : World} {X : Nat} {a b c d : Value} {tmps : Array Value} (h : Bk W X #[a, b, c, d] 34) (htm : tmps.getD 2 undef = .pointer (some ⟨X, 0, none⟩))
    (hR : R (.returned (.agg #[a, b, c, d])) W) : bodyPost Try.prog Try.f42 R .ret { tmps := tmps, defers := [] } W := by
  have q0 := h.cell 0 _ rfl
  have q1 := h.cell 1 _ rfl
  have q2 := h.cell 2 _ rfl
  have q3 := h.cell 3 _ rfl
  refine bodyPost_ret (v := .agg #[a, b, c, d]) ?_ rfl hR
  have ht : tmps[2]?.getD undef = .pointer (some ⟨X, 0, none⟩) := by simpa using htm
  simp [results, Try.results42, go_sem, ht, q0, q1, q2, q3]
set_option maxHeartbeats 2000000 in
set_option maxRecDepth 100000 in
theorem entry_calls (w0 w : World) (g : Nat) (A : Option Addr) (c : Nat) (l : List Int) (at_ : Int) (hr : Kd.C (Kd.int .u8) w0 A l.length l) (hc : l.length ≤ c) (hI : IsRd w g A l.length c at_)
    (hB : Below w0.heap.size w0 w) (hg : w0.heap.size ≤ g) (hok : okLen l) (r : Except Int ((Int × Int × Int × List Int) × Int)) (hres : rdEntry l at_ = r) :
    Calls Try.prog 42 #[.pointer (some ⟨g, 0, none⟩)] w fun e w' => EntPost w0 w g A l.length c r e w' := by
  have HS := Aside0.mk hres
  have HI := Aside0.mk hI
  have HB := Aside0.mk hB
  have HR := Aside0.mk hr
  have HK := Aside0.mk hok
  have hgl := hI.lt
  have hsz := hB.size
  clear hB hI hres hr hok
  go_enter Try.func42, Try.ntmps42
  go_wp2_with fail
  have B0 := Aside0.mk (below_alloc HB.out (.cells Z34 34 (0, 0)))
  have K0 := Aside0.mk (keep_alloc (KeepBut.refl w g none) (.cells Z34 34 (0, 0)))
  refine (byte_calls w0 _ g A c l at_ 1 3 (Kd.C_below HR.out B0.out) hc (HI.out.alloc _) B0.out hg HK.out _ rfl).mono ?_
  rintro e w1 ⟨B1, K1, hm⟩
  cases hn1 : rdByte l at_ 1 3 with
  | error x =>
    rw [hn1] at hm
    obtain rfl := hm
    have hx : r = .error x := by rw [← HS.out, rdEntry, hn1]
    subst hx
    exact ⟨rfl, B1, K0.out.trans K1 (.inl rfl), rfl⟩
  | ok p =>
  obtain ⟨k, a1⟩ := p
  rw [hn1] at hm
  obtain ⟨rfl, I1⟩ := hm
  have HN1 := Aside0.mk hn1
  have bk1 := rdByte_ok HI.out.2.1 HI.out.2.2 hn1
  have hX1 : Bk w1 w.heap.size Z34 34 := K1.blk (blk_new w _) (by omega) (by simp)
  have HC1 := Aside0.mk (show C2 w0 w (w1.alloc (.cells #[.int .i64 k, .int .i64 0, .int .i64 0, .slice none 0 0] 34)) g A l.length c a1 w.heap.size Z34 w1.heap.size #[.int .i64 k, .int .i64 0, .int .i64 0, .slice none 0 0] 34 from
    ⟨below_alloc B1 _, keep_alloc (K0.out.trans K1 (.inl rfl)) _, I1.alloc _, hgl, Nat.le_refl _, Nat.le_trans (by simp) K1.1, by have := hX1.lt; omega, (Below.heap_alloc w1 _ _ hX1.lt).trans hX1, blk_new w1 _, hsz⟩)
  clear hn1 I1 B1 K1 hX1
  go_wp2_with fail
  refine (number_calls w0 _ g A c l a1 1 (Kd.C_below HR.out HC1.out.below) hc HC1.out.rd HC1.out.below hg HK.out).mono ?_
  rintro e w2 ⟨B2, K2, hm⟩
  cases hn2 : rdNum l a1 1 with
  | error x =>
    rw [hn2] at hm
    obtain rfl := hm
    have hx : r = .error x := by rw [← HS.out, rdEntry, HN1.out]; simp only; rw [hn2]
    subst hx
    exact ⟨rfl, B2, HC1.out.bad K2, rfl⟩
  | ok p =>
  obtain ⟨t, a2⟩ := p
  rw [hn2] at hm
  obtain ⟨rfl, I2⟩ := hm
  have HN2 := Aside0.mk hn2
  have HC2 := Aside0.mk ((HC1.out.call B2 K2 I2).setY 1 (.int .i64 t))
  have cy1 := (HC1.out.call B2 K2 I2).y.cell 1 _ rfl
  have fy1 := (HC1.out.call B2 K2 I2).y.frozen 1
  clear hn2 I2 B2 K2
  go_wp2_with fail
  refine (number_calls w0 _ g A c l a2 1 (Kd.C_below HR.out HC2.out.below) hc HC2.out.rd HC2.out.below hg HK.out).mono ?_
  rintro e w3 ⟨B3, K3, hm⟩
  cases hn3 : rdNum l a2 1 with
  | error x =>
    rw [hn3] at hm
    obtain rfl := hm
    have hx : r = .error x := by rw [← HS.out, rdEntry, HN1.out]; simp only; rw [HN2.out]; simp only; rw [hn3]
    subst hx
    exact ⟨rfl, B3, HC2.out.bad K3, rfl⟩
  | ok p =>
  obtain ⟨i, a3⟩ := p
  rw [hn3] at hm
  obtain ⟨rfl, I3⟩ := hm
  have HN3 := Aside0.mk hn3
  have HC3 := Aside0.mk ((HC2.out.call B3 K3 I3).setY 2 (.int .i64 i))
  have cy2 := (HC2.out.call B3 K3 I3).y.cell 2 _ rfl
  have fy2 := (HC2.out.call B3 K3 I3).y.frozen 2
  have cy0 := (HC2.out.call B3 K3 I3).y.cell 0 _ rfl
  clear hn3 I3 B3 K3 cy1 fy1
  by_cases hk : k = 1
  · have hkb : (k == 1) = true := by simpa using hk
    have HKK := Aside0.mk hk
    clear hk
    go_wp2_with fail
    refine (number_calls w0 _ g A c l a3 0 (Kd.C_below HR.out HC3.out.below) hc HC3.out.rd HC3.out.below hg HK.out).mono ?_
    rintro e w4 ⟨B4, K4, hm⟩
    cases hn4 : rdNum l a3 0 with
    | error x =>
      rw [hn4] at hm
      obtain rfl := hm
      have hx : r = .error x := by rw [← HS.out, rdEntry, HN1.out]; simp only; rw [HN2.out]; simp only; rw [HN3.out]; simp only; rw [if_pos HKK.out, hn4]
      subst hx
      exact ⟨rfl, B4, HC3.out.bad K4, rfl⟩
    | ok p =>
    obtain ⟨n, a4⟩ := p
    rw [hn4] at hm
    obtain ⟨rfl, I4⟩ := hm
    have hr0 : r = if 0 < n then .error 4 else .ok ((k, t, i, []), a4) := by rw [← HS.out, rdEntry, HN1.out]; simp only; rw [HN2.out]; simp only; rw [HN3.out]; simp only; rw [if_pos HKK.out, hn4]
    have HR0 := Aside0.mk hr0
    have HC4 := Aside0.mk (HC3.out.call B4 K4 I4)
    clear hr0 hn4 I4 B4 K4 cy0 cy2 fy2
    by_cases hn : 0 < n
    · have hnb : decide (0 < n) = true := by simpa using hn
      go_wp2
      have hx : r = .error 4 := by rw [HR0.out, if_pos hn]
      subst hx
      exact ⟨rfl, HC4.out.below, HC4.out.keep, rfl⟩
    · have hnb : decide (0 < n) = false := by simpa using hn
      have y0 := HC4.out.y.cell 0 _ rfl
      have y1 := HC4.out.y.cell 1 _ rfl
      have y2 := HC4.out.y.cell 2 _ rfl
      have y3 := HC4.out.y.cell 3 _ rfl
      have x0 := HC4.out.x.cell 0 _ rfl
      have x1 := HC4.out.x.cell 1 _ rfl
      have x2 := HC4.out.x.cell 2 _ rfl
      have x3 := HC4.out.x.cell 3 _ rfl
      have fx := HC4.out.x.frozen
      go_wp2
      have HF := (((HC4.out.setX 0 (.int .i64 k)).setX 1 (.int .i64 t)).setX 2 (.int .i64 i)).setX 3 (.slice none 0 0)
      have hx : r = .ok ((k, t, i, []), a4) := by rw [HR0.out, if_neg (by omega)]
      subst hx
      exact ret42 HF.x rfl ⟨HF.below, HF.keep, _, rfl, Kd.R_nil _ _ _ _ _, HF.rd⟩
  · have hkb : (k == 1) = false := by simpa using hk
    have HKK := Aside0.mk hk
    clear hk
    go_wp2_with fail
    refine (data_calls w0 _ g A c l a3 2048 HR.out hc HC3.out.rd HC3.out.below hg HK.out (by decide) _ rfl).mono ?_
    rintro e w4 ⟨B4, K4, hm⟩
    cases hn4 : rdData l a3 2048 with
    | error x =>
      rw [hn4] at hm
      obtain rfl := hm
      have hx : r = .error x := by rw [← HS.out, rdEntry, HN1.out]; simp only; rw [HN2.out]; simp only; rw [HN3.out]; simp only; rw [if_neg HKK.out, hn4]
      subst hx
      exact ⟨rfl, B4, HC3.out.bad K4, rfl⟩
    | ok p =>
    obtain ⟨d, a4⟩ := p
    rw [hn4] at hm
    obtain ⟨v, rfl, R4, I4⟩ := hm
    have hx : r = .ok ((k, t, i, d), a4) := by rw [← HS.out, rdEntry, HN1.out]; simp only; rw [HN2.out]; simp only; rw [HN3.out]; simp only; rw [if_neg HKK.out, hn4]
    have HR0 := Aside0.mk hx
    have HC4 := Aside0.mk (HC3.out.call B4 K4 I4)
    have R5 : Kd.R (Kd.int .u8) 5 w4 w.heap.size (fun k_ => k_ ≠ w.heap.size ∧ k_ ≠ w1.heap.size) v d := Kd.R_lower (Kd.R_mono (Kd.R_bound R4) (fun k_ hk => by
      have h1 := hk.2.1
      have h2 := HC3.out.x.lt
      have h3 := HC3.out.y.lt
      constructor <;> omega)) HC3.out.keep.1
    have hne1 : ¬ w.heap.size = w1.heap.size := HC3.out.xy
    have hne2 : ¬ w1.heap.size = w.heap.size := Ne.symm HC3.out.xy
    clear hx hn4 I4 B4 K4 cy0 cy2 fy2
    have y0 := HC4.out.y.cell 0 _ rfl
    have y1 := HC4.out.y.cell 1 _ rfl
    have y2 := HC4.out.y.cell 2 _ rfl
    have y3 := HC4.out.y.cell 3 _ rfl
    have fy := HC4.out.y.frozen
    have x0 := HC4.out.x.cell 0 _ rfl
    have x1 := HC4.out.x.cell 1 _ rfl
    have x2 := HC4.out.x.cell 2 _ rfl
    have x3 := HC4.out.x.cell 3 _ rfl
    have fx := HC4.out.x.frozen
    obtain ⟨Ad, cd, rfl⟩ := Kd.R_slice R4
    have HR5 := Aside0.mk R5
    clear R4 R5
    go_wp2
    have HF := ((((HC4.out.setY 3 (.slice Ad d.length cd)).setX 0 (.int .i64 k)).setX 1 (.int .i64 t)).setX 2 (.int .i64 i)).setX 3 (.slice Ad d.length cd)
    have hx : r = .ok ((k, t, i, d), a4) := HR0.out
    subst hx
    refine ret42 HF.x rfl ⟨HF.below, HF.keep, _, rfl, ?_, HF.rd⟩
    exact Kd.R_mono (ok := fun k => k ≠ w.heap.size ∧ k ≠ w1.heap.size) (ok' := fun _ => True) (h := Kd.R_far (p := ⟨w.heap.size, 3, none⟩) (Kd.R_far (p := ⟨w.heap.size, 2, none⟩) (Kd.R_far (p := ⟨w.heap.size, 1, none⟩) (Kd.R_far (p := ⟨w.heap.size, 0, none⟩) (Kd.R_far (p := ⟨w1.heap.size, 3, none⟩) HR5.out (fun k hk => hk.2) _) (fun k hk => hk.1) _) (fun k hk => hk.1) _) (fun k hk => hk.1) _) (fun k hk => hk.1) _) (fun _ _ => trivial)
end Go.Proofs.Ytlbioffpcoikaaa.PW
