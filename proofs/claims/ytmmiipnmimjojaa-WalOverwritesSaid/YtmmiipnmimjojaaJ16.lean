/- The texts of this claim's seat, joined: part 16. -/
import Derived.Test.YtmmiipnmimjojaaJ15
section
namespace Go.Proofs.Ytmmiipnmimjojaa.PS
open Go.RowKit Go.Proofs.YtmmiipnmimjojaaW.PrintWords Go.Proofs.YtmmiipnmimjojaaW.PrintLast Go.Proofs.YtmmiipnmimjojaaW.PrintMore
set_option linter.unusedVariables false
set_option linter.unusedSimpArgs false
/-- r.entry() -/
def rdEntry (l : List Int) (at_ : Int) : Except Int ((Int × Int × Int × List Int) × Int) :=
  match rdByte l at_ 1 3 with
  | .error x => .error x
  | .ok (k, a1) => match rdNum l a1 1 with
    | .error x => .error x
    | .ok (t, a2) => match rdNum l a2 1 with
      | .error x => .error x
      | .ok (i, a3) => if k = 1 then (match rdNum l a3 0 with
          | .error x => .error x
          | .ok (n, a4) => if 0 < n then .error 4 else .ok ((k, t, i, []), a4))
        else match rdData l a3 2048 with
          | .error x => .error x
          | .ok (d, a4) => .ok ((k, t, i, d), a4)
def EntPost (w0 w : World) (g : Nat) (A : Option Addr) (n c : Nat) (r : Except Int ((Int × Int × Int × List Int) × Int)) (e : Ending) (w' : World) : Prop :=
  Below w0.heap.size w0 w' ∧ KeepBut w w' g none ∧ match r with
    | .ok ((k, t, i, xs), at_) => ∃ v, e = .returned (.agg #[.int .i64 k, .int .i64 t, .int .i64 i, v]) ∧ Kd.R (Kd.int .u8) 5 w' w.heap.size (fun _ => True) v xs ∧ IsRd w' g A n c at_
    | .error x => e = .panicked (fault x)
def Bk (w : World) (g : Nat) (cs : Array Value) (t : TypeId) : Prop := w.heap[g]? = some (.cells cs t (0, 0))
theorem Bk.cell {w : World} {g : Nat} {cs : Array Value} {t : TypeId} (h : Bk w g cs t) (j : Nat) (u : Value) (hu : cs[j]? = some u) : w.cell? ⟨g, j, none⟩ = some u := by
  unfold Bk at h; simp [World.cell?, h, hu]
theorem Bk.frozen {w : World} {g : Nat} {cs : Array Value} {t : TypeId} (h : Bk w g cs t) (j : Nat) : w.frozen? ⟨g, j, none⟩ = false := by
  unfold Bk at h; simp [World.frozen?, h]
theorem Bk.keep {w w1 : World} {g g' : Nat} {cs : Array Value} {t : TypeId} (h : Bk w g' cs t) (k : KeepBut w w1 g none) (hne : g' ≠ g) : Bk w1 g' cs t := k.blk h hne (by simp)
theorem Bk.lt {w : World} {g : Nat} {cs : Array Value} {t : TypeId} (h : Bk w g cs t) : g < w.heap.size := blk_lt h
theorem IsRd.lt {w : World} {g : Nat} {A : Option Addr} {n c : Nat} {at_ : Int} (h : IsRd w g A n c at_) : g < w.heap.size := blk_lt h.1
theorem IsRd.alloc {w : World} {g : Nat} {A : Option Addr} {n c : Nat} {at_ : Int} (h : IsRd w g A n c at_) (o : Obj) : IsRd (w.alloc o) g A n c at_ := ⟨(Below.heap_alloc w o g (blk_lt h.1)).trans h.1, h.2⟩
theorem IsRd.keep {w w1 : World} {g g' : Nat} {A : Option Addr} {n c : Nat} {at_ : Int} (h : IsRd w g A n c at_) (k : KeepBut w w1 g' none) (hne : g ≠ g') : IsRd w1 g A n c at_ := ⟨k.blk h.1 hne (by simp), h.2⟩
theorem rdByte_ok {l : List Int} {at_ least most k a1 : Int} (h0 : 0 ≤ at_) (h1 : at_ ≤ l.length) (h : rdByte l at_ least most = .ok (k, a1)) : a1 = at_ + 1 ∧ a1 ≤ l.length ∧ least ≤ k ∧ k ≤ most := by
  unfold rdByte at h
  split at h
  · cases h
  · split at h
    · cases h
    · split at h
      · cases h
      · simp only [Except.ok.injEq, Prod.mk.injEq] at h
        omega

/-- A reader's caller with two blocks of its own. -/
structure C2 (w0 w W : World) (g : Nat) (A : Option Addr) (n c : Nat) (at_ : Int) (X : Nat) (cX : Array Value) (Y : Nat) (cY : Array Value) (t : TypeId) : Prop where
  below : Below w0.heap.size w0 W
  keep : KeepBut w W g none
  rd : IsRd W g A n c at_
  gw : g < w.heap.size
  xw : w.heap.size ≤ X
  yw : w.heap.size ≤ Y
  xy : X ≠ Y
  x : Bk W X cX t
  y : Bk W Y cY t
  old : w0.heap.size ≤ w.heap.size
namespace C2
variable {w0 w W W1 : World} {g : Nat} {A : Option Addr} {n c : Nat} {at_ at1 : Int} {X : Nat} {cX : Array Value} {Y : Nat} {cY : Array Value} {t : TypeId}
theorem call (h : C2 w0 w W g A n c at_ X cX Y cY t) (B : Below w0.heap.size w0 W1) (K : KeepBut W W1 g none) (R : IsRd W1 g A n c at1) : C2 w0 w W1 g A n c at1 X cX Y cY t :=
  ⟨B, h.keep.trans K (.inl rfl), R, h.gw, h.xw, h.yw, h.xy, h.x.keep K (by have := h.gw; have := h.xw; omega), h.y.keep K (by have := h.gw; have := h.yw; omega), h.old⟩
theorem bad (h : C2 w0 w W g A n c at_ X cX Y cY t) (K : KeepBut W W1 g none) : KeepBut w W1 g none := h.keep.trans K (.inl rfl)
theorem setY (h : C2 w0 w W g A n c at_ X cX Y cY t) (j : Nat) (u : Value) : C2 w0 w (W.setCell ⟨Y, j, none⟩ u) g A n c at_ X cX Y (cY.setIfInBounds j u) t :=
  ⟨h.below.setCell (p := ⟨Y, j, none⟩) (Nat.le_trans h.old h.yw) _, keep_far h.keep (p := ⟨Y, j, none⟩) h.yw _, ⟨(Below.heap_setCell W ⟨Y, j, none⟩ u g (by have := h.gw; have := h.yw; show g ≠ Y; omega)).trans h.rd.1, h.rd.2⟩, h.gw, h.xw, h.yw, h.xy,
    (Below.heap_setCell W ⟨Y, j, none⟩ u X h.xy).trans h.x, by have := h.y; unfold Bk at this ⊢; simp [World.setCell, Array.getElem?_modify, this], h.old⟩
theorem setX (h : C2 w0 w W g A n c at_ X cX Y cY t) (j : Nat) (u : Value) : C2 w0 w (W.setCell ⟨X, j, none⟩ u) g A n c at_ X (cX.setIfInBounds j u) Y cY t :=
  ⟨h.below.setCell (p := ⟨X, j, none⟩) (Nat.le_trans h.old h.xw) _, keep_far h.keep (p := ⟨X, j, none⟩) h.xw _, ⟨(Below.heap_setCell W ⟨X, j, none⟩ u g (by have := h.gw; have := h.xw; show g ≠ X; omega)).trans h.rd.1, h.rd.2⟩, h.gw, h.xw, h.yw, h.xy,
    by have := h.x; unfold Bk at this ⊢; simp [World.setCell, Array.getElem?_modify, this], (Below.heap_setCell W ⟨X, j, none⟩ u Y (Ne.symm h.xy)).trans h.y, h.old⟩
theorem drewN (h : C2 w0 w W g A n c at_ X cX Y cY t) (m : Nat) : C2 w0 w (W.drewN m) g A n c at_ X cX Y cY t := ⟨pw_below_drewN h.below m, keep_drewN h.keep m, h.rd, h.gw, h.xw, h.yw, h.xy, h.x, h.y, h.old⟩
end C2
abbrev Z34 : Array Value := #[.int .i64 0, .int .i64 0, .int .i64 0, .slice none 0 0]
theorem rdData_ok {l : List Int} {at_ most at1 : Int} {d : List Int} (hok : okLen l) (h : rdData l at_ most = .ok (d, at1)) : 0 ≤ at1 ∧ at1 ≤ l.length := by
  unfold rdData at h
  cases hn : rdNum l at_ 0 with
  | error x => rw [hn] at h; cases h
  | ok p =>
    obtain ⟨n, a1⟩ := p
    rw [hn] at h
    simp only at h
    have := rdNum_ok hok hn
    split at h
    · cases h
    · split at h
      · cases h
      · simp only [Except.ok.injEq, Prod.mk.injEq] at h
        omega

theorem ret42 {R : Ending → World → Prop} {W : World} {X : Nat} {a b c d : Value} {tmps : Array Value} (h : Bk W X #[a, b, c, d] 48) (htm : tmps.getD 2 undef = .pointer (some ⟨X, 0, none⟩))
    (hR : R (.returned (.agg #[a, b, c, d])) W) : bodyPost Try.prog Try.f121 R .ret { tmps := tmps, defers := [] } W := by
  have q0 := h.cell 0 _ rfl
  have q1 := h.cell 1 _ rfl
  have q2 := h.cell 2 _ rfl
  have q3 := h.cell 3 _ rfl
  refine bodyPost_ret (v := .agg #[a, b, c, d]) ?_ rfl hR
  have ht : tmps[2]?.getD undef = .pointer (some ⟨X, 0, none⟩) := by simpa using htm
  simp [results, Try.results121, go_sem, ht, q0, q1, q2, q3]
set_option maxHeartbeats 2000000 in
set_option maxRecDepth 100000 in
theorem entry_calls (w0 w : World) (g : Nat) (A : Option Addr) (c : Nat) (l : List Int) (at_ : Int) (hr : Kd.C (Kd.int .u8) w0 A l.length l) (hc : l.length ≤ c) (hI : IsRd w g A l.length c at_)
    (hB : Below w0.heap.size w0 w) (hg : w0.heap.size ≤ g) (hok : okLen l) (r : Except Int ((Int × Int × Int × List Int) × Int)) (hres : rdEntry l at_ = r) :
    Calls Try.prog 121 #[.pointer (some ⟨g, 0, none⟩)] w fun e w' => EntPost w0 w g A l.length c r e w' := by
  have HS := Aside0.mk hres
  have HI := Aside0.mk hI
  have HB := Aside0.mk hB
  have HR := Aside0.mk hr
  have HK := Aside0.mk hok
  have hgl := hI.lt
  have hsz := hB.size
  clear hB hI hres hr hok
  go_enter Try.func121, Try.ntmps121
  go_wp2_with fail
  have B0 := Aside0.mk (below_alloc HB.out (.cells Z34 48 (0, 0)))
  have K0 := Aside0.mk (keep_alloc (KeepBut.refl w g none) (.cells Z34 48 (0, 0)))
  refine (byte_calls w0 _ g A c l at_ 1 3 (Kd.C_below HR.out B0.out) hc (HI.out.alloc _) B0.out hg HK.out _ rfl).mono ?_
  rintro e w1 ⟨B1, K1, hm⟩
  cases hn1 : rdByte l at_ 1 3 with
  | error x =>
    rw [hn1] at hm
    obtain rfl := hm
    have hx : r = .error x := by rw [← HS.out, rdEntry, hn1]
    subst hx
    exact ⟨rfl, B1, K0.out.trans K1 (.inl rfl), rfl⟩
  | ok p =>
  obtain ⟨k, a1⟩ := p
  rw [hn1] at hm
  obtain ⟨rfl, I1⟩ := hm
  have HN1 := Aside0.mk hn1
  have bk1 := rdByte_ok HI.out.2.1 HI.out.2.2 hn1
  have hX1 : Bk w1 w.heap.size Z34 48 := K1.blk (blk_new w _) (by omega) (by simp)
  have HC1 := Aside0.mk (show C2 w0 w (w1.alloc (.cells #[.int .i64 k, .int .i64 0, .int .i64 0, .slice none 0 0] 48)) g A l.length c a1 w.heap.size Z34 w1.heap.size #[.int .i64 k, .int .i64 0, .int .i64 0, .slice none 0 0] 48 from
    ⟨below_alloc B1 _, keep_alloc (K0.out.trans K1 (.inl rfl)) _, I1.alloc _, hgl, Nat.le_refl _, Nat.le_trans (by simp) K1.1, by have := hX1.lt; omega, (Below.heap_alloc w1 _ _ hX1.lt).trans hX1, blk_new w1 _, hsz⟩)
  clear hn1 I1 B1 K1 hX1
  go_wp2_with fail
  refine (number_calls w0 _ g A c l a1 1 (Kd.C_below HR.out HC1.out.below) hc HC1.out.rd HC1.out.below hg HK.out).mono ?_
  rintro e w2 ⟨B2, K2, hm⟩
  cases hn2 : rdNum l a1 1 with
  | error x =>
    rw [hn2] at hm
    obtain rfl := hm
    have hx : r = .error x := by rw [← HS.out, rdEntry, HN1.out]; simp only; rw [hn2]
    subst hx
    exact ⟨rfl, B2, HC1.out.bad K2, rfl⟩
  | ok p =>
  obtain ⟨t, a2⟩ := p
  rw [hn2] at hm
  obtain ⟨rfl, I2⟩ := hm
  have HN2 := Aside0.mk hn2
  have HC2 := Aside0.mk ((HC1.out.call B2 K2 I2).setY 1 (.int .i64 t))
  have cy1 := (HC1.out.call B2 K2 I2).y.cell 1 _ rfl
  have fy1 := (HC1.out.call B2 K2 I2).y.frozen 1
  clear hn2 I2 B2 K2
  go_wp2_with fail
  refine (number_calls w0 _ g A c l a2 1 (Kd.C_below HR.out HC2.out.below) hc HC2.out.rd HC2.out.below hg HK.out).mono ?_
  rintro e w3 ⟨B3, K3, hm⟩
  cases hn3 : rdNum l a2 1 with
  | error x =>
    rw [hn3] at hm
    obtain rfl := hm
    have hx : r = .error x := by rw [← HS.out, rdEntry, HN1.out]; simp only; rw [HN2.out]; simp only; rw [hn3]
    subst hx
    exact ⟨rfl, B3, HC2.out.bad K3, rfl⟩
  | ok p =>
  obtain ⟨i, a3⟩ := p
  rw [hn3] at hm
  obtain ⟨rfl, I3⟩ := hm
  have HN3 := Aside0.mk hn3
  have HC3 := Aside0.mk ((HC2.out.call B3 K3 I3).setY 2 (.int .i64 i))
  have cy2 := (HC2.out.call B3 K3 I3).y.cell 2 _ rfl
  have fy2 := (HC2.out.call B3 K3 I3).y.frozen 2
  have cy0 := (HC2.out.call B3 K3 I3).y.cell 0 _ rfl
  clear hn3 I3 B3 K3 cy1 fy1
  by_cases hk : k = 1
  · have hkb : (k == 1) = true := by simpa using hk
    have HKK := Aside0.mk hk
    clear hk
    go_wp2_with fail
    refine (number_calls w0 _ g A c l a3 0 (Kd.C_below HR.out HC3.out.below) hc HC3.out.rd HC3.out.below hg HK.out).mono ?_
    rintro e w4 ⟨B4, K4, hm⟩
    cases hn4 : rdNum l a3 0 with
    | error x =>
      rw [hn4] at hm
      obtain rfl := hm
      have hx : r = .error x := by rw [← HS.out, rdEntry, HN1.out]; simp only; rw [HN2.out]; simp only; rw [HN3.out]; simp only; rw [if_pos HKK.out, hn4]
      subst hx
      exact ⟨rfl, B4, HC3.out.bad K4, rfl⟩
    | ok p =>
    obtain ⟨n, a4⟩ := p
    rw [hn4] at hm
    obtain ⟨rfl, I4⟩ := hm
    have hr0 : r = if 0 < n then .error 4 else .ok ((k, t, i, []), a4) := by rw [← HS.out, rdEntry, HN1.out]; simp only; rw [HN2.out]; simp only; rw [HN3.out]; simp only; rw [if_pos HKK.out, hn4]
    have HR0 := Aside0.mk hr0
    have HC4 := Aside0.mk (HC3.out.call B4 K4 I4)
    clear hr0 hn4 I4 B4 K4 cy0 cy2 fy2
    by_cases hn : 0 < n
    · have hnb : decide (0 < n) = true := by simpa using hn
      go_wp2
      have hx : r = .error 4 := by rw [HR0.out, if_pos hn]
      subst hx
      exact ⟨rfl, HC4.out.below, HC4.out.keep, rfl⟩
    · have hnb : decide (0 < n) = false := by simpa using hn
      have y0 := HC4.out.y.cell 0 _ rfl
      have y1 := HC4.out.y.cell 1 _ rfl
      have y2 := HC4.out.y.cell 2 _ rfl
      have y3 := HC4.out.y.cell 3 _ rfl
      have x0 := HC4.out.x.cell 0 _ rfl
      have x1 := HC4.out.x.cell 1 _ rfl
      have x2 := HC4.out.x.cell 2 _ rfl
      have x3 := HC4.out.x.cell 3 _ rfl
      have fx := HC4.out.x.frozen
      go_wp2
      have HF := (((HC4.out.setX 0 (.int .i64 k)).setX 1 (.int .i64 t)).setX 2 (.int .i64 i)).setX 3 (.slice none 0 0)
      have hx : r = .ok ((k, t, i, []), a4) := by rw [HR0.out, if_neg (by omega)]
      subst hx
      exact ret42 HF.x rfl ⟨HF.below, HF.keep, _, rfl, Kd.R_nil _ _ _ _ _, HF.rd⟩
  · have hkb : (k == 1) = false := by simpa using hk
    have HKK := Aside0.mk hk
    clear hk
    go_wp2_with fail
    refine (data_calls w0 _ g A c l a3 2048 HR.out hc HC3.out.rd HC3.out.below hg HK.out (by decide) _ rfl).mono ?_
    rintro e w4 ⟨B4, K4, hm⟩
    cases hn4 : rdData l a3 2048 with
    | error x =>
      rw [hn4] at hm
      obtain rfl := hm
      have hx : r = .error x := by rw [← HS.out, rdEntry, HN1.out]; simp only; rw [HN2.out]; simp only; rw [HN3.out]; simp only; rw [if_neg HKK.out, hn4]
      subst hx
      exact ⟨rfl, B4, HC3.out.bad K4, rfl⟩
    | ok p =>
    obtain ⟨d, a4⟩ := p
    rw [hn4] at hm
    obtain ⟨v, rfl, R4, I4⟩ := hm
    have hx : r = .ok ((k, t, i, d), a4) := by rw [← HS.out, rdEntry, HN1.out]; simp only; rw [HN2.out]; simp only; rw [HN3.out]; simp only; rw [if_neg HKK.out, hn4]
    have HR0 := Aside0.mk hx
    have HC4 := Aside0.mk (HC3.out.call B4 K4 I4)
    have R5 : Kd.R (Kd.int .u8) 5 w4 w.heap.size (fun k_ => k_ ≠ w.heap.size ∧ k_ ≠ w1.heap.size) v d := Kd.R_lower (Kd.R_mono (Kd.R_bound R4) (fun k_ hk => by
      have h1 := hk.2.1
      have h2 := HC3.out.x.lt
      have h3 := HC3.out.y.lt
      constructor <;> omega)) HC3.out.keep.1
    have hne1 : ¬ w.heap.size = w1.heap.size := HC3.out.xy
    have hne2 : ¬ w1.heap.size = w.heap.size := Ne.symm HC3.out.xy
    clear hx hn4 I4 B4 K4 cy0 cy2 fy2
    have y0 := HC4.out.y.cell 0 _ rfl
    have y1 := HC4.out.y.cell 1 _ rfl
    have y2 := HC4.out.y.cell 2 _ rfl
    have y3 := HC4.out.y.cell 3 _ rfl
    have fy := HC4.out.y.frozen
    have x0 := HC4.out.x.cell 0 _ rfl
    have x1 := HC4.out.x.cell 1 _ rfl
    have x2 := HC4.out.x.cell 2 _ rfl
    have x3 := HC4.out.x.cell 3 _ rfl
    have fx := HC4.out.x.frozen
    obtain ⟨Ad, cd, rfl⟩ := Kd.R_slice R4
    have HR5 := Aside0.mk R5
    clear R4 R5
    go_wp2
    have HF := ((((HC4.out.setY 3 (.slice Ad d.length cd)).setX 0 (.int .i64 k)).setX 1 (.int .i64 t)).setX 2 (.int .i64 i)).setX 3 (.slice Ad d.length cd)
    have hx : r = .ok ((k, t, i, d), a4) := HR0.out
    subst hx
    refine ret42 HF.x rfl ⟨HF.below, HF.keep, _, rfl, ?_, HF.rd⟩
    exact Kd.R_mono (ok := fun k => k ≠ w.heap.size ∧ k ≠ w1.heap.size) (ok' := fun _ => True) (h := Kd.R_far (p := ⟨w.heap.size, 3, none⟩) (Kd.R_far (p := ⟨w.heap.size, 2, none⟩) (Kd.R_far (p := ⟨w.heap.size, 1, none⟩) (Kd.R_far (p := ⟨w.heap.size, 0, none⟩) (Kd.R_far (p := ⟨w1.heap.size, 3, none⟩) HR5.out (fun k hk => hk.2) _) (fun k hk => hk.1) _) (fun k hk => hk.1) _) (fun k hk => hk.1) _) (fun k hk => hk.1) _) (fun _ _ => trivial)
end Go.Proofs.Ytmmiipnmimjojaa.PS
end
section
namespace Go.Proofs.Ytmmiipnmimjojaa.PS
open Go.RowKit Go.Proofs.YtmmiipnmimjojaaW.PrintWords Go.Proofs.YtmmiipnmimjojaaW.PrintLast Go.Proofs.YtmmiipnmimjojaaW.PrintMore
set_option linter.unusedVariables false
set_option linter.unusedSimpArgs false
theorem caught_idle (p : Addr) (w : World) :
    CallsD Try.prog 118 #[.pointer (some p)] .returning w fun e u' w' => e = .returned (.tuple #[]) ∧ u' = .returning ∧ w' = w := by
  refine callsD_of_wpS Try.func118 rfl fun c₀ cs hu => ?_
  apply wpS_seq
  apply wpS_region
  simp [wpOpsS, go_sem, recoverD, hu, Try.ntmps118, Exit.thenS]
  refine wpS_of_wp ?_
  go_wp2
  cases c₀
  simp_all [bodyPostS, results, Try.results118]
theorem assert77 (v : Value) (W : World) : (Instr.typeAssert (.iface 186 v) 20 186 true).run Try.prog W = .ok (.tuple #[v, .bool true]) W := by kernel_rfl
set_option maxHeartbeats 1000000 in
theorem caught_fault (p : Addr) (x : Int) (u : Value) (w : World) (hc : w.cell? p = some u) (hz : w.frozen? p = false) :
    CallsD Try.prog 118 #[.pointer (some p)] (.panicking (fault x)) w fun e u' w' =>
      e = .returned (.tuple #[]) ∧ u' = .panicking [{ v := .iface 186 (.int .i64 x), recovered := true }] ∧ w' = w.setCell p (.int .i64 x) := by
  refine callsD_of_wpS Try.func118 rfl fun c₀ cs hu => ?_
  apply wpS_seq
  apply wpS_region
  unfold fault at hu
  simp [wpOpsS, go_sem, recoverD, hu, Try.ntmps118, Exit.thenS]
  refine wpS_of_wp ?_
  have hta := assert77
  have ha : #[Value.pointer (some p)] ++ (Array.replicate 13 undef).setIfInBounds 4 (Value.iface 186 (Value.int IntKind.i64 x)) = #[Value.pointer (some p), undef, undef, undef, undef, Value.iface 186 (Value.int IntKind.i64 x), undef, undef, undef, undef, undef, undef, undef, undef] := by rfl
  rw [ha]
  clear ha hu
  go_wp2
  simp [bodyPostS, results, Try.results118]
def door (E : Nat) : List Deferred := [{ target := Target.fn (Fn.func 118) #[], args := #[.pointer (some ⟨E, 0, none⟩)] }]
theorem load_cells {P : Program} {W : World} {X : Nat} {cs : Array Value} {t : TypeId} (h : Bk W X cs t) : True := trivial
theorem door_panic {fn : Func} {R : Ending → World → Prop} {W : World} {E : Nat} {e x : Int} {tmps : Array Value} {v : Value} (hE : Bk W E #[.int .i64 e] 28)
    (hv : ∀ W1, W1 = W.setCell ⟨E, 0, none⟩ (.int .i64 x) → (results fn tmps).run Try.prog W1 = .ok v W1 ∧ R (.returned v) W1) :
    bodyPostD Try.prog fn R (.panic (fault x)) { tmps := tmps, defers := door E } W := by
  refine leaves_cons (f := 118) (args := #[.pointer (some ⟨E, 0, none⟩)]) (by simp) (by simp [go_sem]) ?_
  refine (caught_fault ⟨E, 0, none⟩ x _ W (hE.cell 0 _ rfl) (hE.frozen 0)).mono ?_
  rintro e u' w'' ⟨rfl, rfl, rfl⟩
  obtain ⟨h1, h2⟩ := hv _ rfl
  exact ⟨v, h1, h2⟩
theorem door_ret {fn : Func} {R : Ending → World → Prop} {W : World} {E : Nat} {tmps : Array Value} {v : Value} (h1 : (results fn tmps).run Try.prog W = .ok v W) (h2 : R (.returned v) W) :
    bodyPostD Try.prog fn R .ret { tmps := tmps, defers := door E } W := by
  refine leaves_cons (f := 118) (args := #[.pointer (some ⟨E, 0, none⟩)]) (by simp) (by simp [go_sem]) ?_
  refine (caught_idle ⟨E, 0, none⟩ W).mono ?_
  rintro e u' w'' ⟨rfl, rfl, rfl⟩
  exact ⟨v, h1, h2⟩
theorem res28 {W : World} {X E : Nat} {a b e : Value} {tmps : Array Value} (h : Bk W X #[a, b] 81) (hE : Bk W E #[e] 28) (ht : tmps.getD 2 undef = .pointer (some ⟨X, 0, none⟩)) (ht2 : tmps.getD 3 undef = .pointer (some ⟨E, 0, none⟩)) :
    (results Try.f101 tmps).run Try.prog W = .ok (.tuple #[.agg #[a, b], e]) W := by
  have q0 := h.cell 0 _ rfl
  have q1 := h.cell 1 _ rfl
  have q2 := hE.cell 0 _ rfl
  have t1 : tmps[2]?.getD undef = .pointer (some ⟨X, 0, none⟩) := by simpa using ht
  have t2 : tmps[3]?.getD undef = .pointer (some ⟨E, 0, none⟩) := by simpa using ht2
  simp [results, Try.results101, go_sem, t1, t2, q0, q1, q2]

/-- GetHard's answer. -/
def getHard (l : List Int) : Int × Int × Int :=
  match rdNum l 0 0 with
  | .error x => (0, 0, x)
  | .ok (t, a1) => match rdNum l a1 0 with
    | .error x => (0, 0, x)
    | .ok (v, a2) => if 9 < v then (0, 0, 4) else if a2 < l.length then (0, 0, 4) else (t, v, 0)
def wire_GetHard.f (l0 : List Int) : Option (Int × Int × Int) := if okBytes l0 = true ∧ l0.length ≤ 200000000000000 then some (getHard l0) else none
def HardPost (w0 : World) (r : Int × Int × Int) (e : Ending) (w' : World) : Prop := e = .returned (.tuple #[.agg #[.int .i64 r.1, .int .i64 r.2.1], .int .i64 r.2.2]) ∧ Below w0.heap.size w0 w'
/-- What a Get holds: the result's block X, the error's E, the reader's g. -/
structure G2 (w0 W : World) (g : Nat) (A : Option Addr) (n c : Nat) (at_ : Int) (X : Nat) (cX : Array Value) (t : TypeId) (E : Nat) (e : Int) : Prop where
  below : Below w0.heap.size w0 W
  rd : IsRd W g A n c at_
  g0 : w0.heap.size ≤ g
  x0 : w0.heap.size ≤ X
  e0 : w0.heap.size ≤ E
  gx : X ≠ g
  ge : E ≠ g
  xe : X ≠ E
  x : Bk W X cX t
  e : Bk W E #[.int .i64 e] 28
namespace G2
variable {w0 W W1 : World} {g : Nat} {A : Option Addr} {n c : Nat} {at_ at1 : Int} {X : Nat} {cX : Array Value} {t : TypeId} {E : Nat} {e : Int}
theorem call (h : G2 w0 W g A n c at_ X cX t E e) (B : Below w0.heap.size w0 W1) (K : KeepBut W W1 g none) (R : IsRd W1 g A n c at1) : G2 w0 W1 g A n c at1 X cX t E e :=
  ⟨B, R, h.g0, h.x0, h.e0, h.gx, h.ge, h.xe, h.x.keep K h.gx, h.e.keep K h.ge⟩
theorem setX (h : G2 w0 W g A n c at_ X cX t E e) (j : Nat) (u : Value) : G2 w0 (W.setCell ⟨X, j, none⟩ u) g A n c at_ X (cX.setIfInBounds j u) t E e :=
  ⟨h.below.setCell (p := ⟨X, j, none⟩) h.x0 _, ⟨(Below.heap_setCell W ⟨X, j, none⟩ u g (Ne.symm h.gx)).trans h.rd.1, h.rd.2⟩, h.g0, h.x0, h.e0, h.gx, h.ge, h.xe,
    by have := h.x; unfold Bk at this ⊢; simp [World.setCell, Array.getElem?_modify, this], (Below.heap_setCell W ⟨X, j, none⟩ u E (Ne.symm h.xe)).trans h.e⟩
theorem setE (h : G2 w0 W g A n c at_ X cX t E e) (u : Int) : G2 w0 (W.setCell ⟨E, 0, none⟩ (.int .i64 u)) g A n c at_ X cX t E u :=
  ⟨h.below.setCell (p := ⟨E, 0, none⟩) h.e0 _, ⟨(Below.heap_setCell W ⟨E, 0, none⟩ _ g (Ne.symm h.ge)).trans h.rd.1, h.rd.2⟩, h.g0, h.x0, h.e0, h.gx, h.ge, h.xe,
    (Below.heap_setCell W ⟨E, 0, none⟩ _ X h.xe).trans h.x, by have := h.e; unfold Bk at this ⊢; simp [World.setCell, Array.getElem?_modify, this]⟩
theorem alloc (h : G2 w0 W g A n c at_ X cX t E e) (o : Obj) : G2 w0 (W.alloc o) g A n c at_ X cX t E e :=
  ⟨below_alloc h.below o, h.rd.alloc o, h.g0, h.x0, h.e0, h.gx, h.ge, h.xe, (Below.heap_alloc W o X h.x.lt).trans h.x, (Below.heap_alloc W o E h.e.lt).trans h.e⟩
/-- The error's cell and the rest behind a fault: the reader plays no part any more. -/
theorem bad (h : G2 w0 W g A n c at_ X cX t E e) (B : Below w0.heap.size w0 W1) (K : KeepBut W W1 g none) (u : Int) :
    Below w0.heap.size w0 (W1.setCell ⟨E, 0, none⟩ (.int .i64 u)) ∧ Bk (W1.setCell ⟨E, 0, none⟩ (.int .i64 u)) X cX t ∧ Bk (W1.setCell ⟨E, 0, none⟩ (.int .i64 u)) E #[.int .i64 u] 28 ∧ Bk W1 E #[.int .i64 e] 28 :=
  ⟨B.setCell (p := ⟨E, 0, none⟩) h.e0 _, (Below.heap_setCell W1 ⟨E, 0, none⟩ _ X h.xe).trans (h.x.keep K h.gx), by have := h.e.keep K h.ge; unfold Bk at this ⊢; simp [World.setCell, Array.getElem?_modify, this], h.e.keep K h.ge⟩
theorem start {w0 : World} {A : Option Addr} {n c : Nat} (cX : Array Value) (t : TypeId) (W : World) (hW : W = ((w0.alloc (.cells cX t (0, 0))).alloc (.cells #[.int .i64 0] 28 (0, 0))).alloc (.cells #[.slice A n c, .int .i64 0] 184 (0, 0))) :
    G2 w0 W (w0.heap.size + 1 + 1) A n c 0 w0.heap.size cX t (w0.heap.size + 1) 0 := by
  subst hW
  have h1 : (w0.alloc (.cells cX t (0, 0))).heap.size = w0.heap.size + 1 := World.size_alloc _ _
  have h2 : ((w0.alloc (.cells cX t (0, 0))).alloc (.cells #[.int .i64 0] 28 (0, 0))).heap.size = w0.heap.size + 1 + 1 := by rw [World.size_alloc, h1]
  refine ⟨below_alloc (below_alloc (below_alloc (Below.refl _ _) _) _) _, ⟨?_, by omega, by omega⟩, by omega, by omega, by omega, by omega, by omega, by omega, ?_, ?_⟩
  · have := blk_new ((w0.alloc (.cells cX t (0, 0))).alloc (.cells #[.int .i64 0] 28 (0, 0))) (.cells #[.slice A n c, .int .i64 0] 184 (0, 0))
    rwa [h2] at this
  · exact (Below.heap_alloc _ _ _ (by rw [h2]; omega)).trans ((Below.heap_alloc _ _ _ (by rw [h1]; omega)).trans (blk_new w0 _))
  · refine (Below.heap_alloc _ _ _ (by rw [h2]; omega)).trans ?_
    have := blk_new (w0.alloc (.cells cX t (0, 0))) (.cells #[.int .i64 0] 28 (0, 0))
    rwa [h1] at this
end G2

set_option maxHeartbeats 2000000 in
set_option maxRecDepth 100000 in
theorem getHard_core (A : Option Addr) (c : Nat) (l : List Int) (w0 : World) (hr : Kd.C (Kd.int .u8) w0 A l.length l) (hc : l.length ≤ c) (hok : okLen l) (r : Int × Int × Int) (hres : getHard l = r) :
    Calls Try.prog 101 #[.slice A l.length c] w0 fun e w' => HardPost w0 r e w' := by
  have HS := Aside0.mk hres
  have HR := Aside0.mk hr
  have HK := Aside0.mk hok
  clear hres hr hok
  go_enter_defers Try.func101, Try.ntmps101
  go_wp2_with fail
  have HC1 := Aside0.mk (G2.start (w0 := w0) (A := A) (n := l.length) (c := c) #[.int .i64 0, .int .i64 0] 81 _ rfl)
  refine (number_calls w0 _ (w0.heap.size + 1 + 1) A c l 0 0 (Kd.C_below HR.out HC1.out.below) hc HC1.out.rd HC1.out.below HC1.out.g0 HK.out).mono ?_
  rintro e w1 ⟨B1, K1, hm⟩
  cases hn1 : rdNum l 0 0 with
  | error x =>
    rw [hn1] at hm
    obtain rfl := hm
    have hx : r = (0, 0, x) := by rw [← HS.out, getHard, hn1]
    subst hx
    obtain ⟨q1, q2, q3, q4⟩ := HC1.out.bad B1 K1 x
    exact door_panic q4 (fun W1 hW1 => by subst hW1; exact ⟨res28 q2 q3 rfl rfl, rfl, q1⟩)
  | ok p =>
  obtain ⟨t, a1⟩ := p
  rw [hn1] at hm
  obtain ⟨rfl, I1⟩ := hm
  have HN1 := Aside0.mk hn1
  have HC2 := Aside0.mk (HC1.out.call B1 K1 I1)
  clear hn1 I1 B1 K1
  go_wp2_with fail
  refine (number_calls w0 _ (w0.heap.size + 1 + 1) A c l a1 0 (Kd.C_below HR.out HC2.out.below) hc HC2.out.rd HC2.out.below HC2.out.g0 HK.out).mono ?_
  rintro e w2 ⟨B2, K2, hm⟩
  cases hn2 : rdNum l a1 0 with
  | error x =>
    rw [hn2] at hm
    obtain rfl := hm
    have hx : r = (0, 0, x) := by rw [← HS.out, getHard, HN1.out]; simp only; rw [hn2]
    subst hx
    obtain ⟨q1, q2, q3, q4⟩ := HC2.out.bad B2 K2 x
    exact door_panic q4 (fun W1 hW1 => by subst hW1; exact ⟨res28 q2 q3 rfl rfl, rfl, q1⟩)
  | ok p =>
  obtain ⟨v, a2⟩ := p
  rw [hn2] at hm
  obtain ⟨rfl, I2⟩ := hm
  have hr0 : r = if 9 < v then (0, 0, 4) else if a2 < l.length then (0, 0, 4) else (t, v, 0) := by rw [← HS.out, getHard, HN1.out]; simp only; rw [hn2]
  have HR0 := Aside0.mk hr0
  have HG2 := (HC2.out.call B2 K2 I2).rd.lt
  have HC3 := Aside0.mk ((HC2.out.call B2 K2 I2).alloc (.cells #[.int .i64 t, .int .i64 v] 81 (0, 0)))
  have hY := blk_new w2 (.cells #[.int .i64 t, .int .i64 v] 81 (0, 0))
  clear hn2 I2 B2 K2 hr0
  by_cases hv : 9 < v
  · have hvb : decide (9 < v) = true := by simpa using hv
    go_wp2
    have hx : r = (0, 0, 4) := by rw [HR0.out, if_pos hv]
    subst hx
    obtain ⟨q1, q2, q3, q4⟩ := HC3.out.bad HC3.out.below (KeepBut.refl _ _ _) 4
    exact door_panic q4 (fun W1 hW1 => by subst hW1; exact ⟨res28 q2 q3 rfl rfl, rfl, q1⟩)
  · have hvb : decide (9 < v) = false := by simpa using hv
    go_wp2_with fail
    have HY := Aside0.mk hY
    refine (end_calls w0 _ (w0.heap.size + 1 + 1) A l.length c a2 HC3.out.rd HC3.out.below HC3.out.g0 _ rfl).mono ?_
    rintro e w3 ⟨B3, K3, hm⟩
    have hYg : w2.heap.size ≠ w0.heap.size + 1 + 1 := by have := HG2; omega
    by_cases ha : a2 < l.length
    · rw [if_pos ha] at hm
      obtain rfl := hm
      have hx : r = (0, 0, 4) := by rw [HR0.out, if_neg (by omega), if_pos ha]
      subst hx
      obtain ⟨q1, q2, q3, q4⟩ := HC3.out.bad B3 K3 4
      exact door_panic q4 (fun W1 hW1 => by subst hW1; exact ⟨res28 q2 q3 rfl rfl, rfl, q1⟩)
    · rw [if_neg ha] at hm
      obtain ⟨rfl, I3⟩ := hm
      have hx : r = (t, v, 0) := by rw [HR0.out, if_neg (by omega), if_neg ha]
      have HX := Aside0.mk hx
      have HC4 := Aside0.mk (HC3.out.call B3 K3 I3)
      have hY3 : Bk w3 w2.heap.size #[.int .i64 t, .int .i64 v] 81 := K3.blk HY.out hYg (by simp)
      have y0 := hY3.cell 0 _ rfl
      have y1 := hY3.cell 1 _ rfl
      have x0 := HC4.out.x.cell 0 _ rfl
      have x1 := HC4.out.x.cell 1 _ rfl
      have fx := HC4.out.x.frozen
      have e0 := HC4.out.e.cell 0 _ rfl
      have fe := HC4.out.e.frozen
      have hxe : ¬ w0.heap.size + 1 = w0.heap.size := by omega
      have hxe2 : ¬ w0.heap.size = w0.heap.size + 1 := by omega
      clear hx hY hY3 I3 B3 K3 hYg
      go_wp2
      have HF := ((HC4.out.setX 0 (.int .i64 t)).setX 1 (.int .i64 v)).setE 0
      have hx := HX.out
      subst hx
      exact door_ret (res28 HF.x HF.e rfl rfl) ⟨rfl, HF.below⟩
theorem wire_GetHard.calls (A0 : Option Addr) (c0 : Nat) (l0 : List Int) (r1 : Int) (r2 : Int) (r3 : Int) (w : World) (hr0 : Kd.C (Kd.int .u8) w A0 l0.length l0) (hc0 : l0.length ≤ c0) (h : wire_GetHard.f l0 = some (r1, r2, r3)) :
    Calls Try.prog 101 #[.slice A0 l0.length c0] w fun e w' => e = .returned (.tuple #[.agg #[.int .i64 r1, .int .i64 r2], .int .i64 r3]) ∧ Below w.heap.size w w' := by
  unfold wire_GetHard.f at h
  by_cases hc : okBytes l0 = true ∧ l0.length ≤ 200000000000000
  · rw [if_pos hc] at h
    exact (getHard_core A0 c0 l0 w hr0 hc0 hc _ (Option.some.inj h)).mono fun _ _ h => h
  · rw [if_neg hc] at h
    cases h
end Go.Proofs.Ytmmiipnmimjojaa.PS
end
section
namespace Go.Proofs.Ytmmiipnmimjojaa.PS
open Go.RowKit Go.Proofs.YtmmiipnmimjojaaW.PrintWords Go.Proofs.YtmmiipnmimjojaaW.PrintLast Go.Proofs.YtmmiipnmimjojaaW.PrintMore
set_option linter.unusedVariables false
set_option linter.unusedSimpArgs false
theorem res25 {W : World} {X E : Nat} {a b c d e : Value} {tmps : Array Value} (h : Bk W X #[a, b, c, d] 48) (hE : Bk W E #[e] 28) (ht : tmps.getD 2 undef = .pointer (some ⟨X, 0, none⟩)) (ht2 : tmps.getD 3 undef = .pointer (some ⟨E, 0, none⟩)) :
    (results Try.f102 tmps).run Try.prog W = .ok (.tuple #[.agg #[a, b, c, d], e]) W := by
  have q0 := h.cell 0 _ rfl
  have q1 := h.cell 1 _ rfl
  have q2 := h.cell 2 _ rfl
  have q3 := h.cell 3 _ rfl
  have q4 := hE.cell 0 _ rfl
  have t1 : tmps[2]?.getD undef = .pointer (some ⟨X, 0, none⟩) := by simpa using ht
  have t2 : tmps[3]?.getD undef = .pointer (some ⟨E, 0, none⟩) := by simpa using ht2
  simp [results, Try.results102, go_sem, t1, t2, q0, q1, q2, q3, q4]
/-- GetEntry's answer. -/
def getEntry (l : List Int) : Int × Int × Int × List Int × Int :=
  match rdEntry l 0 with
  | .error x => (0, 0, 0, [], x)
  | .ok ((k, t, i, d), a) => if a < l.length then (0, 0, 0, [], 4) else (k, t, i, d, 0)
def wire_GetEntry.f (l0 : List Int) : Option (Int × Int × Int × List Int × Int) := if okBytes l0 = true ∧ l0.length ≤ 200000000000000 then some (getEntry l0) else none
def EntryPost (w0 : World) (r : Int × Int × Int × List Int × Int) (e : Ending) (w' : World) : Prop :=
  ∃ v3_ : Value, e = .returned (.tuple #[.agg #[.int .i64 r.1, .int .i64 r.2.1, .int .i64 r.2.2.1, v3_], .int .i64 r.2.2.2.2]) ∧ Kd.R (Kd.int .u8) 5 w' w0.heap.size (fun _ => True) v3_ r.2.2.2.1 ∧ Below w0.heap.size w0 w'
set_option maxHeartbeats 2000000 in
set_option maxRecDepth 100000 in
theorem getEntry_core (A : Option Addr) (c : Nat) (l : List Int) (w0 : World) (hr : Kd.C (Kd.int .u8) w0 A l.length l) (hc : l.length ≤ c) (hok : okLen l) (r : Int × Int × Int × List Int × Int) (hres : getEntry l = r) :
    Calls Try.prog 102 #[.slice A l.length c] w0 fun e w' => EntryPost w0 r e w' := by
  have HS := Aside0.mk hres
  have HR := Aside0.mk hr
  have HK := Aside0.mk hok
  clear hres hr hok
  go_enter_defers Try.func102, Try.ntmps102
  go_wp2_with fail
  have HC1 := Aside0.mk (G2.start (w0 := w0) (A := A) (n := l.length) (c := c) Z34 48 _ rfl)
  refine (entry_calls w0 _ (w0.heap.size + 1 + 1) A c l 0 HR.out hc HC1.out.rd HC1.out.below HC1.out.g0 HK.out _ rfl).mono ?_
  rintro e w1 ⟨B1, K1, hm⟩
  cases hn1 : rdEntry l 0 with
  | error x =>
    rw [hn1] at hm
    obtain rfl := hm
    have hx : r = (0, 0, 0, [], x) := by rw [← HS.out, getEntry, hn1]
    subst hx
    obtain ⟨q1, q2, q3, q4⟩ := HC1.out.bad B1 K1 x
    exact door_panic q4 (fun W1 hW1 => by subst hW1; exact ⟨res25 q2 q3 rfl rfl, _, rfl, Kd.R_nil _ _ _ _ _, q1⟩)
  | ok p =>
  obtain ⟨⟨k, t, i, d⟩, a1⟩ := p
  rw [hn1] at hm
  obtain ⟨v, rfl, R1, I1⟩ := hm
  have hr0 : r = if a1 < l.length then (0, 0, 0, [], 4) else (k, t, i, d, 0) := by rw [← HS.out, getEntry, hn1]
  have HR0 := Aside0.mk hr0
  have hg1 := I1.lt
  have HC2 := Aside0.mk ((HC1.out.call B1 K1 I1).alloc (.cells #[.int .i64 k, .int .i64 t, .int .i64 i, v] 48 (0, 0)))
  have hY := blk_new w1 (.cells #[.int .i64 k, .int .i64 t, .int .i64 i, v] 48 (0, 0))
  have HY := Aside0.mk hY
  obtain ⟨Ad, cd, rfl⟩ := Kd.R_slice R1
  have hsz1 : (((w0.alloc (.cells Z34 48 (0, 0))).alloc (.cells #[.int .i64 0] 28 (0, 0))).alloc (.cells #[.slice A l.length c, .int .i64 0] 184 (0, 0))).heap.size = w0.heap.size + 1 + 1 + 1 := by rw [World.size_alloc, World.size_alloc, World.size_alloc]
  have R2 : Kd.R (Kd.int .u8) 5 (w1.alloc (.cells #[.int .i64 k, .int .i64 t, .int .i64 i, .slice Ad d.length cd] 48 (0, 0))) (w0.heap.size + 1 + 1 + 1) (fun k => w0.heap.size + 1 + 1 + 1 ≤ k) (.slice Ad d.length cd) d := by
    rw [hsz1] at R1
    exact Kd.R_alloc (Kd.R_mono (Kd.R_bound R1) (fun k hk => hk.2.1)) _
  have HR2 := Aside0.mk R2
  clear hn1 I1 B1 K1 R1 R2 hsz1 hr0 hY
  go_wp2_with fail
  refine (end_calls w0 _ (w0.heap.size + 1 + 1) A l.length c a1 HC2.out.rd HC2.out.below HC2.out.g0 _ rfl).mono ?_
  rintro e w3 ⟨B3, K3, hm⟩
  have hYg : w1.heap.size ≠ w0.heap.size + 1 + 1 := by omega
  by_cases ha : a1 < l.length
  · rw [if_pos ha] at hm
    obtain rfl := hm
    have hx : r = (0, 0, 0, [], 4) := by rw [HR0.out, if_pos ha]
    subst hx
    obtain ⟨q1, q2, q3, q4⟩ := HC2.out.bad B3 K3 4
    exact door_panic q4 (fun W1 hW1 => by subst hW1; exact ⟨res25 q2 q3 rfl rfl, _, rfl, Kd.R_nil _ _ _ _ _, q1⟩)
  · rw [if_neg ha] at hm
    obtain ⟨rfl, I3⟩ := hm
    have hx : r = (k, t, i, d, 0) := by rw [HR0.out, if_neg ha]
    have HX := Aside0.mk hx
    have HC4 := Aside0.mk (HC2.out.call B3 K3 I3)
    have hY3 : Bk w3 w1.heap.size #[.int .i64 k, .int .i64 t, .int .i64 i, .slice Ad d.length cd] 48 := K3.blk HY.out hYg (by simp)
    have HR3 := Aside0.mk (Kd.R_keep HR2.out K3 (fun k hk => by omega))
    have y0 := hY3.cell 0 _ rfl
    have y1 := hY3.cell 1 _ rfl
    have y2 := hY3.cell 2 _ rfl
    have y3 := hY3.cell 3 _ rfl
    have x0 := HC4.out.x.cell 0 _ rfl
    have x1 := HC4.out.x.cell 1 _ rfl
    have x2 := HC4.out.x.cell 2 _ rfl
    have x3 := HC4.out.x.cell 3 _ rfl
    have fx := HC4.out.x.frozen
    have e0 := HC4.out.e.cell 0 _ rfl
    have fe := HC4.out.e.frozen
    have hxe : ¬ w0.heap.size + 1 = w0.heap.size := by omega
    have hxe2 : ¬ w0.heap.size = w0.heap.size + 1 := by omega
    clear hx hY3 I3 B3 K3 hYg
    go_wp2
    have HF := ((((HC4.out.setX 0 (.int .i64 k)).setX 1 (.int .i64 t)).setX 2 (.int .i64 i)).setX 3 (.slice Ad d.length cd)).setE 0
    have hx := HX.out
    subst hx
    refine door_ret (res25 HF.x HF.e rfl rfl) ⟨_, rfl, ?_, HF.below⟩
    exact Kd.R_mono (ok := fun k => w0.heap.size + 1 + 1 + 1 ≤ k) (ok' := fun _ => True) (h := Kd.R_lower (Kd.R_far (p := ⟨w0.heap.size + 1, 0, none⟩) (Kd.R_far (p := ⟨w0.heap.size, 3, none⟩) (Kd.R_far (p := ⟨w0.heap.size, 2, none⟩) (Kd.R_far (p := ⟨w0.heap.size, 1, none⟩) (Kd.R_far (p := ⟨w0.heap.size, 0, none⟩) HR3.out
      (fun k hk => by show k ≠ w0.heap.size; omega) _) (fun k hk => by show k ≠ w0.heap.size; omega) _) (fun k hk => by show k ≠ w0.heap.size; omega) _) (fun k hk => by show k ≠ w0.heap.size; omega) _) (fun k hk => by show k ≠ w0.heap.size + 1; omega) _) (by omega)) (fun _ _ => trivial)
theorem wire_GetEntry.calls (A0 : Option Addr) (c0 : Nat) (l0 : List Int) (r1 : Int) (r2 : Int) (r3 : Int) (r4 : List Int) (r5 : Int) (w : World) (hr0 : Kd.C (Kd.int .u8) w A0 l0.length l0) (hc0 : l0.length ≤ c0) (h : wire_GetEntry.f l0 = some (r1, r2, r3, r4, r5)) :
    Calls Try.prog 102 #[.slice A0 l0.length c0] w fun e w' => ∃ v3_ : Value, e = .returned (.tuple #[.agg #[.int .i64 r1, .int .i64 r2, .int .i64 r3, v3_], .int .i64 r5]) ∧ Kd.R (Kd.int .u8) 5 w' w.heap.size (fun _ => True) v3_ r4 ∧ Below w.heap.size w w' := by
  unfold wire_GetEntry.f at h
  by_cases hc : okBytes l0 = true ∧ l0.length ≤ 200000000000000
  · rw [if_pos hc] at h
    exact (getEntry_core A0 c0 l0 w hr0 hc0 hc _ (Option.some.inj h)).mono fun _ _ h => h
  · rw [if_neg hc] at h
    cases h
end Go.Proofs.Ytmmiipnmimjojaa.PS
end
section
namespace Go.Proofs.Ytmmiipnmimjojaa.PS
open Go.RowKit Go.Proofs.YtmmiipnmimjojaaW.PrintWords Go.Proofs.YtmmiipnmimjojaaW.PrintLast Go.Proofs.YtmmiipnmimjojaaW.PrintMore
set_option linter.unusedVariables false
set_option linter.unusedSimpArgs false

/-- What stands from a place on. -/
def from_ (l : List Int) (at_ : Int) : List Int := l.drop at_.toNat
theorem from_cons {l : List Int} {at_ : Int} (h0 : 0 ≤ at_) (h1 : at_ < l.length) : from_ l at_ = rd l at_ :: from_ l (at_ + 1) := by
  unfold from_ rd
  have h : at_.toNat < l.length := by omega
  rw [List.drop_eq_getElem_cons h, List.getD_eq_getElem?_getD, List.getElem?_eq_getElem h, show (at_ + 1).toNat = at_.toNat + 1 by omega]
  rfl
theorem from_split {a c l : List Int} {at_ : Int} (h : l = a ++ c) (ha : at_ = a.length) : from_ l at_ = c := by subst h ha; simp [from_]
theorem from_len {l : List Int} {at_ : Int} (h0 : 0 ≤ at_) (h1 : at_ ≤ l.length) : ((from_ l at_).length : Int) = l.length - at_ := by unfold from_; rw [List.length_drop]; omega
theorem from_app {l a c : List Int} {at_ : Int} (h0 : 0 ≤ at_) (h : from_ l at_ = a ++ c) : from_ l (at_ + a.length) = c := by
  unfold from_ at *
  rw [show (at_ + (a.length : Int)).toNat = at_.toNat + a.length by omega, ← List.drop_drop, h]; simp
theorem rd_from {l c : List Int} {at_ x : Int} (h : from_ l at_ = x :: c) : rd l at_ = x := by
  unfold from_ at h; unfold rd
  rw [List.getD_eq_getElem?_getD]
  have h2 : (l.drop at_.toNat)[0]? = some x := by rw [h]; rfl
  rw [List.getElem?_drop, Nat.add_zero] at h2
  rw [h2]; rfl
theorem from_lt {l c : List Int} {at_ x : Int} (h0 : 0 ≤ at_) (h : from_ l at_ = x :: c) : at_ < l.length := by
  unfold from_ at h
  rcases Nat.lt_or_ge at_.toNat l.length with h2 | h2
  · omega
  · rw [List.drop_eq_nil_of_le h2] at h; cases h
theorem from_bytes {l : List Int} (h : okBytes l = true) (at_ : Int) : ∀ x ∈ from_ l at_, 0 ≤ x ∧ x < 256 := fun x hx => okBytes_mem h x (List.mem_of_mem_drop hx)
/-- What is put is taken. -/
theorem takeNum_from {l c : List Int} {at_ n : Int} (h0 : 0 ≤ at_) (h1 : at_ ≤ l.length) (h : from_ l at_ = enc n ++ c) (hn0 : 0 ≤ n) (hn1 : n ≤ 1099511627776) : takeNum l at_ = (n, at_ + (enc n).length, 0) := by
  have hl : l = l.take at_.toNat ++ enc n ++ c := by rw [List.append_assoc, ← h]; exact (List.take_append_drop at_.toNat l).symm
  have ha : ((l.take at_.toNat).length : Int) = at_ := by rw [List.length_take]; omega
  have := takeNum_enc (l.take at_.toNat) c n hn0 hn1
  rw [← hl, ha] at this
  exact this
theorem rdNum_from {l c : List Int} {at_ n least : Int} (h0 : 0 ≤ at_) (h1 : at_ ≤ l.length) (h : from_ l at_ = enc n ++ c) (hl : least ≤ n) (hn0 : 0 ≤ n) (hn1 : n ≤ 1099511627776) : rdNum l at_ least = .ok (n, at_ + (enc n).length) := by
  unfold rdNum
  rw [takeNum_from h0 h1 h hn0 hn1]
  simp only [ne_eq, not_true_eq_false, if_false]
  rw [if_neg (by omega)]
theorem rdByte_from {l c : List Int} {at_ x least most : Int} (h0 : 0 ≤ at_) (h : from_ l at_ = x :: c) (hl : least ≤ x) (hm : x ≤ most) : rdByte l at_ least most = .ok (x, at_ + 1) := by
  have := from_lt h0 h
  unfold rdByte
  rw [rd_from h, if_neg (by omega), if_neg (by omega), if_neg (by omega)]
theorem rdData_from {l d c : List Int} {at_ most : Int} (h0 : 0 ≤ at_) (h1 : at_ ≤ l.length) (h : from_ l at_ = enc d.length ++ (d ++ c)) (hm : (d.length : Int) ≤ most) (hmm : most ≤ 1099511627776) :
    rdData l at_ most = .ok (d, at_ + (enc d.length).length + d.length) := by
  unfold rdData
  rw [rdNum_from h0 h1 h (by omega) (by omega) (by omega)]
  have h2 := from_app h0 h
  have hlen := from_len h0 h1
  rw [h] at hlen
  simp only [List.length_append] at hlen
  simp only
  rw [if_neg (by omega), if_neg (by omega)]
  have h3 : (l.take (at_ + ↑(enc d.length).length + ↑d.length).toNat).drop (at_ + ↑(enc d.length).length).toNat = d := by
    rw [List.drop_take]
    unfold from_ at h2
    rw [h2, show (at_ + ↑(enc d.length).length + ↑d.length).toNat - (at_ + ↑(enc d.length).length).toNat = d.length by omega]
    simp
  rw [h3]
/-- What is taken was put. -/
theorem takeGo_back (l : List Int) (at_ : Int) (hat : 0 ≤ at_) (hb : ∀ i, 0 ≤ rd l i ∧ rd l i ≤ 255) : ∀ (m : Nat) (k acc n at' : Int), at_ + k ≤ l.length → 0 ≤ k → k + m = 5 → 0 ≤ acc → takeGo l at_ (m + 1) k acc = (n, at', 0) →
    ∃ v, 0 ≤ v ∧ v < 128 ^ (m + 1) ∧ n = acc + v * 128 ^ k.toNat ∧ (k = 0 ∨ 0 < v) ∧ from_ l (at_ + k) = encN m v ++ from_ l at' ∧ at' = at_ + k + (encN m v).length ∧ n ≤ 1099511627776 := by
  intro m
  induction m with
  | zero =>
    intro k acc n at' hle hk hkm hacc h
    have hc := hb (at_ + k)
    rcases (show at_ + k = l.length ∨ at_ + k < l.length by omega) with hlen | hlt
    · rw [tg_short hlen] at h; simp at h
    · have hfc := from_cons (l := l) (at_ := at_ + k) (by omega) hlt
      have hne : ¬ at_ + k = l.length := by omega
      obtain ⟨c, hcc⟩ : ∃ c, rd l (at_ + k) = c := ⟨_, rfl⟩
      rw [hcc] at hc hfc
      rcases (show c < 128 ∨ 128 ≤ c by omega) with h128 | h128
      · by_cases hz : c = 0 ∧ 0 < k
        · rw [tg_form hne hcc hz.1 hz.2] at h; simp at h
        · rcases (show acc + c % 128 * 128 ^ k.toNat > 1099511627776 ∨ acc + c % 128 * 128 ^ k.toNat ≤ 1099511627776 by omega) with hm | hm
          · rw [tg_limit hne hcc h128 hz hm] at h; simp at h
          · rw [tg_ok hne hcc h128 hz hm] at h
            simp only [Prod.mk.injEq, and_true] at h
            have e : c % 128 = c := by omega
            rw [e] at h hm
            refine ⟨c, hc.1, by omega, h.1.symm, by omega, ?_, by simp only [encN, List.length_singleton]; omega, by omega⟩
            rw [hfc, ← h.2]; rfl
      · rw [tg_full hne hcc h128 (by omega)] at h; simp at h
  | succ m ih =>
    intro k acc n at' hle hk hkm hacc h
    have hc := hb (at_ + k)
    rcases (show at_ + k = l.length ∨ at_ + k < l.length by omega) with hlen | hlt
    · rw [tg_short hlen] at h; simp at h
    · have hfc := from_cons (l := l) (at_ := at_ + k) (by omega) hlt
      have hne : ¬ at_ + k = l.length := by omega
      obtain ⟨c, hcc⟩ : ∃ c, rd l (at_ + k) = c := ⟨_, rfl⟩
      rw [hcc] at hc hfc
      rcases (show c < 128 ∨ 128 ≤ c by omega) with h128 | h128
      · by_cases hz : c = 0 ∧ 0 < k
        · rw [tg_form hne hcc hz.1 hz.2] at h; simp at h
        · rcases (show acc + c % 128 * 128 ^ k.toNat > 1099511627776 ∨ acc + c % 128 * 128 ^ k.toNat ≤ 1099511627776 by omega) with hm | hm
          · rw [tg_limit hne hcc h128 hz hm] at h; simp at h
          · rw [tg_ok hne hcc h128 hz hm] at h
            simp only [Prod.mk.injEq, and_true] at h
            have e : c % 128 = c := by omega
            rw [e] at h hm
            refine ⟨c, hc.1, ?_, h.1.symm, by omega, ?_, ?_, by omega⟩
            · have hq : (0 : Int) < 128 ^ (m + 1) := Int.pow_pos (by omega)
              have hq2 : (128 : Int) ^ (m + 1 + 1) = 128 ^ (m + 1) * 128 := Int.pow_succ ..
              omega
            · rw [encN, if_pos h128, hfc, ← h.2]; rfl
            · rw [encN, if_pos h128]; simp only [List.length_singleton]; omega
      · rw [tg_more hne hcc h128 (by omega)] at h
        have hp : 0 ≤ c % 128 * 128 ^ k.toNat := Int.mul_nonneg (by omega) (Int.pow_nonneg (by omega))
        obtain ⟨v, v0, v1, hn, hv, hf, ha, hmax⟩ := ih (k + 1) _ n at' (by omega) (by omega) (by omega) (by omega) h
        have e2 : (k + 1).toNat = k.toNat + 1 := by omega
        rw [e2, Int.pow_succ] at hn
        refine ⟨c % 128 + v * 128, by omega, by rw [Int.pow_succ]; omega, ?_, by omega, ?_, ?_, hmax⟩
        · rw [hn, Int.add_mul, Int.mul_assoc, Int.mul_comm (128 ^ k.toNat) 128]; omega
        · rw [encN, if_neg (by omega), hfc, show at_ + k + 1 = at_ + (k + 1) by omega, hf, show (c % 128 + v * 128) % 128 + 128 = c by omega, show (c % 128 + v * 128) / 128 = v by omega]; rfl
        · rw [encN, if_neg (by omega), show (c % 128 + v * 128) / 128 = v by omega, List.length_cons]; omega
theorem rdNum_back {l : List Int} {at_ least n at' : Int} (hok : okBytes l = true) (h : rdNum l at_ least = .ok (n, at')) : 0 ≤ at_ ∧ at_ ≤ l.length ∧ least ≤ n ∧ 0 ≤ n ∧ n ≤ 1099511627776 ∧ from_ l at_ = enc n ++ from_ l at' ∧ at' = at_ + (enc n).length ∧ at' ≤ l.length := by
  unfold rdNum at h
  split at h
  · cases h
  · rename_i h3
    split at h
    · cases h
    · simp only [Except.ok.injEq, Prod.mk.injEq] at h
      obtain ⟨rfl, rfl⟩ := h
      have h3 : (takeNum l at_).2.2 = 0 := Decidable.not_not.1 h3
      unfold takeNum at *
      by_cases h0 : at_ < 0
      · rw [if_pos h0] at h3; simp at h3
      · by_cases h1 : at_ > l.length
        · rw [if_neg h0, if_pos h1] at h3; simp at h3
        · rw [if_neg h0, if_neg h1] at *
          have hb := takeGo_back l at_ (by omega) (okBytes_rd hok) 5 0 0 (takeGo l at_ 6 0 0).1 (takeGo l at_ 6 0 0).2.1 (by omega) (by omega) (by omega) (by omega) (Prod.ext rfl (Prod.ext rfl h3))
          obtain ⟨v, v0, v1, hn, _, hf, ha, hmax⟩ := hb
          have e : (takeGo l at_ 6 0 0).1 = v := by rw [hn]; simp
          rw [e] at hmax ⊢
          rw [Int.add_zero] at hf ha
          have he : encN 5 v = enc v := (enc_six v0 (by omega)).symm
          rw [he] at hf ha
          refine ⟨by omega, by omega, by omega, v0, hmax, hf, ha, ?_⟩
          have := from_len (l := l) (at_ := at_) (by omega) (by omega)
          rw [hf, List.length_append] at this
          omega
theorem rdByte_back {l : List Int} {at_ least most x at' : Int} (h0 : 0 ≤ at_) (h1 : at_ ≤ l.length) (h : rdByte l at_ least most = .ok (x, at')) : least ≤ x ∧ x ≤ most ∧ from_ l at_ = x :: from_ l at' ∧ at' = at_ + 1 ∧ at' ≤ l.length := by
  unfold rdByte at h
  split at h
  · cases h
  · split at h
    · cases h
    · split at h
      · cases h
      · simp only [Except.ok.injEq, Prod.mk.injEq] at h
        obtain ⟨rfl, rfl⟩ := h
        exact ⟨by omega, by omega, from_cons h0 (by omega), rfl, by omega⟩
theorem rdData_back {l d : List Int} {at_ most at' : Int} (hok : okBytes l = true) (h : rdData l at_ most = .ok (d, at')) : 0 ≤ at_ ∧ at_ ≤ l.length ∧ (d.length : Int) ≤ most ∧ from_ l at_ = enc d.length ++ (d ++ from_ l at') ∧ at' = at_ + (enc d.length).length + d.length ∧ at' ≤ l.length := by
  unfold rdData at h
  cases hn : rdNum l at_ 0 with
  | error x => rw [hn] at h; cases h
  | ok p =>
    obtain ⟨n, a1⟩ := p
    rw [hn] at h
    obtain ⟨b0, b1, _, b2, b3, b4, b5, b6⟩ := rdNum_back hok hn
    simp only at h
    split at h
    · cases h
    · split at h
      · cases h
      · simp only [Except.ok.injEq, Prod.mk.injEq] at h
        obtain ⟨rfl, rfl⟩ := h
        have hl : (((l.take (a1 + n).toNat).drop a1.toNat).length : Int) = n := by rw [List.length_drop, List.length_take]; omega
        rw [hl]
        refine ⟨b0, b1, by omega, ?_, by omega, by omega⟩
        rw [b4]
        congr 1
        unfold from_
        rw [List.drop_take, show (a1 + n).toNat - a1.toNat = n.toNat by omega, show (a1 + n).toNat = a1.toNat + n.toNat by omega, ← List.drop_drop, List.take_append_drop]
end Go.Proofs.Ytmmiipnmimjojaa.PS
end
section
namespace Go.Proofs.Ytmmiipnmimjojaa.PS
open Go.RowKit Go.Proofs.YtmmiipnmimjojaaW.PrintWords Go.Proofs.YtmmiipnmimjojaaW.PrintLast Go.Proofs.YtmmiipnmimjojaaW.PrintMore
set_option linter.unusedVariables false
set_option linter.unusedSimpArgs false

theorem entBytes_bytes {k t i : Int} {d : List Int} (h : ¬ entBad k t i d) (hd : d.length ≤ 2048) (hb : ∀ x ∈ d, 0 ≤ x ∧ x < 256) : ∀ x ∈ entBytes k t i d, 0 ≤ x ∧ x < 256 := by
  unfold entBad at h
  intro x hx
  simp only [entBytes, List.mem_cons, List.mem_append] at hx
  rcases hx with rfl | ((hx | hx) | hx) | hx
  · omega
  · exact enc_bytes (by omega) (by omega) x hx
  · exact enc_bytes (by omega) (by omega) x hx
  · exact enc_bytes (by omega) (by omega) x hx
  · exact hb x hx
theorem entBytes_len {k t i : Int} {d : List Int} (h : ¬ entBad k t i d) (hd : d.length ≤ 2048) : 4 ≤ (entBytes k t i d).length ∧ (entBytes k t i d).length ≤ 2067 := by
  unfold entBad at h
  have ht := enc_len (n := t) (by omega) (by omega)
  have hi := enc_len (n := i) (by omega) (by omega)
  have hl := enc_len (n := (d.length : Int)) (by omega) (by omega)
  simp only [entBytes, List.length_cons, List.length_append]
  omega
theorem rdEntry_from {l c d : List Int} {at_ k t i : Int} (h0 : 0 ≤ at_) (h1 : at_ ≤ l.length) (h : from_ l at_ = entBytes k t i d ++ c) (hb : ¬ entBad k t i d) (hd : d.length ≤ 2048) :
    rdEntry l at_ = .ok ((k, t, i, d), at_ + (entBytes k t i d).length) := by
  have hbb := hb
  unfold entBad at hbb
  have e0 : from_ l at_ = k :: (enc t ++ (enc i ++ (enc d.length ++ (d ++ c)))) := by rw [h]; simp [entBytes]
  have hlt := from_lt h0 e0
  have e1 : from_ l (at_ + 1) = enc t ++ (enc i ++ (enc d.length ++ (d ++ c))) := from_app (a := [k]) h0 e0
  have len1 := from_len (l := l) (at_ := at_ + 1) (by omega) (by omega)
  rw [e1] at len1
  simp only [List.length_append] at len1
  have e2 := from_app (by omega) e1
  have e3 := from_app (by omega) e2
  unfold rdEntry
  rw [rdByte_from h0 e0 (by omega) (by omega)]
  simp only
  rw [rdNum_from (by omega) (by omega) e1 (by omega) (by omega) (by omega)]
  simp only
  rw [rdNum_from (by omega) (by omega) e2 (by omega) (by omega) (by omega)]
  simp only
  have hlen : (at_ + ((entBytes k t i d).length : Int)) = at_ + 1 + (enc t).length + (enc i).length + (enc d.length).length + d.length := by
    simp only [entBytes, List.length_cons, List.length_append]; omega
  rw [hlen]
  by_cases hk : k = 1
  · have hd0 : d = [] := List.length_eq_zero_iff.1 (by omega)
    subst hd0
    rw [if_pos hk, rdNum_from (n := 0) (by omega) (by omega) e3 (by omega) (by omega) (by omega)]
    simp only
    rw [if_neg (by omega)]
    simp
  · rw [if_neg hk, rdData_from (by omega) (by omega) e3 (by omega) (by omega)]
theorem rdEntry_back {l d : List Int} {at_ k t i at' : Int} (hok : okBytes l = true) (h0 : 0 ≤ at_) (h1 : at_ ≤ l.length) (h : rdEntry l at_ = .ok ((k, t, i, d), at')) :
    ¬ entBad k t i d ∧ d.length ≤ 2048 ∧ from_ l at_ = entBytes k t i d ++ from_ l at' ∧ at' = at_ + (entBytes k t i d).length ∧ at' ≤ l.length := by
  unfold rdEntry at h
  cases hk : rdByte l at_ 1 3 with
  | error x => rw [hk] at h; cases h
  | ok p =>
  obtain ⟨k', a1⟩ := p
  rw [hk] at h
  obtain ⟨k0, k1, fk, ak, lk⟩ := rdByte_back h0 h1 hk
  simp only at h
  cases ht : rdNum l a1 1 with
  | error x => rw [ht] at h; cases h
  | ok p =>
  obtain ⟨t', a2⟩ := p
  rw [ht] at h
  obtain ⟨_, _, t0, _, t1, ft, at2, lt⟩ := rdNum_back hok ht
  simp only at h
  cases hi : rdNum l a2 1 with
  | error x => rw [hi] at h; cases h
  | ok p =>
  obtain ⟨i', a3⟩ := p
  rw [hi] at h
  obtain ⟨_, _, i0, _, i1, fi, at3, li⟩ := rdNum_back hok hi
  simp only at h
  by_cases hk1 : k' = 1
  · rw [if_pos hk1] at h
    cases hn : rdNum l a3 0 with
    | error x => rw [hn] at h; cases h
    | ok p =>
    obtain ⟨n, a4⟩ := p
    rw [hn] at h
    obtain ⟨_, _, n0, _, n1, fn, at4, ln⟩ := rdNum_back hok hn
    simp only at h
    by_cases hn0 : 0 < n
    · rw [if_pos hn0] at h; cases h
    · rw [if_neg hn0] at h
      simp only [Except.ok.injEq, Prod.mk.injEq] at h
      obtain ⟨⟨rfl, rfl, rfl, rfl⟩, rfl⟩ := h
      have hz : n = 0 := by omega
      subst hz
      refine ⟨by unfold entBad; simp only [List.length_nil]; omega, by simp, ?_, ?_, ln⟩
      · rw [fk, ft, fi, fn]; simp [entBytes]
      · simp only [entBytes, List.length_cons, List.length_append, List.length_nil]
        have : ((0 : Nat) : Int) = 0 := rfl
        rw [this]
        omega
  · rw [if_neg hk1] at h
    cases hd : rdData l a3 2048 with
    | error x => rw [hd] at h; cases h
    | ok p =>
    obtain ⟨d', a4⟩ := p
    rw [hd] at h
    obtain ⟨_, _, dl, fd, at4, ld⟩ := rdData_back hok hd
    simp only at h
    simp only [Except.ok.injEq, Prod.mk.injEq] at h
    obtain ⟨⟨rfl, rfl, rfl, rfl⟩, rfl⟩ := h
    refine ⟨by unfold entBad; omega, by omega, ?_, ?_, ld⟩
    · rw [fk, ft, fi, fd]; simp [entBytes]
    · simp only [entBytes, List.length_cons, List.length_append]
      omega
theorem rdNum_ne0 {l : List Int} {a b x : Int} (h : rdNum l a b = .error x) : x ≠ 0 := by
  unfold rdNum at h
  split at h
  · rename_i h1; simp only [Except.error.injEq] at h; omega
  · split at h
    · simp only [Except.error.injEq] at h; omega
    · cases h
theorem rdByte_ne0 {l : List Int} {a b c x : Int} (h : rdByte l a b c = .error x) : x ≠ 0 := by
  unfold rdByte at h
  split at h
  · simp only [Except.error.injEq] at h; omega
  · split at h
    · simp only [Except.error.injEq] at h; omega
    · split at h
      · simp only [Except.error.injEq] at h; omega
      · cases h
theorem rdData_ne0 {l : List Int} {a b x : Int} (h : rdData l a b = .error x) : x ≠ 0 := by
  unfold rdData at h
  split at h
  · rename_i hn; simp only [Except.error.injEq] at h; subst h; exact rdNum_ne0 hn
  · split at h
    · simp only [Except.error.injEq] at h; omega
    · split at h
      · simp only [Except.error.injEq] at h; omega
      · cases h
theorem rdEntry_ne0 {l : List Int} {a x : Int} (h : rdEntry l a = .error x) : x ≠ 0 := by
  unfold rdEntry at h
  split at h
  · rename_i hn; simp only [Except.error.injEq] at h; subst h; exact rdByte_ne0 hn
  · split at h
    · rename_i hn; simp only [Except.error.injEq] at h; subst h; exact rdNum_ne0 hn
    · split at h
      · rename_i hn; simp only [Except.error.injEq] at h; subst h; exact rdNum_ne0 hn
      · split at h
        · split at h
          · rename_i hn; simp only [Except.error.injEq] at h; subst h; exact rdNum_ne0 hn
          · split at h
            · simp only [Except.error.injEq] at h; omega
            · cases h
        · split at h
          · rename_i hn; simp only [Except.error.injEq] at h; subst h; exact rdData_ne0 hn
          · cases h
theorem from_zero (l : List Int) : from_ l 0 = l := rfl
theorem from_end {l : List Int} {at_ : Int} (h : ¬ at_ < l.length) : from_ l at_ = [] := List.drop_eq_nil_of_le (by omega)
theorem getEntry_put {k t i : Int} {d : List Int} (hb : ¬ entBad k t i d) (hd : d.length ≤ 2048) : getEntry (entBytes k t i d) = (k, t, i, d, 0) := by
  unfold getEntry
  rw [rdEntry_from (c := []) (by omega) (by omega) (by simp [from_zero]) hb hd]
  simp only
  rw [if_neg (by omega)]
theorem getEntry_back {l d : List Int} {k t i : Int} (hok : okBytes l = true) (h : getEntry l = (k, t, i, d, 0)) : ¬ entBad k t i d ∧ d.length ≤ 2048 ∧ l = entBytes k t i d := by
  unfold getEntry at h
  cases hr : rdEntry l 0 with
  | error x =>
    rw [hr] at h
    simp only [Prod.mk.injEq] at h
    obtain ⟨_, _, _, _, rfl⟩ := h
    exact absurd rfl (rdEntry_ne0 hr)
  | ok p =>
    obtain ⟨⟨k', t', i', d'⟩, a⟩ := p
    rw [hr] at h
    simp only at h
    by_cases ha : a < l.length
    · rw [if_pos ha] at h; simp at h
    · rw [if_neg ha] at h
      simp only [Prod.mk.injEq] at h
      obtain ⟨rfl, rfl, rfl, rfl, _⟩ := h
      obtain ⟨b1, b2, b3, b4, b5⟩ := rdEntry_back hok (by omega) (by omega) hr
      refine ⟨b1, b2, ?_⟩
      rw [from_zero, from_end ha, List.append_nil] at b3
      exact b3
theorem getHard_put {t v : Int} (h : hardErr t v = 0) : getHard (enc t ++ enc v) = (t, v, 0) := by
  unfold hardErr at h
  have hh : ¬ (t < 0 ∨ 1099511627776 < t ∨ v < 0 ∨ 9 < v) := fun hh => by rw [if_pos hh] at h; cases h
  unfold getHard
  have e0 : from_ (enc t ++ enc v) 0 = enc t ++ (enc v ++ []) := by simp [from_zero]
  have ht := enc_len (n := t) (by omega) (by omega)
  have hv := enc_len (n := v) (by omega) (by omega)
  rw [rdNum_from (by omega) (by simp; omega) e0 (by omega) (by omega) (by omega)]
  simp only
  rw [rdNum_from (by omega) (by simp only [List.length_append]; omega) (from_app (by omega) e0) (by omega) (by omega) (by omega)]
  simp only
  rw [if_neg (by omega), if_neg (by simp only [List.length_append]; omega)]
end Go.Proofs.Ytmmiipnmimjojaa.PS
end
