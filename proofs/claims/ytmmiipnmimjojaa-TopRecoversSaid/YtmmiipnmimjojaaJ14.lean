/- The texts of this claim's seat, joined: part 14. -/
import Derived.Test.YtmmiipnmimjojaaJ13
section
namespace Go.Proofs.Ytmmiipnmimjojaa.PS
open Go.RowKit Go.Proofs.YtmmiipnmimjojaaW.PrintWords Go.Proofs.YtmmiipnmimjojaaW.PrintLast Go.Proofs.YtmmiipnmimjojaaW.PrintMore
set_option linter.unusedVariables false
set_option linter.unusedSimpArgs false
/-- r.entry() -/
def rdEntry (l : List Int) (at_ : Int) : Except Int ((Int × Int × Int × List Int) × Int) :=
  match rdByte l at_ 1 3 with
  | .error x => .error x
  | .ok (k, a1) => match rdNum l a1 1 with
    | .error x => .error x
    | .ok (t, a2) => match rdNum l a2 1 with
      | .error x => .error x
      | .ok (i, a3) => if k = 1 then (match rdNum l a3 0 with
          | .error x => .error x
          | .ok (n, a4) => if 0 < n then .error 4 else .ok ((k, t, i, []), a4))
        else match rdData l a3 2048 with
          | .error x => .error x
          | .ok (d, a4) => .ok ((k, t, i, d), a4)
def EntPost (w0 w : World) (g : Nat) (A : Option Addr) (n c : Nat) (r : Except Int ((Int × Int × Int × List Int) × Int)) (e : Ending) (w' : World) : Prop :=
  Below w0.heap.size w0 w' ∧ KeepBut w w' g none ∧ match r with
    | .ok ((k, t, i, xs), at_) => ∃ v, e = .returned (.agg #[.int .i64 k, .int .i64 t, .int .i64 i, v]) ∧ Kd.R (Kd.int .u8) 5 w' w.heap.size (fun _ => True) v xs ∧ IsRd w' g A n c at_
    | .error x => e = .panicked (fault x)
def Bk (w : World) (g : Nat) (cs : Array Value) (t : TypeId) : Prop := w.heap[g]? = some (.cells cs t (0, 0))
theorem Bk.cell {w : World} {g : Nat} {cs : Array Value} {t : TypeId} (h : Bk w g cs t) (j : Nat) (u : Value) (hu : cs[j]? = some u) : w.cell? ⟨g, j, none⟩ = some u := by
  unfold Bk at h; simp [World.cell?, h, hu]
theorem Bk.frozen {w : World} {g : Nat} {cs : Array Value} {t : TypeId} (h : Bk w g cs t) (j : Nat) : w.frozen? ⟨g, j, none⟩ = false := by
  unfold Bk at h; simp [World.frozen?, h]
theorem Bk.keep {w w1 : World} {g g' : Nat} {cs : Array Value} {t : TypeId} (h : Bk w g' cs t) (k : KeepBut w w1 g none) (hne : g' ≠ g) : Bk w1 g' cs t := k.blk h hne (by simp)
theorem Bk.lt {w : World} {g : Nat} {cs : Array Value} {t : TypeId} (h : Bk w g cs t) : g < w.heap.size := blk_lt h
theorem IsRd.lt {w : World} {g : Nat} {A : Option Addr} {n c : Nat} {at_ : Int} (h : IsRd w g A n c at_) : g < w.heap.size := blk_lt h.1
theorem IsRd.alloc {w : World} {g : Nat} {A : Option Addr} {n c : Nat} {at_ : Int} (h : IsRd w g A n c at_) (o : Obj) : IsRd (w.alloc o) g A n c at_ := ⟨(Below.heap_alloc w o g (blk_lt h.1)).trans h.1, h.2⟩
theorem IsRd.keep {w w1 : World} {g g' : Nat} {A : Option Addr} {n c : Nat} {at_ : Int} (h : IsRd w g A n c at_) (k : KeepBut w w1 g' none) (hne : g ≠ g') : IsRd w1 g A n c at_ := ⟨k.blk h.1 hne (by simp), h.2⟩
theorem rdByte_ok {l : List Int} {at_ least most k a1 : Int} (h0 : 0 ≤ at_) (h1 : at_ ≤ l.length) (h : rdByte l at_ least most = .ok (k, a1)) : a1 = at_ + 1 ∧ a1 ≤ l.length ∧ least ≤ k ∧ k ≤ most := by
  unfold rdByte at h
  split at h
  · cases h
  · split at h
    · cases h
    · split at h
      · cases h
      · simp only [Except.ok.injEq, Prod.mk.injEq] at h
        omega

/-- A reader's caller with two blocks of its own. -/
structure C2 (w0 w W : World) (g : Nat) (A : Option Addr) (n c : Nat) (at_ : Int) (X : Nat) (cX : Array Value) (Y : Nat) (cY : Array Value) (t : TypeId) : Prop where
  below : Below w0.heap.size w0 W
  keep : KeepBut w W g none
  rd : IsRd W g A n c at_
  gw : g < w.heap.size
  xw : w.heap.size ≤ X
  yw : w.heap.size ≤ Y
  xy : X ≠ Y
  x : Bk W X cX t
  y : Bk W Y cY t
  old : w0.heap.size ≤ w.heap.size
namespace C2
variable {w0 w W W1 : World} {g : Nat} {A : Option Addr} {n c : Nat} {at_ at1 : Int} {X : Nat} {cX : Array Value} {Y : Nat} {cY : Array Value} {t : TypeId}
theorem call (h : C2 w0 w W g A n c at_ X cX Y cY t) (B : Below w0.heap.size w0 W1) (K : KeepBut W W1 g none) (R : IsRd W1 g A n c at1) : C2 w0 w W1 g A n c at1 X cX Y cY t :=
  ⟨B, h.keep.trans K (.inl rfl), R, h.gw, h.xw, h.yw, h.xy, h.x.keep K (by have := h.gw; have := h.xw; omega), h.y.keep K (by have := h.gw; have := h.yw; omega), h.old⟩
theorem bad (h : C2 w0 w W g A n c at_ X cX Y cY t) (K : KeepBut W W1 g none) : KeepBut w W1 g none := h.keep.trans K (.inl rfl)
theorem setY (h : C2 w0 w W g A n c at_ X cX Y cY t) (j : Nat) (u : Value) : C2 w0 w (W.setCell ⟨Y, j, none⟩ u) g A n c at_ X cX Y (cY.setIfInBounds j u) t :=
  ⟨h.below.setCell (p := ⟨Y, j, none⟩) (Nat.le_trans h.old h.yw) _, keep_far h.keep (p := ⟨Y, j, none⟩) h.yw _, ⟨(Below.heap_setCell W ⟨Y, j, none⟩ u g (by have := h.gw; have := h.yw; show g ≠ Y; omega)).trans h.rd.1, h.rd.2⟩, h.gw, h.xw, h.yw, h.xy,
    (Below.heap_setCell W ⟨Y, j, none⟩ u X h.xy).trans h.x, by have := h.y; unfold Bk at this ⊢; simp [World.setCell, Array.getElem?_modify, this], h.old⟩
theorem setX (h : C2 w0 w W g A n c at_ X cX Y cY t) (j : Nat) (u : Value) : C2 w0 w (W.setCell ⟨X, j, none⟩ u) g A n c at_ X (cX.setIfInBounds j u) Y cY t :=
  ⟨h.below.setCell (p := ⟨X, j, none⟩) (Nat.le_trans h.old h.xw) _, keep_far h.keep (p := ⟨X, j, none⟩) h.xw _, ⟨(Below.heap_setCell W ⟨X, j, none⟩ u g (by have := h.gw; have := h.xw; show g ≠ X; omega)).trans h.rd.1, h.rd.2⟩, h.gw, h.xw, h.yw, h.xy,
    by have := h.x; unfold Bk at this ⊢; simp [World.setCell, Array.getElem?_modify, this], (Below.heap_setCell W ⟨X, j, none⟩ u Y (Ne.symm h.xy)).trans h.y, h.old⟩
theorem drewN (h : C2 w0 w W g A n c at_ X cX Y cY t) (m : Nat) : C2 w0 w (W.drewN m) g A n c at_ X cX Y cY t := ⟨pw_below_drewN h.below m, keep_drewN h.keep m, h.rd, h.gw, h.xw, h.yw, h.xy, h.x, h.y, h.old⟩
end C2
abbrev Z34 : Array Value := #[.int .i64 0, .int .i64 0, .int .i64 0, .slice none 0 0]

theorem ret42 {R : Ending → World → Prop} {W : World} {X : Nat} {a b c d : Value} {tmps : Array Value} (h : Bk W X #[a, b, c, d] 48) (htm : tmps.getD 2 undef = .pointer (some ⟨X, 0, none⟩))
    (hR : R (.returned (.agg #[a, b, c, d])) W) : bodyPost Try.prog Try.f121 R .ret { tmps := tmps, defers := [] } W := by
  have q0 := h.cell 0 _ rfl
  have q1 := h.cell 1 _ rfl
  have q2 := h.cell 2 _ rfl
  have q3 := h.cell 3 _ rfl
  refine bodyPost_ret (v := .agg #[a, b, c, d]) ?_ rfl hR
  have ht : tmps[2]?.getD undef = .pointer (some ⟨X, 0, none⟩) := by simpa using htm
  simp [results, Try.results121, go_sem, ht, q0, q1, q2, q3]
set_option maxHeartbeats 2000000 in
set_option maxRecDepth 100000 in
theorem entry_calls (w0 w : World) (g : Nat) (A : Option Addr) (c : Nat) (l : List Int) (at_ : Int) (hr : Kd.C (Kd.int .u8) w0 A l.length l) (hc : l.length ≤ c) (hI : IsRd w g A l.length c at_)
    (hB : Below w0.heap.size w0 w) (hg : w0.heap.size ≤ g) (hok : okLen l) (r : Except Int ((Int × Int × Int × List Int) × Int)) (hres : rdEntry l at_ = r) :
    Calls Try.prog 121 #[.pointer (some ⟨g, 0, none⟩)] w fun e w' => EntPost w0 w g A l.length c r e w' := by
  have HS := Aside0.mk hres
  have HI := Aside0.mk hI
  have HB := Aside0.mk hB
  have HR := Aside0.mk hr
  have HK := Aside0.mk hok
  have hgl := hI.lt
  have hsz := hB.size
  clear hB hI hres hr hok
  go_enter Try.func121, Try.ntmps121
  go_wp2_with fail
  have B0 := Aside0.mk (below_alloc HB.out (.cells Z34 48 (0, 0)))
  have K0 := Aside0.mk (keep_alloc (KeepBut.refl w g none) (.cells Z34 48 (0, 0)))
  refine (byte_calls w0 _ g A c l at_ 1 3 (Kd.C_below HR.out B0.out) hc (HI.out.alloc _) B0.out hg HK.out _ rfl).mono ?_
  rintro e w1 ⟨B1, K1, hm⟩
  cases hn1 : rdByte l at_ 1 3 with
  | error x =>
    rw [hn1] at hm
    obtain rfl := hm
    have hx : r = .error x := by rw [← HS.out, rdEntry, hn1]
    subst hx
    exact ⟨rfl, B1, K0.out.trans K1 (.inl rfl), rfl⟩
  | ok p =>
  obtain ⟨k, a1⟩ := p
  rw [hn1] at hm
  obtain ⟨rfl, I1⟩ := hm
  have HN1 := Aside0.mk hn1
  have bk1 := rdByte_ok HI.out.2.1 HI.out.2.2 hn1
  have hX1 : Bk w1 w.heap.size Z34 48 := K1.blk (blk_new w _) (by omega) (by simp)
  have HC1 := Aside0.mk (show C2 w0 w (w1.alloc (.cells #[.int .i64 k, .int .i64 0, .int .i64 0, .slice none 0 0] 48)) g A l.length c a1 w.heap.size Z34 w1.heap.size #[.int .i64 k, .int .i64 0, .int .i64 0, .slice none 0 0] 48 from
    ⟨below_alloc B1 _, keep_alloc (K0.out.trans K1 (.inl rfl)) _, I1.alloc _, hgl, Nat.le_refl _, Nat.le_trans (by simp) K1.1, by have := hX1.lt; omega, (Below.heap_alloc w1 _ _ hX1.lt).trans hX1, blk_new w1 _, hsz⟩)
  clear hn1 I1 B1 K1 hX1
  go_wp2_with fail
  refine (number_calls w0 _ g A c l a1 1 (Kd.C_below HR.out HC1.out.below) hc HC1.out.rd HC1.out.below hg HK.out).mono ?_
  rintro e w2 ⟨B2, K2, hm⟩
  cases hn2 : rdNum l a1 1 with
  | error x =>
    rw [hn2] at hm
    obtain rfl := hm
    have hx : r = .error x := by rw [← HS.out, rdEntry, HN1.out]; simp only; rw [hn2]
    subst hx
    exact ⟨rfl, B2, HC1.out.bad K2, rfl⟩
  | ok p =>
  obtain ⟨t, a2⟩ := p
  rw [hn2] at hm
  obtain ⟨rfl, I2⟩ := hm
  have HN2 := Aside0.mk hn2
  have HC2 := Aside0.mk ((HC1.out.call B2 K2 I2).setY 1 (.int .i64 t))
  have cy1 := (HC1.out.call B2 K2 I2).y.cell 1 _ rfl
  have fy1 := (HC1.out.call B2 K2 I2).y.frozen 1
  clear hn2 I2 B2 K2
  go_wp2_with fail
  refine (number_calls w0 _ g A c l a2 1 (Kd.C_below HR.out HC2.out.below) hc HC2.out.rd HC2.out.below hg HK.out).mono ?_
  rintro e w3 ⟨B3, K3, hm⟩
  cases hn3 : rdNum l a2 1 with
  | error x =>
    rw [hn3] at hm
    obtain rfl := hm
    have hx : r = .error x := by rw [← HS.out, rdEntry, HN1.out]; simp only; rw [HN2.out]; simp only; rw [hn3]
    subst hx
    exact ⟨rfl, B3, HC2.out.bad K3, rfl⟩
  | ok p =>
  obtain ⟨i, a3⟩ := p
  rw [hn3] at hm
  obtain ⟨rfl, I3⟩ := hm
  have HN3 := Aside0.mk hn3
  have HC3 := Aside0.mk ((HC2.out.call B3 K3 I3).setY 2 (.int .i64 i))
  have cy2 := (HC2.out.call B3 K3 I3).y.cell 2 _ rfl
  have fy2 := (HC2.out.call B3 K3 I3).y.frozen 2
  have cy0 := (HC2.out.call B3 K3 I3).y.cell 0 _ rfl
  clear hn3 I3 B3 K3 cy1 fy1
  by_cases hk : k = 1
  · have hkb : (k == 1) = true := by simpa using hk
    have HKK := Aside0.mk hk
    clear hk
    go_wp2_with fail
    refine (number_calls w0 _ g A c l a3 0 (Kd.C_below HR.out HC3.out.below) hc HC3.out.rd HC3.out.below hg HK.out).mono ?_
    rintro e w4 ⟨B4, K4, hm⟩
    cases hn4 : rdNum l a3 0 with
    | error x =>
      rw [hn4] at hm
      obtain rfl := hm
      have hx : r = .error x := by rw [← HS.out, rdEntry, HN1.out]; simp only; rw [HN2.out]; simp only; rw [HN3.out]; simp only; rw [if_pos HKK.out, hn4]
      subst hx
      exact ⟨rfl, B4, HC3.out.bad K4, rfl⟩
    | ok p =>
    obtain ⟨n, a4⟩ := p
    rw [hn4] at hm
    obtain ⟨rfl, I4⟩ := hm
    have hr0 : r = if 0 < n then .error 4 else .ok ((k, t, i, []), a4) := by rw [← HS.out, rdEntry, HN1.out]; simp only; rw [HN2.out]; simp only; rw [HN3.out]; simp only; rw [if_pos HKK.out, hn4]
    have HR0 := Aside0.mk hr0
    have HC4 := Aside0.mk (HC3.out.call B4 K4 I4)
    clear hr0 hn4 I4 B4 K4 cy0 cy2 fy2
    by_cases hn : 0 < n
    · have hnb : decide (0 < n) = true := by simpa using hn
      go_wp2
      have hx : r = .error 4 := by rw [HR0.out, if_pos hn]
      subst hx
      exact ⟨rfl, HC4.out.below, HC4.out.keep, rfl⟩
    · have hnb : decide (0 < n) = false := by simpa using hn
      have y0 := HC4.out.y.cell 0 _ rfl
      have y1 := HC4.out.y.cell 1 _ rfl
      have y2 := HC4.out.y.cell 2 _ rfl
      have y3 := HC4.out.y.cell 3 _ rfl
      have x0 := HC4.out.x.cell 0 _ rfl
      have x1 := HC4.out.x.cell 1 _ rfl
      have x2 := HC4.out.x.cell 2 _ rfl
      have x3 := HC4.out.x.cell 3 _ rfl
      have fx := HC4.out.x.frozen
      go_wp2
      have HF := (((HC4.out.setX 0 (.int .i64 k)).setX 1 (.int .i64 t)).setX 2 (.int .i64 i)).setX 3 (.slice none 0 0)
      have hx : r = .ok ((k, t, i, []), a4) := by rw [HR0.out, if_neg (by omega)]
      subst hx
      exact ret42 HF.x rfl ⟨HF.below, HF.keep, _, rfl, Kd.R_nil _ _ _ _ _, HF.rd⟩
  · have hkb : (k == 1) = false := by simpa using hk
    have HKK := Aside0.mk hk
    clear hk
    go_wp2_with fail
    refine (data_calls w0 _ g A c l a3 2048 HR.out hc HC3.out.rd HC3.out.below hg HK.out (by decide) _ rfl).mono ?_
    rintro e w4 ⟨B4, K4, hm⟩
    cases hn4 : rdData l a3 2048 with
    | error x =>
      rw [hn4] at hm
      obtain rfl := hm
      have hx : r = .error x := by rw [← HS.out, rdEntry, HN1.out]; simp only; rw [HN2.out]; simp only; rw [HN3.out]; simp only; rw [if_neg HKK.out, hn4]
      subst hx
      exact ⟨rfl, B4, HC3.out.bad K4, rfl⟩
    | ok p =>
    obtain ⟨d, a4⟩ := p
    rw [hn4] at hm
    obtain ⟨v, rfl, R4, I4⟩ := hm
    have hx : r = .ok ((k, t, i, d), a4) := by rw [← HS.out, rdEntry, HN1.out]; simp only; rw [HN2.out]; simp only; rw [HN3.out]; simp only; rw [if_neg HKK.out, hn4]
    have HR0 := Aside0.mk hx
    have HC4 := Aside0.mk (HC3.out.call B4 K4 I4)
    have R5 : Kd.R (Kd.int .u8) 5 w4 w.heap.size (fun k_ => k_ ≠ w.heap.size ∧ k_ ≠ w1.heap.size) v d := Kd.R_lower (Kd.R_mono (Kd.R_bound R4) (fun k_ hk => by
      have h1 := hk.2.1
      have h2 := HC3.out.x.lt
      have h3 := HC3.out.y.lt
      constructor <;> omega)) HC3.out.keep.1
    have hne1 : ¬ w.heap.size = w1.heap.size := HC3.out.xy
    have hne2 : ¬ w1.heap.size = w.heap.size := Ne.symm HC3.out.xy
    clear hx hn4 I4 B4 K4 cy0 cy2 fy2
    have y0 := HC4.out.y.cell 0 _ rfl
    have y1 := HC4.out.y.cell 1 _ rfl
    have y2 := HC4.out.y.cell 2 _ rfl
    have y3 := HC4.out.y.cell 3 _ rfl
    have fy := HC4.out.y.frozen
    have x0 := HC4.out.x.cell 0 _ rfl
    have x1 := HC4.out.x.cell 1 _ rfl
    have x2 := HC4.out.x.cell 2 _ rfl
    have x3 := HC4.out.x.cell 3 _ rfl
    have fx := HC4.out.x.frozen
    obtain ⟨Ad, cd, rfl⟩ := Kd.R_slice R4
    have HR5 := Aside0.mk R5
    clear R4 R5
    go_wp2
    have HF := ((((HC4.out.setY 3 (.slice Ad d.length cd)).setX 0 (.int .i64 k)).setX 1 (.int .i64 t)).setX 2 (.int .i64 i)).setX 3 (.slice Ad d.length cd)
    have hx : r = .ok ((k, t, i, d), a4) := HR0.out
    subst hx
    refine ret42 HF.x rfl ⟨HF.below, HF.keep, _, rfl, ?_, HF.rd⟩
    exact Kd.R_mono (ok := fun k => k ≠ w.heap.size ∧ k ≠ w1.heap.size) (ok' := fun _ => True) (h := Kd.R_far (p := ⟨w.heap.size, 3, none⟩) (Kd.R_far (p := ⟨w.heap.size, 2, none⟩) (Kd.R_far (p := ⟨w.heap.size, 1, none⟩) (Kd.R_far (p := ⟨w.heap.size, 0, none⟩) (Kd.R_far (p := ⟨w1.heap.size, 3, none⟩) HR5.out (fun k hk => hk.2) _) (fun k hk => hk.1) _) (fun k hk => hk.1) _) (fun k hk => hk.1) _) (fun k hk => hk.1) _) (fun _ _ => trivial)
end Go.Proofs.Ytmmiipnmimjojaa.PS
end
section
namespace Go.Proofs.Ytmmiipnmimjojaa.PS
open Go.RowKit Go.Proofs.YtmmiipnmimjojaaW.PrintWords Go.Proofs.YtmmiipnmimjojaaW.PrintLast Go.Proofs.YtmmiipnmimjojaaW.PrintMore
set_option linter.unusedVariables false
set_option linter.unusedSimpArgs false
theorem caught_idle (p : Addr) (w : World) :
    CallsD Try.prog 118 #[.pointer (some p)] .returning w fun e u' w' => e = .returned (.tuple #[]) ∧ u' = .returning ∧ w' = w := by
  refine callsD_of_wpS Try.func118 rfl fun c₀ cs hu => ?_
  apply wpS_seq
  apply wpS_region
  simp [wpOpsS, go_sem, recoverD, hu, Try.ntmps118, Exit.thenS]
  refine wpS_of_wp ?_
  go_wp2
  cases c₀
  simp_all [bodyPostS, results, Try.results118]
theorem assert77 (v : Value) (W : World) : (Instr.typeAssert (.iface 186 v) 20 186 true).run Try.prog W = .ok (.tuple #[v, .bool true]) W := by kernel_rfl
set_option maxHeartbeats 1000000 in
theorem caught_fault (p : Addr) (x : Int) (u : Value) (w : World) (hc : w.cell? p = some u) (hz : w.frozen? p = false) :
    CallsD Try.prog 118 #[.pointer (some p)] (.panicking (fault x)) w fun e u' w' =>
      e = .returned (.tuple #[]) ∧ u' = .panicking [{ v := .iface 186 (.int .i64 x), recovered := true }] ∧ w' = w.setCell p (.int .i64 x) := by
  refine callsD_of_wpS Try.func118 rfl fun c₀ cs hu => ?_
  apply wpS_seq
  apply wpS_region
  unfold fault at hu
  simp [wpOpsS, go_sem, recoverD, hu, Try.ntmps118, Exit.thenS]
  refine wpS_of_wp ?_
  have hta := assert77
  have ha : #[Value.pointer (some p)] ++ (Array.replicate 13 undef).setIfInBounds 4 (Value.iface 186 (Value.int IntKind.i64 x)) = #[Value.pointer (some p), undef, undef, undef, undef, Value.iface 186 (Value.int IntKind.i64 x), undef, undef, undef, undef, undef, undef, undef, undef] := by rfl
  rw [ha]
  clear ha hu
  go_wp2
  simp [bodyPostS, results, Try.results118]
def door (E : Nat) : List Deferred := [{ target := Target.fn (Fn.func 118) #[], args := #[.pointer (some ⟨E, 0, none⟩)] }]
theorem door_panic {fn : Func} {R : Ending → World → Prop} {W : World} {E : Nat} {e x : Int} {tmps : Array Value} {v : Value} (hE : Bk W E #[.int .i64 e] 28)
    (hv : ∀ W1, W1 = W.setCell ⟨E, 0, none⟩ (.int .i64 x) → (results fn tmps).run Try.prog W1 = .ok v W1 ∧ R (.returned v) W1) :
    bodyPostD Try.prog fn R (.panic (fault x)) { tmps := tmps, defers := door E } W := by
  refine leaves_cons (f := 118) (args := #[.pointer (some ⟨E, 0, none⟩)]) (by simp) (by simp [go_sem]) ?_
  refine (caught_fault ⟨E, 0, none⟩ x _ W (hE.cell 0 _ rfl) (hE.frozen 0)).mono ?_
  rintro e u' w'' ⟨rfl, rfl, rfl⟩
  obtain ⟨h1, h2⟩ := hv _ rfl
  exact ⟨v, h1, h2⟩
theorem door_ret {fn : Func} {R : Ending → World → Prop} {W : World} {E : Nat} {tmps : Array Value} {v : Value} (h1 : (results fn tmps).run Try.prog W = .ok v W) (h2 : R (.returned v) W) :
    bodyPostD Try.prog fn R .ret { tmps := tmps, defers := door E } W := by
  refine leaves_cons (f := 118) (args := #[.pointer (some ⟨E, 0, none⟩)]) (by simp) (by simp [go_sem]) ?_
  refine (caught_idle ⟨E, 0, none⟩ W).mono ?_
  rintro e u' w'' ⟨rfl, rfl, rfl⟩
  exact ⟨v, h1, h2⟩
theorem res28 {W : World} {X E : Nat} {a b e : Value} {tmps : Array Value} (h : Bk W X #[a, b] 81) (hE : Bk W E #[e] 28) (ht : tmps.getD 2 undef = .pointer (some ⟨X, 0, none⟩)) (ht2 : tmps.getD 3 undef = .pointer (some ⟨E, 0, none⟩)) :
    (results Try.f101 tmps).run Try.prog W = .ok (.tuple #[.agg #[a, b], e]) W := by
  have q0 := h.cell 0 _ rfl
  have q1 := h.cell 1 _ rfl
  have q2 := hE.cell 0 _ rfl
  have t1 : tmps[2]?.getD undef = .pointer (some ⟨X, 0, none⟩) := by simpa using ht
  have t2 : tmps[3]?.getD undef = .pointer (some ⟨E, 0, none⟩) := by simpa using ht2
  simp [results, Try.results101, go_sem, t1, t2, q0, q1, q2]

/-- GetHard's answer. -/
def getHard (l : List Int) : Int × Int × Int :=
  match rdNum l 0 0 with
  | .error x => (0, 0, x)
  | .ok (t, a1) => match rdNum l a1 0 with
    | .error x => (0, 0, x)
    | .ok (v, a2) => if 9 < v then (0, 0, 4) else if a2 < l.length then (0, 0, 4) else (t, v, 0)
def wire_GetHard.f (l0 : List Int) : Option (Int × Int × Int) := if okBytes l0 = true ∧ l0.length ≤ 200000000000000 then some (getHard l0) else none
def HardPost (w0 : World) (r : Int × Int × Int) (e : Ending) (w' : World) : Prop := e = .returned (.tuple #[.agg #[.int .i64 r.1, .int .i64 r.2.1], .int .i64 r.2.2]) ∧ Below w0.heap.size w0 w'
/-- What a Get holds: the result's block X, the error's E, the reader's g. -/
structure G2 (w0 W : World) (g : Nat) (A : Option Addr) (n c : Nat) (at_ : Int) (X : Nat) (cX : Array Value) (t : TypeId) (E : Nat) (e : Int) : Prop where
  below : Below w0.heap.size w0 W
  rd : IsRd W g A n c at_
  g0 : w0.heap.size ≤ g
  x0 : w0.heap.size ≤ X
  e0 : w0.heap.size ≤ E
  gx : X ≠ g
  ge : E ≠ g
  xe : X ≠ E
  x : Bk W X cX t
  e : Bk W E #[.int .i64 e] 28
namespace G2
variable {w0 W W1 : World} {g : Nat} {A : Option Addr} {n c : Nat} {at_ at1 : Int} {X : Nat} {cX : Array Value} {t : TypeId} {E : Nat} {e : Int}
theorem call (h : G2 w0 W g A n c at_ X cX t E e) (B : Below w0.heap.size w0 W1) (K : KeepBut W W1 g none) (R : IsRd W1 g A n c at1) : G2 w0 W1 g A n c at1 X cX t E e :=
  ⟨B, R, h.g0, h.x0, h.e0, h.gx, h.ge, h.xe, h.x.keep K h.gx, h.e.keep K h.ge⟩
theorem setX (h : G2 w0 W g A n c at_ X cX t E e) (j : Nat) (u : Value) : G2 w0 (W.setCell ⟨X, j, none⟩ u) g A n c at_ X (cX.setIfInBounds j u) t E e :=
  ⟨h.below.setCell (p := ⟨X, j, none⟩) h.x0 _, ⟨(Below.heap_setCell W ⟨X, j, none⟩ u g (Ne.symm h.gx)).trans h.rd.1, h.rd.2⟩, h.g0, h.x0, h.e0, h.gx, h.ge, h.xe,
    by have := h.x; unfold Bk at this ⊢; simp [World.setCell, Array.getElem?_modify, this], (Below.heap_setCell W ⟨X, j, none⟩ u E (Ne.symm h.xe)).trans h.e⟩
theorem setE (h : G2 w0 W g A n c at_ X cX t E e) (u : Int) : G2 w0 (W.setCell ⟨E, 0, none⟩ (.int .i64 u)) g A n c at_ X cX t E u :=
  ⟨h.below.setCell (p := ⟨E, 0, none⟩) h.e0 _, ⟨(Below.heap_setCell W ⟨E, 0, none⟩ _ g (Ne.symm h.ge)).trans h.rd.1, h.rd.2⟩, h.g0, h.x0, h.e0, h.gx, h.ge, h.xe,
    (Below.heap_setCell W ⟨E, 0, none⟩ _ X h.xe).trans h.x, by have := h.e; unfold Bk at this ⊢; simp [World.setCell, Array.getElem?_modify, this]⟩
theorem alloc (h : G2 w0 W g A n c at_ X cX t E e) (o : Obj) : G2 w0 (W.alloc o) g A n c at_ X cX t E e :=
  ⟨below_alloc h.below o, h.rd.alloc o, h.g0, h.x0, h.e0, h.gx, h.ge, h.xe, (Below.heap_alloc W o X h.x.lt).trans h.x, (Below.heap_alloc W o E h.e.lt).trans h.e⟩
/-- The error's cell and the rest behind a fault: the reader plays no part any more. -/
theorem bad (h : G2 w0 W g A n c at_ X cX t E e) (B : Below w0.heap.size w0 W1) (K : KeepBut W W1 g none) (u : Int) :
    Below w0.heap.size w0 (W1.setCell ⟨E, 0, none⟩ (.int .i64 u)) ∧ Bk (W1.setCell ⟨E, 0, none⟩ (.int .i64 u)) X cX t ∧ Bk (W1.setCell ⟨E, 0, none⟩ (.int .i64 u)) E #[.int .i64 u] 28 ∧ Bk W1 E #[.int .i64 e] 28 :=
  ⟨B.setCell (p := ⟨E, 0, none⟩) h.e0 _, (Below.heap_setCell W1 ⟨E, 0, none⟩ _ X h.xe).trans (h.x.keep K h.gx), by have := h.e.keep K h.ge; unfold Bk at this ⊢; simp [World.setCell, Array.getElem?_modify, this], h.e.keep K h.ge⟩
theorem start {w0 : World} {A : Option Addr} {n c : Nat} (cX : Array Value) (t : TypeId) (W : World) (hW : W = ((w0.alloc (.cells cX t (0, 0))).alloc (.cells #[.int .i64 0] 28 (0, 0))).alloc (.cells #[.slice A n c, .int .i64 0] 184 (0, 0))) :
    G2 w0 W (w0.heap.size + 1 + 1) A n c 0 w0.heap.size cX t (w0.heap.size + 1) 0 := by
  subst hW
  have h1 : (w0.alloc (.cells cX t (0, 0))).heap.size = w0.heap.size + 1 := World.size_alloc _ _
  have h2 : ((w0.alloc (.cells cX t (0, 0))).alloc (.cells #[.int .i64 0] 28 (0, 0))).heap.size = w0.heap.size + 1 + 1 := by rw [World.size_alloc, h1]
  refine ⟨below_alloc (below_alloc (below_alloc (Below.refl _ _) _) _) _, ⟨?_, by omega, by omega⟩, by omega, by omega, by omega, by omega, by omega, by omega, ?_, ?_⟩
  · have := blk_new ((w0.alloc (.cells cX t (0, 0))).alloc (.cells #[.int .i64 0] 28 (0, 0))) (.cells #[.slice A n c, .int .i64 0] 184 (0, 0))
    rwa [h2] at this
  · exact (Below.heap_alloc _ _ _ (by rw [h2]; omega)).trans ((Below.heap_alloc _ _ _ (by rw [h1]; omega)).trans (blk_new w0 _))
  · refine (Below.heap_alloc _ _ _ (by rw [h2]; omega)).trans ?_
    have := blk_new (w0.alloc (.cells cX t (0, 0))) (.cells #[.int .i64 0] 28 (0, 0))
    rwa [h1] at this
end G2

set_option maxHeartbeats 2000000 in
set_option maxRecDepth 100000 in
theorem getHard_core (A : Option Addr) (c : Nat) (l : List Int) (w0 : World) (hr : Kd.C (Kd.int .u8) w0 A l.length l) (hc : l.length ≤ c) (hok : okLen l) (r : Int × Int × Int) (hres : getHard l = r) :
    Calls Try.prog 101 #[.slice A l.length c] w0 fun e w' => HardPost w0 r e w' := by
  have HS := Aside0.mk hres
  have HR := Aside0.mk hr
  have HK := Aside0.mk hok
  clear hres hr hok
  go_enter_defers Try.func101, Try.ntmps101
  go_wp2_with fail
  have HC1 := Aside0.mk (G2.start (w0 := w0) (A := A) (n := l.length) (c := c) #[.int .i64 0, .int .i64 0] 81 _ rfl)
  refine (number_calls w0 _ (w0.heap.size + 1 + 1) A c l 0 0 (Kd.C_below HR.out HC1.out.below) hc HC1.out.rd HC1.out.below HC1.out.g0 HK.out).mono ?_
  rintro e w1 ⟨B1, K1, hm⟩
  cases hn1 : rdNum l 0 0 with
  | error x =>
    rw [hn1] at hm
    obtain rfl := hm
    have hx : r = (0, 0, x) := by rw [← HS.out, getHard, hn1]
    subst hx
    obtain ⟨q1, q2, q3, q4⟩ := HC1.out.bad B1 K1 x
    exact door_panic q4 (fun W1 hW1 => by subst hW1; exact ⟨res28 q2 q3 rfl rfl, rfl, q1⟩)
  | ok p =>
  obtain ⟨t, a1⟩ := p
  rw [hn1] at hm
  obtain ⟨rfl, I1⟩ := hm
  have HN1 := Aside0.mk hn1
  have HC2 := Aside0.mk (HC1.out.call B1 K1 I1)
  clear hn1 I1 B1 K1
  go_wp2_with fail
  refine (number_calls w0 _ (w0.heap.size + 1 + 1) A c l a1 0 (Kd.C_below HR.out HC2.out.below) hc HC2.out.rd HC2.out.below HC2.out.g0 HK.out).mono ?_
  rintro e w2 ⟨B2, K2, hm⟩
  cases hn2 : rdNum l a1 0 with
  | error x =>
    rw [hn2] at hm
    obtain rfl := hm
    have hx : r = (0, 0, x) := by rw [← HS.out, getHard, HN1.out]; simp only; rw [hn2]
    subst hx
    obtain ⟨q1, q2, q3, q4⟩ := HC2.out.bad B2 K2 x
    exact door_panic q4 (fun W1 hW1 => by subst hW1; exact ⟨res28 q2 q3 rfl rfl, rfl, q1⟩)
  | ok p =>
  obtain ⟨v, a2⟩ := p
  rw [hn2] at hm
  obtain ⟨rfl, I2⟩ := hm
  have hr0 : r = if 9 < v then (0, 0, 4) else if a2 < l.length then (0, 0, 4) else (t, v, 0) := by rw [← HS.out, getHard, HN1.out]; simp only; rw [hn2]
  have HR0 := Aside0.mk hr0
  have HG2 := (HC2.out.call B2 K2 I2).rd.lt
  have HC3 := Aside0.mk ((HC2.out.call B2 K2 I2).alloc (.cells #[.int .i64 t, .int .i64 v] 81 (0, 0)))
  have hY := blk_new w2 (.cells #[.int .i64 t, .int .i64 v] 81 (0, 0))
  clear hn2 I2 B2 K2 hr0
  by_cases hv : 9 < v
  · have hvb : decide (9 < v) = true := by simpa using hv
    go_wp2
    have hx : r = (0, 0, 4) := by rw [HR0.out, if_pos hv]
    subst hx
    obtain ⟨q1, q2, q3, q4⟩ := HC3.out.bad HC3.out.below (KeepBut.refl _ _ _) 4
    exact door_panic q4 (fun W1 hW1 => by subst hW1; exact ⟨res28 q2 q3 rfl rfl, rfl, q1⟩)
  · have hvb : decide (9 < v) = false := by simpa using hv
    go_wp2_with fail
    have HY := Aside0.mk hY
    refine (end_calls w0 _ (w0.heap.size + 1 + 1) A l.length c a2 HC3.out.rd HC3.out.below HC3.out.g0 _ rfl).mono ?_
    rintro e w3 ⟨B3, K3, hm⟩
    have hYg : w2.heap.size ≠ w0.heap.size + 1 + 1 := by have := HG2; omega
    by_cases ha : a2 < l.length
    · rw [if_pos ha] at hm
      obtain rfl := hm
      have hx : r = (0, 0, 4) := by rw [HR0.out, if_neg (by omega), if_pos ha]
      subst hx
      obtain ⟨q1, q2, q3, q4⟩ := HC3.out.bad B3 K3 4
      exact door_panic q4 (fun W1 hW1 => by subst hW1; exact ⟨res28 q2 q3 rfl rfl, rfl, q1⟩)
    · rw [if_neg ha] at hm
      obtain ⟨rfl, I3⟩ := hm
      have hx : r = (t, v, 0) := by rw [HR0.out, if_neg (by omega), if_neg ha]
      have HX := Aside0.mk hx
      have HC4 := Aside0.mk (HC3.out.call B3 K3 I3)
      have hY3 : Bk w3 w2.heap.size #[.int .i64 t, .int .i64 v] 81 := K3.blk HY.out hYg (by simp)
      have y0 := hY3.cell 0 _ rfl
      have y1 := hY3.cell 1 _ rfl
      have x0 := HC4.out.x.cell 0 _ rfl
      have x1 := HC4.out.x.cell 1 _ rfl
      have fx := HC4.out.x.frozen
      have e0 := HC4.out.e.cell 0 _ rfl
      have fe := HC4.out.e.frozen
      have hxe : ¬ w0.heap.size + 1 = w0.heap.size := by omega
      have hxe2 : ¬ w0.heap.size = w0.heap.size + 1 := by omega
      clear hx hY hY3 I3 B3 K3 hYg
      go_wp2
      have HF := ((HC4.out.setX 0 (.int .i64 t)).setX 1 (.int .i64 v)).setE 0
      have hx := HX.out
      subst hx
      exact door_ret (res28 HF.x HF.e rfl rfl) ⟨rfl, HF.below⟩
theorem wire_GetHard.calls (A0 : Option Addr) (c0 : Nat) (l0 : List Int) (r1 : Int) (r2 : Int) (r3 : Int) (w : World) (hr0 : Kd.C (Kd.int .u8) w A0 l0.length l0) (hc0 : l0.length ≤ c0) (h : wire_GetHard.f l0 = some (r1, r2, r3)) :
    Calls Try.prog 101 #[.slice A0 l0.length c0] w fun e w' => e = .returned (.tuple #[.agg #[.int .i64 r1, .int .i64 r2], .int .i64 r3]) ∧ Below w.heap.size w w' := by
  unfold wire_GetHard.f at h
  by_cases hc : okBytes l0 = true ∧ l0.length ≤ 200000000000000
  · rw [if_pos hc] at h
    exact (getHard_core A0 c0 l0 w hr0 hc0 hc _ (Option.some.inj h)).mono fun _ _ h => h
  · rw [if_neg hc] at h
    cases h
end Go.Proofs.Ytmmiipnmimjojaa.PS
end
section
namespace Go.Proofs.Ytmmiipnmimjojaa.PS
open Go.RowKit Go.Proofs.YtmmiipnmimjojaaW.PrintWords Go.Proofs.YtmmiipnmimjojaaW.PrintLast Go.Proofs.YtmmiipnmimjojaaW.PrintMore
set_option linter.unusedVariables false
set_option linter.unusedSimpArgs false
theorem res25 {W : World} {X E : Nat} {a b c d e : Value} {tmps : Array Value} (h : Bk W X #[a, b, c, d] 48) (hE : Bk W E #[e] 28) (ht : tmps.getD 2 undef = .pointer (some ⟨X, 0, none⟩)) (ht2 : tmps.getD 3 undef = .pointer (some ⟨E, 0, none⟩)) :
    (results Try.f102 tmps).run Try.prog W = .ok (.tuple #[.agg #[a, b, c, d], e]) W := by
  have q0 := h.cell 0 _ rfl
  have q1 := h.cell 1 _ rfl
  have q2 := h.cell 2 _ rfl
  have q3 := h.cell 3 _ rfl
  have q4 := hE.cell 0 _ rfl
  have t1 : tmps[2]?.getD undef = .pointer (some ⟨X, 0, none⟩) := by simpa using ht
  have t2 : tmps[3]?.getD undef = .pointer (some ⟨E, 0, none⟩) := by simpa using ht2
  simp [results, Try.results102, go_sem, t1, t2, q0, q1, q2, q3, q4]
/-- GetEntry's answer. -/
def getEntry (l : List Int) : Int × Int × Int × List Int × Int :=
  match rdEntry l 0 with
  | .error x => (0, 0, 0, [], x)
  | .ok ((k, t, i, d), a) => if a < l.length then (0, 0, 0, [], 4) else (k, t, i, d, 0)
def wire_GetEntry.f (l0 : List Int) : Option (Int × Int × Int × List Int × Int) := if okBytes l0 = true ∧ l0.length ≤ 200000000000000 then some (getEntry l0) else none
def EntryPost (w0 : World) (r : Int × Int × Int × List Int × Int) (e : Ending) (w' : World) : Prop :=
  ∃ v3_ : Value, e = .returned (.tuple #[.agg #[.int .i64 r.1, .int .i64 r.2.1, .int .i64 r.2.2.1, v3_], .int .i64 r.2.2.2.2]) ∧ Kd.R (Kd.int .u8) 5 w' w0.heap.size (fun _ => True) v3_ r.2.2.2.1 ∧ Below w0.heap.size w0 w'
set_option maxHeartbeats 2000000 in
set_option maxRecDepth 100000 in
theorem getEntry_core (A : Option Addr) (c : Nat) (l : List Int) (w0 : World) (hr : Kd.C (Kd.int .u8) w0 A l.length l) (hc : l.length ≤ c) (hok : okLen l) (r : Int × Int × Int × List Int × Int) (hres : getEntry l = r) :
    Calls Try.prog 102 #[.slice A l.length c] w0 fun e w' => EntryPost w0 r e w' := by
  have HS := Aside0.mk hres
  have HR := Aside0.mk hr
  have HK := Aside0.mk hok
  clear hres hr hok
  go_enter_defers Try.func102, Try.ntmps102
  go_wp2_with fail
  have HC1 := Aside0.mk (G2.start (w0 := w0) (A := A) (n := l.length) (c := c) Z34 48 _ rfl)
  refine (entry_calls w0 _ (w0.heap.size + 1 + 1) A c l 0 HR.out hc HC1.out.rd HC1.out.below HC1.out.g0 HK.out _ rfl).mono ?_
  rintro e w1 ⟨B1, K1, hm⟩
  cases hn1 : rdEntry l 0 with
  | error x =>
    rw [hn1] at hm
    obtain rfl := hm
    have hx : r = (0, 0, 0, [], x) := by rw [← HS.out, getEntry, hn1]
    subst hx
    obtain ⟨q1, q2, q3, q4⟩ := HC1.out.bad B1 K1 x
    exact door_panic q4 (fun W1 hW1 => by subst hW1; exact ⟨res25 q2 q3 rfl rfl, _, rfl, Kd.R_nil _ _ _ _ _, q1⟩)
  | ok p =>
  obtain ⟨⟨k, t, i, d⟩, a1⟩ := p
  rw [hn1] at hm
  obtain ⟨v, rfl, R1, I1⟩ := hm
  have hr0 : r = if a1 < l.length then (0, 0, 0, [], 4) else (k, t, i, d, 0) := by rw [← HS.out, getEntry, hn1]
  have HR0 := Aside0.mk hr0
  have hg1 := I1.lt
  have HC2 := Aside0.mk ((HC1.out.call B1 K1 I1).alloc (.cells #[.int .i64 k, .int .i64 t, .int .i64 i, v] 48 (0, 0)))
  have hY := blk_new w1 (.cells #[.int .i64 k, .int .i64 t, .int .i64 i, v] 48 (0, 0))
  have HY := Aside0.mk hY
  obtain ⟨Ad, cd, rfl⟩ := Kd.R_slice R1
  have hsz1 : (((w0.alloc (.cells Z34 48 (0, 0))).alloc (.cells #[.int .i64 0] 28 (0, 0))).alloc (.cells #[.slice A l.length c, .int .i64 0] 184 (0, 0))).heap.size = w0.heap.size + 1 + 1 + 1 := by rw [World.size_alloc, World.size_alloc, World.size_alloc]
  have R2 : Kd.R (Kd.int .u8) 5 (w1.alloc (.cells #[.int .i64 k, .int .i64 t, .int .i64 i, .slice Ad d.length cd] 48 (0, 0))) (w0.heap.size + 1 + 1 + 1) (fun k => w0.heap.size + 1 + 1 + 1 ≤ k) (.slice Ad d.length cd) d := by
    rw [hsz1] at R1
    exact Kd.R_alloc (Kd.R_mono (Kd.R_bound R1) (fun k hk => hk.2.1)) _
  have HR2 := Aside0.mk R2
  clear hn1 I1 B1 K1 R1 R2 hsz1 hr0 hY
  go_wp2_with fail
  refine (end_calls w0 _ (w0.heap.size + 1 + 1) A l.length c a1 HC2.out.rd HC2.out.below HC2.out.g0 _ rfl).mono ?_
  rintro e w3 ⟨B3, K3, hm⟩
  have hYg : w1.heap.size ≠ w0.heap.size + 1 + 1 := by omega
  by_cases ha : a1 < l.length
  · rw [if_pos ha] at hm
    obtain rfl := hm
    have hx : r = (0, 0, 0, [], 4) := by rw [HR0.out, if_pos ha]
    subst hx
    obtain ⟨q1, q2, q3, q4⟩ := HC2.out.bad B3 K3 4
    exact door_panic q4 (fun W1 hW1 => by subst hW1; exact ⟨res25 q2 q3 rfl rfl, _, rfl, Kd.R_nil _ _ _ _ _, q1⟩)
  · rw [if_neg ha] at hm
    obtain ⟨rfl, I3⟩ := hm
    have hx : r = (k, t, i, d, 0) := by rw [HR0.out, if_neg ha]
    have HX := Aside0.mk hx
    have HC4 := Aside0.mk (HC2.out.call B3 K3 I3)
    have hY3 : Bk w3 w1.heap.size #[.int .i64 k, .int .i64 t, .int .i64 i, .slice Ad d.length cd] 48 := K3.blk HY.out hYg (by simp)
    have HR3 := Aside0.mk (Kd.R_keep HR2.out K3 (fun k hk => by omega))
    have y0 := hY3.cell 0 _ rfl
    have y1 := hY3.cell 1 _ rfl
    have y2 := hY3.cell 2 _ rfl
    have y3 := hY3.cell 3 _ rfl
    have x0 := HC4.out.x.cell 0 _ rfl
    have x1 := HC4.out.x.cell 1 _ rfl
    have x2 := HC4.out.x.cell 2 _ rfl
    have x3 := HC4.out.x.cell 3 _ rfl
    have fx := HC4.out.x.frozen
    have e0 := HC4.out.e.cell 0 _ rfl
    have fe := HC4.out.e.frozen
    have hxe : ¬ w0.heap.size + 1 = w0.heap.size := by omega
    have hxe2 : ¬ w0.heap.size = w0.heap.size + 1 := by omega
    clear hx hY3 I3 B3 K3 hYg
    go_wp2
    have HF := ((((HC4.out.setX 0 (.int .i64 k)).setX 1 (.int .i64 t)).setX 2 (.int .i64 i)).setX 3 (.slice Ad d.length cd)).setE 0
    have hx := HX.out
    subst hx
    refine door_ret (res25 HF.x HF.e rfl rfl) ⟨_, rfl, ?_, HF.below⟩
    exact Kd.R_mono (ok := fun k => w0.heap.size + 1 + 1 + 1 ≤ k) (ok' := fun _ => True) (h := Kd.R_lower (Kd.R_far (p := ⟨w0.heap.size + 1, 0, none⟩) (Kd.R_far (p := ⟨w0.heap.size, 3, none⟩) (Kd.R_far (p := ⟨w0.heap.size, 2, none⟩) (Kd.R_far (p := ⟨w0.heap.size, 1, none⟩) (Kd.R_far (p := ⟨w0.heap.size, 0, none⟩) HR3.out
      (fun k hk => by show k ≠ w0.heap.size; omega) _) (fun k hk => by show k ≠ w0.heap.size; omega) _) (fun k hk => by show k ≠ w0.heap.size; omega) _) (fun k hk => by show k ≠ w0.heap.size; omega) _) (fun k hk => by show k ≠ w0.heap.size + 1; omega) _) (by omega)) (fun _ _ => trivial)
theorem wire_GetEntry.calls (A0 : Option Addr) (c0 : Nat) (l0 : List Int) (r1 : Int) (r2 : Int) (r3 : Int) (r4 : List Int) (r5 : Int) (w : World) (hr0 : Kd.C (Kd.int .u8) w A0 l0.length l0) (hc0 : l0.length ≤ c0) (h : wire_GetEntry.f l0 = some (r1, r2, r3, r4, r5)) :
    Calls Try.prog 102 #[.slice A0 l0.length c0] w fun e w' => ∃ v3_ : Value, e = .returned (.tuple #[.agg #[.int .i64 r1, .int .i64 r2, .int .i64 r3, v3_], .int .i64 r5]) ∧ Kd.R (Kd.int .u8) 5 w' w.heap.size (fun _ => True) v3_ r4 ∧ Below w.heap.size w w' := by
  unfold wire_GetEntry.f at h
  by_cases hc : okBytes l0 = true ∧ l0.length ≤ 200000000000000
  · rw [if_pos hc] at h
    exact (getEntry_core A0 c0 l0 w hr0 hc0 hc _ (Option.some.inj h)).mono fun _ _ h => h
  · rw [if_neg hc] at h
    cases h
end Go.Proofs.Ytmmiipnmimjojaa.PS
end
section
namespace Go.Proofs.Ytmmiipnmimjojaa.PS
open Go.RowKit Go.Proofs.YtmmiipnmimjojaaW.PrintWords Go.Proofs.YtmmiipnmimjojaaW.PrintLast Go.Proofs.YtmmiipnmimjojaaW.PrintMore
set_option linter.unusedVariables false
set_option linter.unusedSimpArgs false

/-- What stands from a place on. -/
def from_ (l : List Int) (at_ : Int) : List Int := l.drop at_.toNat
theorem from_len {l : List Int} {at_ : Int} (h0 : 0 ≤ at_) (h1 : at_ ≤ l.length) : ((from_ l at_).length : Int) = l.length - at_ := by unfold from_; rw [List.length_drop]; omega
theorem from_app {l a c : List Int} {at_ : Int} (h0 : 0 ≤ at_) (h : from_ l at_ = a ++ c) : from_ l (at_ + a.length) = c := by
  unfold from_ at *
  rw [show (at_ + (a.length : Int)).toNat = at_.toNat + a.length by omega, ← List.drop_drop, h]; simp
theorem rd_from {l c : List Int} {at_ x : Int} (h : from_ l at_ = x :: c) : rd l at_ = x := by
  unfold from_ at h; unfold rd
  rw [List.getD_eq_getElem?_getD]
  have h2 : (l.drop at_.toNat)[0]? = some x := by rw [h]; rfl
  rw [List.getElem?_drop, Nat.add_zero] at h2
  rw [h2]; rfl
theorem from_lt {l c : List Int} {at_ x : Int} (h0 : 0 ≤ at_) (h : from_ l at_ = x :: c) : at_ < l.length := by
  unfold from_ at h
  rcases Nat.lt_or_ge at_.toNat l.length with h2 | h2
  · omega
  · rw [List.drop_eq_nil_of_le h2] at h; cases h
/-- What is put is taken. -/
theorem takeNum_from {l c : List Int} {at_ n : Int} (h0 : 0 ≤ at_) (h1 : at_ ≤ l.length) (h : from_ l at_ = enc n ++ c) (hn0 : 0 ≤ n) (hn1 : n ≤ 1099511627776) : takeNum l at_ = (n, at_ + (enc n).length, 0) := by
  have hl : l = l.take at_.toNat ++ enc n ++ c := by rw [List.append_assoc, ← h]; exact (List.take_append_drop at_.toNat l).symm
  have ha : ((l.take at_.toNat).length : Int) = at_ := by rw [List.length_take]; omega
  have := takeNum_enc (l.take at_.toNat) c n hn0 hn1
  rw [← hl, ha] at this
  exact this
theorem rdNum_from {l c : List Int} {at_ n least : Int} (h0 : 0 ≤ at_) (h1 : at_ ≤ l.length) (h : from_ l at_ = enc n ++ c) (hl : least ≤ n) (hn0 : 0 ≤ n) (hn1 : n ≤ 1099511627776) : rdNum l at_ least = .ok (n, at_ + (enc n).length) := by
  unfold rdNum
  rw [takeNum_from h0 h1 h hn0 hn1]
  simp only [ne_eq, not_true_eq_false, if_false]
  rw [if_neg (by omega)]
theorem rdByte_from {l c : List Int} {at_ x least most : Int} (h0 : 0 ≤ at_) (h : from_ l at_ = x :: c) (hl : least ≤ x) (hm : x ≤ most) : rdByte l at_ least most = .ok (x, at_ + 1) := by
  have := from_lt h0 h
  unfold rdByte
  rw [rd_from h, if_neg (by omega), if_neg (by omega), if_neg (by omega)]
theorem rdData_from {l d c : List Int} {at_ most : Int} (h0 : 0 ≤ at_) (h1 : at_ ≤ l.length) (h : from_ l at_ = enc d.length ++ (d ++ c)) (hm : (d.length : Int) ≤ most) (hmm : most ≤ 1099511627776) :
    rdData l at_ most = .ok (d, at_ + (enc d.length).length + d.length) := by
  unfold rdData
  rw [rdNum_from h0 h1 h (by omega) (by omega) (by omega)]
  have h2 := from_app h0 h
  have hlen := from_len h0 h1
  rw [h] at hlen
  simp only [List.length_append] at hlen
  simp only
  rw [if_neg (by omega), if_neg (by omega)]
  have h3 : (l.take (at_ + ↑(enc d.length).length + ↑d.length).toNat).drop (at_ + ↑(enc d.length).length).toNat = d := by
    rw [List.drop_take]
    unfold from_ at h2
    rw [h2, show (at_ + ↑(enc d.length).length + ↑d.length).toNat - (at_ + ↑(enc d.length).length).toNat = d.length by omega]
    simp
  rw [h3]
end Go.Proofs.Ytmmiipnmimjojaa.PS
end
section
namespace Go.Proofs.Ytmmiipnmimjojaa.PS
open Go.RowKit Go.Proofs.YtmmiipnmimjojaaW.PrintWords Go.Proofs.YtmmiipnmimjojaaW.PrintLast Go.Proofs.YtmmiipnmimjojaaW.PrintMore
set_option linter.unusedVariables false
set_option linter.unusedSimpArgs false

theorem entBytes_bytes {k t i : Int} {d : List Int} (h : ¬ entBad k t i d) (hd : d.length ≤ 2048) (hb : ∀ x ∈ d, 0 ≤ x ∧ x < 256) : ∀ x ∈ entBytes k t i d, 0 ≤ x ∧ x < 256 := by
  unfold entBad at h
  intro x hx
  simp only [entBytes, List.mem_cons, List.mem_append] at hx
  rcases hx with rfl | ((hx | hx) | hx) | hx
  · omega
  · exact enc_bytes (by omega) (by omega) x hx
  · exact enc_bytes (by omega) (by omega) x hx
  · exact enc_bytes (by omega) (by omega) x hx
  · exact hb x hx
theorem entBytes_len {k t i : Int} {d : List Int} (h : ¬ entBad k t i d) (hd : d.length ≤ 2048) : 4 ≤ (entBytes k t i d).length ∧ (entBytes k t i d).length ≤ 2067 := by
  unfold entBad at h
  have ht := enc_len (n := t) (by omega) (by omega)
  have hi := enc_len (n := i) (by omega) (by omega)
  have hl := enc_len (n := (d.length : Int)) (by omega) (by omega)
  simp only [entBytes, List.length_cons, List.length_append]
  omega
theorem rdEntry_from {l c d : List Int} {at_ k t i : Int} (h0 : 0 ≤ at_) (h1 : at_ ≤ l.length) (h : from_ l at_ = entBytes k t i d ++ c) (hb : ¬ entBad k t i d) (hd : d.length ≤ 2048) :
    rdEntry l at_ = .ok ((k, t, i, d), at_ + (entBytes k t i d).length) := by
  have hbb := hb
  unfold entBad at hbb
  have e0 : from_ l at_ = k :: (enc t ++ (enc i ++ (enc d.length ++ (d ++ c)))) := by rw [h]; simp [entBytes]
  have hlt := from_lt h0 e0
  have e1 : from_ l (at_ + 1) = enc t ++ (enc i ++ (enc d.length ++ (d ++ c))) := from_app (a := [k]) h0 e0
  have len1 := from_len (l := l) (at_ := at_ + 1) (by omega) (by omega)
  rw [e1] at len1
  simp only [List.length_append] at len1
  have e2 := from_app (by omega) e1
  have e3 := from_app (by omega) e2
  unfold rdEntry
  rw [rdByte_from h0 e0 (by omega) (by omega)]
  simp only
  rw [rdNum_from (by omega) (by omega) e1 (by omega) (by omega) (by omega)]
  simp only
  rw [rdNum_from (by omega) (by omega) e2 (by omega) (by omega) (by omega)]
  simp only
  have hlen : (at_ + ((entBytes k t i d).length : Int)) = at_ + 1 + (enc t).length + (enc i).length + (enc d.length).length + d.length := by
    simp only [entBytes, List.length_cons, List.length_append]; omega
  rw [hlen]
  by_cases hk : k = 1
  · have hd0 : d = [] := List.length_eq_zero_iff.1 (by omega)
    subst hd0
    rw [if_pos hk, rdNum_from (n := 0) (by omega) (by omega) e3 (by omega) (by omega) (by omega)]
    simp only
    rw [if_neg (by omega)]
    simp
  · rw [if_neg hk, rdData_from (by omega) (by omega) e3 (by omega) (by omega)]
theorem from_zero (l : List Int) : from_ l 0 = l := rfl
theorem getEntry_put {k t i : Int} {d : List Int} (hb : ¬ entBad k t i d) (hd : d.length ≤ 2048) : getEntry (entBytes k t i d) = (k, t, i, d, 0) := by
  unfold getEntry
  rw [rdEntry_from (c := []) (by omega) (by omega) (by simp [from_zero]) hb hd]
  simp only
  rw [if_neg (by omega)]
theorem getHard_put {t v : Int} (h : hardErr t v = 0) : getHard (enc t ++ enc v) = (t, v, 0) := by
  unfold hardErr at h
  have hh : ¬ (t < 0 ∨ 1099511627776 < t ∨ v < 0 ∨ 9 < v) := fun hh => by rw [if_pos hh] at h; cases h
  unfold getHard
  have e0 : from_ (enc t ++ enc v) 0 = enc t ++ (enc v ++ []) := by simp [from_zero]
  have ht := enc_len (n := t) (by omega) (by omega)
  have hv := enc_len (n := v) (by omega) (by omega)
  rw [rdNum_from (by omega) (by simp; omega) e0 (by omega) (by omega) (by omega)]
  simp only
  rw [rdNum_from (by omega) (by simp only [List.length_append]; omega) (from_app (by omega) e0) (by omega) (by omega) (by omega)]
  simp only
  rw [if_neg (by omega), if_neg (by simp only [List.length_append]; omega)]
end Go.Proofs.Ytmmiipnmimjojaa.PS
end
section
namespace Go.Proofs.Ytmmiipnmimjojaa.PS
open Go.RowKit Go.Proofs.YtmmiipnmimjojaaW.PrintWords Go.Proofs.YtmmiipnmimjojaaW.PrintLast Go.Proofs.YtmmiipnmimjojaaW.PrintMore
set_option linter.unusedVariables false
set_option linter.unusedSimpArgs false
/-- A record. -/
inductive Rc where
  | mark (i t : Int)
  | hard (t v : Int)
  | ent (x : S48)
def Rc.enc : Rc → List Int
  | .mark i t => 1 :: (PS.enc i ++ PS.enc t)
  | .hard t v => 2 :: (PS.enc t ++ PS.enc v)
  | .ent x => 3 :: entBytes x.f0 x.f1 x.f2 x.f3
/-- An entry that may be. -/
def EOk (x : S48) : Prop := entErr x.f0 x.f1 x.f2 x.f3 = 0 ∧ okBytes x.f3 = true
def Rc.ok : Rc → Prop
  | .mark i t => (0 ≤ i ∧ i ≤ 1099511627776) ∧ 0 ≤ t ∧ t ≤ 1099511627776
  | .hard t v => hardErr t v = 0
  | .ent x => EOk x
/-- What records say: the base's mark, the hard state, entries. -/
structure WS where
  bi : Int
  bt : Int
  ht : Int
  hv : Int
  es : List S48
def WS.zero : WS := ⟨0, 0, 0, 0, []⟩
/-- Does an entry fit? -/
def WS.fit (s : WS) (x : S48) : Prop := 0 ≤ x.f2 - s.bi - 1 ∧ x.f2 - s.bi - 1 ≤ s.es.length
instance (s : WS) (x : S48) : Decidable (s.fit x) := by unfold WS.fit; infer_instance
def WS.add (s : WS) (x : S48) : WS := { s with es := s.es.take (x.f2 - s.bi - 1).toNat ++ [x] }
def WS.step (s : WS) : Rc → Option WS
  | .mark i t => some { s with bi := i, bt := t, es := [] }
  | .hard t v => some { s with ht := t, hv := v }
  | .ent x => if s.fit x then some (s.add x) else none
def WS.run (s : WS) : List Rc → Option WS
  | [] => some s
  | r :: rs => (s.step r).bind fun s' => WS.run s' rs
theorem WS.run_append (rs qs : List Rc) : ∀ s : WS, s.run (rs ++ qs) = (s.run rs).bind fun s' => s'.run qs := by
  induction rs with
  | nil => intro s; rfl
  | cons r rs ih =>
    intro s
    rw [List.cons_append, WS.run, WS.run]
    cases s.step r with
    | none => rfl
    | some s' => exact ih s'
theorem WS.run_snoc {s s' : WS} {rs : List Rc} (r : Rc) (h : s.run rs = some s') : s.run (rs ++ [r]) = s'.step r := by
  rw [WS.run_append, h]
  show (s'.step r).bind _ = _
  cases s'.step r <;> rfl
/-- A state that may be. -/
structure WOk (s : WS) : Prop where
  mark : (0 ≤ s.bi ∧ s.bi ≤ 1099511627776) ∧ 0 ≤ s.bt ∧ s.bt ≤ 1099511627776
  hard : hardErr s.ht s.hv = 0
  ent : ∀ x ∈ s.es, EOk x
  row : ∀ (j : Nat) (x : S48), s.es[j]? = some x → x.f2 = s.bi + 1 + j
theorem WOk.zero : WOk WS.zero := ⟨⟨⟨by decide, by decide⟩, by decide, by decide⟩, rfl, fun _ h => (List.not_mem_nil h).elim, fun j x h => by simp [WS.zero] at h⟩
theorem WOk.add {s : WS} {x : S48} (h : WOk s) (hf : s.fit x) (hx : EOk x) : WOk (s.add x) := by
  unfold WS.fit at hf
  refine ⟨h.mark, h.hard, fun y hy => ?_, fun j y hy => ?_⟩
  · rcases List.mem_append.1 hy with hy | hy
    · exact h.ent y (List.mem_of_mem_take hy)
    · rw [List.mem_singleton.1 hy]; exact hx
  · have hl : (s.es.take (x.f2 - s.bi - 1).toNat).length = (x.f2 - s.bi - 1).toNat := by rw [List.length_take]; omega
    show y.f2 = s.bi + 1 + j
    replace hy : (s.es.take (x.f2 - s.bi - 1).toNat ++ [x])[j]? = some y := hy
    by_cases hj : j < (x.f2 - s.bi - 1).toNat
    · rw [List.getElem?_append_left (by omega), List.getElem?_take, if_pos hj] at hy
      exact h.row j y hy
    · rw [List.getElem?_append_right (by omega), hl] at hy
      have hj2 : j - (x.f2 - s.bi - 1).toNat = 0 := by
        rcases Nat.eq_zero_or_pos (j - (x.f2 - s.bi - 1).toNat) with h0 | h0
        · exact h0
        · rw [List.getElem?_eq_none (by simp; omega)] at hy; cases hy
      rw [hj2] at hy
      simp only [List.getElem?_cons_zero, Option.some.injEq] at hy
      subst hy
      omega
theorem WOk.step {s s' : WS} {r : Rc} (h : WOk s) (hr : r.ok) (hs : s.step r = some s') : WOk s' := by
  cases r with
  | mark i t =>
    cases hs
    exact ⟨hr, h.hard, fun _ h => (List.not_mem_nil h).elim, fun j x h => by simp at h⟩
  | hard t v =>
    cases hs
    exact ⟨h.mark, hr, h.ent, h.row⟩
  | ent x =>
    replace hs : (if s.fit x then some (s.add x) else none) = some s' := hs
    by_cases hf : s.fit x
    · rw [if_pos hf] at hs
      cases hs
      exact h.add hf hr
    · rw [if_neg hf] at hs; cases hs
theorem WOk.run {rs : List Rc} : ∀ {s s' : WS}, WOk s → (∀ r ∈ rs, r.ok) → s.run rs = some s' → WOk s' := by
  induction rs with
  | nil => intro s s' h _ hs; cases hs; exact h
  | cons r rs ih =>
    intro s s' h hr hs
    rw [WS.run] at hs
    cases h1 : s.step r with
    | none => rw [h1] at hs; cases hs
    | some s1 =>
      rw [h1] at hs
      exact ih (h.step (hr r (.head _)) h1) (fun q hq => hr q (.tail _ hq)) hs
/-- All records of a state. -/
def WS.recs (s : WS) : List Rc := .mark s.bi s.bt :: .hard s.ht s.hv :: s.es.map .ent
theorem WOk.recs_ok {s : WS} (h : WOk s) : ∀ r ∈ s.recs, r.ok := by
  intro r hr
  rcases List.mem_cons.1 hr with rfl | hr
  · exact h.mark
  rcases List.mem_cons.1 hr with rfl | hr
  · exact h.hard
  obtain ⟨x, hx, rfl⟩ := List.mem_map.1 hr
  exact h.ent x hx
theorem run_ents {bi bt ht hv : Int} : ∀ (post pre : List S48), (∀ (j : Nat) (x : S48), (pre ++ post)[j]? = some x → x.f2 = bi + 1 + j) → WS.run ⟨bi, bt, ht, hv, pre⟩ (post.map .ent) = some ⟨bi, bt, ht, hv, pre ++ post⟩
  | [], pre, _ => by simp [WS.run]
  | x :: post, pre, h => by
    have hx : x.f2 = bi + 1 + pre.length := h pre.length x (by rw [List.getElem?_append_right (Nat.le_refl _)]; simp)
    have hf : WS.fit ⟨bi, bt, ht, hv, pre⟩ x := by unfold WS.fit; dsimp only; omega
    rw [List.map_cons, WS.run, WS.step, if_pos hf]
    have ha : WS.add ⟨bi, bt, ht, hv, pre⟩ x = ⟨bi, bt, ht, hv, pre ++ [x]⟩ := by
      unfold WS.add
      rw [show (x.f2 - bi - 1).toNat = pre.length by omega, List.take_length]
    rw [ha, Option.bind_some, run_ents post (pre ++ [x]) (by rw [List.append_assoc]; exact h), List.append_assoc]
    rfl
theorem WOk.recs_run {s : WS} (h : WOk s) (s0 : WS) : s0.run s.recs = some s := by
  unfold WS.recs
  rw [WS.run, WS.step, Option.bind_some, WS.run, WS.step, Option.bind_some, run_ents s.es [] (by rw [List.nil_append]; exact h.row)]
  rfl
theorem ent_bad {x : S48} (h : EOk x) : ¬ entBad x.f0 x.f1 x.f2 x.f3 ∧ x.f3.length ≤ 2048 := by
  have h1 := h.1
  unfold entErr at h1
  by_cases hb : entBad x.f0 x.f1 x.f2 x.f3
  · rw [if_pos hb] at h1; cases h1
  · rw [if_neg hb] at h1
    refine ⟨hb, ?_⟩
    by_cases h2 : 2048 < x.f3.length
    · rw [if_pos h2] at h1; cases h1
    · omega
theorem hard_ok {t v : Int} (h : hardErr t v = 0) : (0 ≤ t ∧ t ≤ 1099511627776) ∧ 0 ≤ v ∧ v ≤ 9 := by
  unfold hardErr at h
  by_cases hb : t < 0 ∨ 1099511627776 < t ∨ v < 0 ∨ 9 < v
  · rw [if_pos hb] at h; cases h
  · omega
theorem Rc.enc_bytes {r : Rc} (h : r.ok) : okBytes r.enc = true ∧ 3 ≤ r.enc.length ∧ r.enc.length ≤ 2068 := by
  cases r with
  | mark i t =>
    have l1 := enc_len h.1.1 h.1.2
    have l2 := enc_len h.2.1 h.2.2
    have b1 := PS.enc_bytes h.1.1 h.1.2
    have b2 := PS.enc_bytes h.2.1 h.2.2
    refine ⟨okBytes_of fun x hx => ?_, by simp only [Rc.enc, List.length_cons, List.length_append]; omega, by simp only [Rc.enc, List.length_cons, List.length_append]; omega⟩
    rcases List.mem_cons.1 hx with rfl | hx
    · omega
    rcases List.mem_append.1 hx with hx | hx
    · exact b1 x hx
    · exact b2 x hx
  | hard t v =>
    have h' := hard_ok h
    have l1 := enc_len h'.1.1 h'.1.2
    have l2 := enc_len h'.2.1 (by omega)
    have b1 := PS.enc_bytes h'.1.1 h'.1.2
    have b2 := PS.enc_bytes h'.2.1 (by omega)
    refine ⟨okBytes_of fun x hx => ?_, by simp only [Rc.enc, List.length_cons, List.length_append]; omega, by simp only [Rc.enc, List.length_cons, List.length_append]; omega⟩
    rcases List.mem_cons.1 hx with rfl | hx
    · omega
    rcases List.mem_append.1 hx with hx | hx
    · exact b1 x hx
    · exact b2 x hx
  | ent x =>
    have h' := ent_bad h
    have l1 := entBytes_len h'.1 h'.2
    have b1 := entBytes_bytes h'.1 h'.2 (okBytes_mem h.2)
    refine ⟨okBytes_of fun y hy => ?_, by simp only [Rc.enc, List.length_cons]; omega, by simp only [Rc.enc, List.length_cons]; omega⟩
    rcases List.mem_cons.1 hy with rfl | hy
    · omega
    · exact b1 y hy
/-- The bytes of records, each in its frame. -/
def recsB (rs : List Rc) : List Int := framesB (rs.map Rc.enc)
theorem framesB_append (a b : List (List Int)) : framesB (a ++ b) = framesB a ++ framesB b := by unfold framesB; rw [List.map_append, List.flatten_append]
theorem recsB_append (a b : List Rc) : recsB (a ++ b) = recsB a ++ recsB b := by unfold recsB; rw [List.map_append, framesB_append]
theorem recsB_cons (r : Rc) (b : List Rc) : recsB (r :: b) = frameB r.enc ++ recsB b := rfl
theorem recsB_one (r : Rc) : recsB [r] = frameB r.enc := by rw [recsB_cons]; exact List.append_nil _
theorem recsB_nil : recsB [] = [] := rfl
theorem recsB_len {rs : List Rc} (h : ∀ r ∈ rs, r.ok) : 11 * rs.length ≤ (recsB rs).length ∧ (recsB rs).length ≤ 2076 * rs.length := by
  induction rs with
  | nil => exact ⟨Nat.le_refl _, Nat.le_refl _⟩
  | cons r rs ih =>
    have h1 := ih (fun q hq => h q (.tail _ hq))
    have h2 := Rc.enc_bytes (h r (.head _))
    rw [recsB_cons, List.length_append, frameB_len, List.length_cons]
    omega
/-- A beginning of records' bytes: whole records, and less than a frame. -/
theorem torn_take (q : List Int) (hq : q.length ≤ 65536) (k : Nat) (hk : k < (frameB q).length) : Torn ((frameB q).take k) := by
  rw [frameB_len] at hk
  by_cases h8 : k < 8
  · exact .inl (by rw [List.length_take, frameB_len]; omega)
  · refine .inr ⟨q.length, (be4 (extB (extB 0 (be4 q.length)) q) ++ q).take (k - 4), ?_, by omega, by omega, ?_⟩
    · unfold frameB
      rw [List.append_assoc, List.take_append, be4_len, List.take_of_length_le (by rw [be4_len]; omega)]
    · rw [List.length_take, frameB_len]; omega
theorem torn_nil : Torn [] := .inl (by decide)
theorem recs_take {rs : List Rc} (h : ∀ r ∈ rs, r.ok) : ∀ k : Nat, ∃ (a b : List Rc) (t : List Int), rs = a ++ b ∧ (recsB rs).take k = recsB a ++ t ∧ Torn t := by
  induction rs with
  | nil => intro k; exact ⟨[], [], [], rfl, by simp [recsB_nil], torn_nil⟩
  | cons r rs ih =>
    intro k
    have h2 := Rc.enc_bytes (h r (.head _))
    by_cases hk : k < (frameB r.enc).length
    · refine ⟨[], r :: rs, (frameB r.enc).take k, rfl, ?_, torn_take _ (by omega) k hk⟩
      rw [recsB_cons, recsB_nil, List.nil_append, List.take_append_of_le_length (by omega)]
    · obtain ⟨a, b, t, hab, ht, hT⟩ := ih (fun q hq => h q (.tail _ hq)) (k - (frameB r.enc).length)
      refine ⟨r :: a, b, t, by rw [hab]; rfl, ?_, hT⟩
      rw [recsB_cons, recsB_cons, List.take_append, List.take_of_length_le (by omega), ht, List.append_assoc]
/-- All bytes of a state. -/
def WS.bytes (s : WS) : List Int := recsB s.recs
end Go.Proofs.Ytmmiipnmimjojaa.PS
end
section
namespace Go.Proofs.Ytmmiipnmimjojaa.PS
open Go.RowKit Go.Proofs.YtmmiipnmimjojaaW.PrintWords Go.Proofs.YtmmiipnmimjojaaW.PrintLast Go.Proofs.YtmmiipnmimjojaaW.PrintMore
set_option linter.unusedVariables false
set_option linter.unusedSimpArgs false
/-- A number's figures ahead of s. -/
def digB : Nat → Int → ByteArray → ByteArray
  | 0, _, s => s
  | k + 1, m, s => if 0 < m then digB k (m / 10) (Utf8.encode (48 + m % 10) ++ s) else s
/-- The name of log n. -/
def nameB (n : Int) : ByteArray := ⟨#[119, 97, 108, 45]⟩ ++ digB 14 n ⟨#[]⟩
theorem dig_one (d : Int) (h0 : 0 ≤ d) (h1 : d < 10) : (Utf8.encode (48 + d)).size = 1 := by
  rcases (show d = 0 ∨ d = 1 ∨ d = 2 ∨ d = 3 ∨ d = 4 ∨ d = 5 ∨ d = 6 ∨ d = 7 ∨ d = 8 ∨ d = 9 by omega) with rfl | rfl | rfl | rfl | rfl | rfl | rfl | rfl | rfl | rfl <;> rfl
set_option maxHeartbeats 2000000 in
set_option maxRecDepth 100000 in
theorem name_calls {W : World} {n : Int} (hn : 0 ≤ n ∧ n ≤ 1099511627776) :
    Calls Try.prog 91 #[.int .i64 n] W fun e w' => e = .returned (.string (nameB n)) ∧ W = w' := by
  obtain ⟨Y, hY⟩ : ∃ Y, digB 14 n ⟨#[]⟩ = Y := ⟨_, rfl⟩
  unfold nameB
  rw [hY]
  have HY := Aside0.mk hY
  clear hY
  go_enter Try.func91, Try.ntmps91
  go_wp2_with fail
  go_loopg [0, 3] 14 (fun kq v0 v3 w' => ∃ (m : Int) (s : ByteArray), v0 = .int .i64 m ∧ v3 = .string s ∧ 0 ≤ m ∧ m ≤ 1099511627776 ∧ Aside0 (m < 10 ^ kq) ∧ s.size + kq ≤ 14 ∧ Aside0 (digB kq m s = Y) ∧ W = w')
  case atStart => exact ⟨n, _, rfl, rfl, hn.1, hn.2, ⟨by have := hn.2; omega⟩, by decide, HY, rfl⟩
  case round =>
    obtain ⟨m, s, rfl, rfl, m0, m1, HM, hs, HD, rfl⟩ := hrel
    by_cases hm : 0 < m
    · have c1 : decide (0 < m) = true := decide_eq_true hm
      have hk : gk ≠ 0 := fun e => by have := HM.out; rw [e] at this; omega
      obtain ⟨j, rfl⟩ := Nat.exists_eq_succ_of_ne_zero hk
      have hd := HD.out
      rw [Nat.succ_eq_add_one, digB, if_pos hm] at hd
      have hlt := HM.out
      rw [Nat.succ_eq_add_one, Int.pow_succ] at hlt
      have h1 := dig_one (m % 10) (by omega) (by omega)
      obtain ⟨E, hE⟩ : ∃ E, Utf8.encode (48 + m % 10) = E := ⟨_, rfl⟩
      rw [hE] at hd h1
      have HDD := Aside0.mk hd
      have HLT := Aside0.mk (show m / 10 < 10 ^ j by omega)
      have hw1 : IntKind.i64.wrap (48 + m % 10) = 48 + m % 10 := IntWalk.i64_in _ ⟨by omega, by omega⟩
      have hsz : (E ++ s).size = 1 + s.size := by rw [ByteArray.size_append, h1]
      have HSZ := Aside0.mk hsz
      have hle : E.size + s.size ≤ maxLen := by unfold maxLen; omega
      clear hd hlt hsz HD HM
      go_wp2_with fail
      go_roundg j
      case measure => exact Nat.lt_succ_self j
      case rel => exact ⟨m / 10, E ++ s, rfl, rfl, by omega, by omega, HLT, by rw [HSZ.out]; omega, HDD, rfl⟩
    · have c1 : decide (0 < m) = false := decide_eq_false hm
      have hd := HD.out
      have hsY : s = Y := by
        cases gk with
        | zero => exact hd
        | succ j => rw [digB, if_neg hm] at hd; exact hd
      clear hd
      subst hsY
      have hle : (4 : Nat) + s.size ≤ maxLen := by unfold maxLen; omega
      go_wp2_with fail
      go_ret
      exact ⟨rfl, rfl⟩
set_option maxRecDepth 100000 in
theorem wfile_calls {W : World} {L : Nat} {n : Int} (hn : 0 ≤ n ∧ n ≤ 1099511627776) (h6 : W.cell? ⟨L, 6, none⟩ = some (.int .i64 n)) :
    Calls Try.prog 50 #[.pointer (some ⟨L, 0, none⟩)] W fun e w' => e = .returned (.string (nameB n)) ∧ W = w' := by
  have HN := Aside0.mk hn
  clear hn
  go_enter Try.func50, Try.ntmps50
  go_wp2_with fail
  refine (name_calls HN.out).mono ?_
  rintro e w' ⟨rfl, rfl⟩
  go_wp2_with fail
  go_ret
  exact ⟨rfl, rfl⟩
end Go.Proofs.Ytmmiipnmimjojaa.PS
end
