import Derived.Test.YtlbioffpcoikaaaEGetHard
namespace Go.Proofs.Ytlbioffpcoikaaa.PW
open Go.RowKit Go.Proofs.YtlbioffpcoikaaaW.PrintWords Go.Proofs.YtlbioffpcoikaaaW.PrintLast Go.Proofs.YtlbioffpcoikaaaW.PrintMore
set_option linter.unusedVariables false
set_option linter.unusedSimpArgs false
theorem res25 {W : World} {X E : Nat} {a b c d e : Value} {tmps : Array Value} (h : Bk W X #[a, b, c, d] 34) (hE : Bk W E #[e] 23) (ht : tmps.getD 2 undef = .pointer (some ⟨X, 0, none⟩)) (ht2 : tmps.getD 3 undef = .pointer (some ⟨E, 0, none⟩)) :
    (results Try.f25 tmps).run Try.prog W = .ok (.tuple #[.agg #[a, b, c, d], e]) W := by
  have q0 := h.cell 0 _ rfl
  have q1 := h.cell 1 _ rfl
  have q2 := h.cell 2 _ rfl
  have q3 := h.cell 3 _ rfl
  have q4 := hE.cell 0 _ rfl
  have t1 : tmps[2]?.getD undef = .pointer (some ⟨X, 0, none⟩) := by simpa using ht
  have t2 : tmps[3]?.getD undef = .pointer (some ⟨E, 0, none⟩) := by simpa using ht2
  simp [results, Try.results25, go_sem, t1, t2, q0, q1, q2, q3, q4]
/-- GetEntry's answer. -/
def getEntry (l : List Int) : Int × Int × Int × List Int × Int :=
  match rdEntry l 0 with
  | .error x => (0, 0, 0, [], x)
  | .ok ((k, t, i, d), a) => if a < l.length then (0, 0, 0, [], 4) else (k, t, i, d, 0)
def wire_GetEntry.f (l0 : List Int) : Option (Int × Int × Int × List Int × Int) := if okBytes l0 = true ∧ l0.length ≤ 200000000000000 then some (getEntry l0) else none
def EntryPost (w0 : World) (r : Int × Int × Int × List Int × Int) (e : Ending) (w' : World) : Prop :=
  ∃ v3_ : Value, e = .returned (.tuple #[.agg #[.int .i64 r.1, .int .i64 r.2.1, .int .i64 r.2.2.1, v3_], .int .i64 r.2.2.2.2]) ∧ Kd.R (Kd.int .u8) 5 w' w0.heap.size (fun _ => True) v3_ r.2.2.2.1 ∧ Below w0.heap.size w0 w'
set_option maxHeartbeats 2000000 in
set_option maxRecDepth 100000 in
theorem getEntry_core (A : Option Addr) (c : Nat) (l : List Int) (w0 : World) (hr : Kd.C (Kd.int .u8) w0 A l.length l) (hc : l.length ≤ c) (hok : okLen l) (r : Int × Int × Int × List Int × Int) (hres : getEntry l = r) :
    Calls Try.prog 25 #[.slice A l.length c] w0 fun e w' => EntryPost w0 r e w' := by
  have HS := Aside0.mk hres
  have HR := Aside0.mk hr
  have HK := Aside0.mk hok
  clear hres hr hok
  go_enter_defers Try.func25, Try.ntmps25
  go_wp2_with fail
  have HC1 := Aside0.mk (G2.start (w0 := w0) (A := A) (n := l.length) (c := c) Z34 34 _ rfl)
  refine (entry_calls w0 _ (w0.heap.size + 1 + 1) A c l 0 HR.out hc HC1.out.rd HC1.out.below HC1.out.g0 HK.out _ rfl).mono ?_
  rintro e w1 ⟨B1, K1, hm⟩
  cases hn1 : rdEntry l 0 with
  | error x =>
    rw [hn1] at hm
    obtain rfl := hm
    have hx : r = (0, 0, 0, [], x) := by rw [← HS.out, getEntry, hn1]
    subst hx
    obtain ⟨q1, q2, q3, q4⟩ := HC1.out.bad B1 K1 x
    exact door_panic q4 (fun W1 hW1 => by subst hW1; exact ⟨res25 q2 q3 rfl rfl, _, rfl, Kd.R_nil _ _ _ _ _, q1⟩)
  | ok p =>
  obtain ⟨⟨k, t, i, d⟩, a1⟩ := p
  rw [hn1] at hm
  obtain ⟨v, rfl, R1, I1⟩ := hm
  have hr0 : r = if a1 < l.length then (0, 0, 0, [], 4) else (k, t, i, d, 0) := by rw [← HS.out, getEntry, hn1]
  have HR0 := Aside0.mk hr0
  have hg1 := I1.lt
  have HC2 := Aside0.mk ((HC1.out.call B1 K1 I1).alloc (.cells #[.int .i64 k, .int .i64 t, .int .i64 i, v] 34 (0, 0)))
  have hY := blk_new w1 (.cells #[.int .i64 k, .int .i64 t, .int .i64 i, v] 34 (0, 0))
  have HY := Aside0.mk hY
  obtain ⟨Ad, cd, rfl⟩ := Kd.R_slice R1
  have hsz1 : (((w0.alloc (.cells Z34 34 (0, 0))).alloc (.cells #[.int .i64 0] 23 (0, 0))).alloc (.cells #[.slice A l.length c, .int .i64 0] 74 (0, 0))).heap.size = w0.heap.size + 1 + 1 + 1 := by rw [World.size_alloc, World.size_alloc, World.size_alloc]
  have R2 : Kd.R (Kd.int .u8) 5 (w1.alloc (.cells #[.int .i64 k, .int .i64 t, .int .i64 i, .slice Ad d.length cd] 34 (0, 0))) (w0.heap.size + 1 + 1 + 1) (fun k => w0.heap.size + 1 + 1 + 1 ≤ k) (.slice Ad d.length cd) d := by
    rw [hsz1] at R1
    exact Kd.R_alloc (Kd.R_mono (Kd.R_bound R1) (fun k hk => hk.2.1)) _
  have HR2 := Aside0.mk R2
  clear hn1 I1 B1 K1 R1 R2 hsz1 hr0 hY
  go_wp2_with fail
  refine (end_calls w0 _ (w0.heap.size + 1 + 1) A l.length c a1 HC2.out.rd HC2.out.below HC2.out.g0 _ rfl).mono ?_
  rintro e w3 ⟨B3, K3, hm⟩
  have hYg : w1.heap.size ≠ w0.heap.size + 1 + 1 := by omega
  by_cases ha : a1 < l.length
  · rw [if_pos ha] at hm
    obtain rfl := hm
    have hx : r = (0, 0, 0, [], 4) := by rw [HR0.out, if_pos ha]
    subst hx
    obtain ⟨q1, q2, q3, q4⟩ := HC2.out.bad B3 K3 4
    exact door_panic q4 (fun W1 hW1 => by subst hW1; exact ⟨res25 q2 q3 rfl rfl, _, rfl, Kd.R_nil _ _ _ _ _, q1⟩)
  · rw [if_neg ha] at hm
    obtain ⟨rfl, I3⟩ := hm
    have hx : r = (k, t, i, d, 0) := by rw [HR0.out, if_neg ha]
    have HX := Aside0.mk hx
    have HC4 := Aside0.mk (HC2.out.call B3 K3 I3)
    have hY3 : Bk w3 w1.heap.size #[.int .i64 k, .int .i64 t, .int .i64 i, .slice Ad d.length cd] 34 := K3.blk HY.out hYg (by simp)
    have HR3 := Aside0.mk (Kd.R_keep HR2.out K3 (fun k hk => by omega))
    have y0 := hY3.cell 0 _ rfl
    have y1 := hY3.cell 1 _ rfl
    have y2 := hY3.cell 2 _ rfl
    have y3 := hY3.cell 3 _ rfl
    have x0 := HC4.out.x.cell 0 _ rfl
    have x1 := HC4.out.x.cell 1 _ rfl
    have x2 := HC4.out.x.cell 2 _ rfl
    have x3 := HC4.out.x.cell 3 _ rfl
    have fx := HC4.out.x.frozen
    have e0 := HC4.out.e.cell 0 _ rfl
    have fe := HC4.out.e.frozen
    have hxe : ¬ w0.heap.size + 1 = w0.heap.size := by omega
    have hxe2 : ¬ w0.heap.size = w0.heap.size + 1 := by omega
    clear hx hY3 I3 B3 K3 hYg
    go_wp2
    have HF := ((((HC4.out.setX 0 (.int .i64 k)).setX 1 (.int .i64 t)).setX 2 (.int .i64 i)).setX 3 (.slice Ad d.length cd)).setE 0
    have hx := HX.out
    subst hx
    refine door_ret (res25 HF.x HF.e rfl rfl) ⟨_, rfl, ?_, HF.below⟩
    exact Kd.R_mono (ok := fun k => w0.heap.size + 1 + 1 + 1 ≤ k) (ok' := fun _ => True) (h := Kd.R_lower (Kd.R_far (p := ⟨w0.heap.size + 1, 0, none⟩) (Kd.R_far (p := ⟨w0.heap.size, 3, none⟩) (Kd.R_far (p := ⟨w0.heap.size, 2, none⟩) (Kd.R_far (p := ⟨w0.heap.size, 1, none⟩) (Kd.R_far (p := ⟨w0.heap.size, 0, none⟩) HR3.out
      (fun k hk => by show k ≠ w0.heap.size; omega) _) (fun k hk => by show k ≠ w0.heap.size; omega) _) (fun k hk => by show k ≠ w0.heap.size; omega) _) (fun k hk => by show k ≠ w0.heap.size; omega) _) (fun k hk => by show k ≠ w0.heap.size + 1; omega) _) (by omega)) (fun _ _ => trivial)
theorem wire_GetEntry.calls (A0 : Option Addr) (c0 : Nat) (l0 : List Int) (r1 : Int) (r2 : Int) (r3 : Int) (r4 : List Int) (r5 : Int) (w : World) (hr0 : Kd.C (Kd.int .u8) w A0 l0.length l0) (hc0 : l0.length ≤ c0) (h : wire_GetEntry.f l0 = some (r1, r2, r3, r4, r5)) :
    Calls Try.prog 25 #[.slice A0 l0.length c0] w fun e w' => ∃ v3_ : Value, e = .returned (.tuple #[.agg #[.int .i64 r1, .int .i64 r2, .int .i64 r3, v3_], .int .i64 r5]) ∧ Kd.R (Kd.int .u8) 5 w' w.heap.size (fun _ => True) v3_ r4 ∧ Below w.heap.size w w' := by
  unfold wire_GetEntry.f at h
  by_cases hc : okBytes l0 = true ∧ l0.length ≤ 200000000000000
  · rw [if_pos hc] at h
    exact (getEntry_core A0 c0 l0 w hr0 hc0 hc _ (Option.some.inj h)).mono fun _ _ h => h
  · rw [if_neg hc] at h
    cases h
end Go.Proofs.Ytlbioffpcoikaaa.PW
