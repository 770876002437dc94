import Derived.Test.YthmamgnobcnhgaaESort
import Derived.Test.YthmamgnobcnhgaaShelf2
namespace Go.Proofs.Ythmamgnobcnhgaa.PM
open Go.RowKit Go.Proofs.YthmamgnobcnhgaaW.PrintWords Go.Proofs.YthmamgnobcnhgaaW.PrintLast Go.Proofs.YthmamgnobcnhgaaW.PrintMore
open Go.Sort Go.Shelf Go.Lib
set_option linter.unusedVariables false
set_option linter.unusedSimpArgs false
set_option maxRecDepth 100000 in
theorem gives78 (n x : Int) (B : Nat) (W : World) (hc : W.cell? ⟨B, 0, none⟩ = some (.int .i64 n)) :
    FnGives Try.prog 78 #[.pointer (some ⟨B, 0, none⟩)] #[.int .i64 x] (.bool (x == n)) W := by
  show Calls Try.prog 78 #[.int .i64 x, .pointer (some ⟨B, 0, none⟩)] W _
  go_enter Try.func78, Try.ntmps78
  go_wp2
  go_ret
  exact ⟨rfl, 0, rfl⟩
theorem pred78 (n : Int) (B : Nat) (w : World) (hB : B < w.heap.size) (hcell : w.cell? ⟨B, 0, none⟩ = some (.int .i64 n)) :
    PredAt Try.prog 78 #[.pointer (some ⟨B, 0, none⟩)] (Value.int .i64) (fun x => x == n) w :=
  fun W x hb => gives78 n x B W ((hb.cell (p := ⟨B, 0, none⟩) hB).trans hcell)
theorem over78 (n : Int) (B blk off size : Nat) (w : World) (hB : B < w.heap.size) (hne : B ≠ blk) (hcell : w.cell? ⟨B, 0, none⟩ = some (.int .i64 n)) :
    PredOver Try.prog 78 #[.pointer (some ⟨B, 0, none⟩)] (Value.int .i64) (fun x => x == n) blk off size w :=
  fun q os dk x _ => gives78 n x B _ (by
    unfold sortWorld
    rw [cell?_grow _ _ _ (by show B < (putRow _ _ _ _ _).heap.size; rw [size_putRow]; exact hB), cell?_putRow_other _ _ blk off _ _ (Or.inl hne)]
    exact hcell)
theorem eg78 : ∀ args w, (callFunc 78 args).run Try.prog w = .ok (.enter 78 args) w := enters_of Try.func78 (by kernel_rfl) rfl
/-- A list without a number. -/
def lessB (l : List Int) (n : Int) : List Int := l.filter fun x => !(x == n)
set_option maxRecDepth 100000 in
/-- IndexFunc and DeleteFunc of no row. -/
theorem delete_nil (w : World) (B : Nat) : Calls Try.prog 76 #[.slice none 0 0, .func (.func 78) #[] #[.pointer (some ⟨B, 0, none⟩)]] w fun e w' => e = .returned (.slice none 0 0) ∧ w' = w := by
  have hi : ∀ W : World, Calls Try.prog 69 #[.slice none 0 0, .func (.func 78) #[] #[.pointer (some ⟨B, 0, none⟩)]] W fun e w' => e = .returned (.int .i64 (-1)) ∧ w' = W := by
    intro W
    go_enter Try.func69, Try.ntmps69
    go_wp2
    refine wp_loop_rounds 1 ?_
    rw [rounds_succ]
    go_wp2
    go_ret
    exact ⟨rfl, rfl⟩
  go_enter Try.func76, Try.ntmps76
  go_wp2_with (go_at_call 69; refine (hi _).mono ?_; rintro e w' ⟨rfl, rfl⟩)
  go_ret
  exact ⟨rfl, rfl⟩
theorem delete_R {w0 w : World} {base : Nat} {ok : Nat → Prop} {v : Value} {xs : List Int} (h : Kd.R (Kd.int .i64) 3 w base ok v xs) (hB : Below base w0 w) (hbase : base ≤ w.heap.size) (n : Int) (bx : Nat) (hbx : bx < w.heap.size) (hne : v.ownBlock ≠ some bx)
    (hcell : w.cell? ⟨bx, 0, none⟩ = some (.int .i64 n)) :
    Calls Try.prog 76 #[v, .func (.func 78) #[] #[.pointer (some ⟨bx, 0, none⟩)]] w fun e w' => ∃ v1, e = .returned v1 ∧ Kd.R (Kd.int .i64) 3 w' base ok v1 (lessB xs n) ∧ Below base w0 w' := by
  have h0 := h.1
  have ho : w.ownsRow base 3 1 v xs.length (xs.map (Value.int .i64)) := Kd.own_of_R (enc := Value.int .i64) (h1 := fun _ => rfl) h
  rcases ho.2 with ⟨hv, hn⟩ | ⟨g, cap, cur, hv, hbg, hb, h1, h2, h3, h4⟩
  · subst hv
    obtain rfl : xs = [] := List.eq_nil_of_length_eq_zero hn
    refine (delete_nil w bx).mono ?_
    rintro e w' ⟨rfl, rfl⟩
    exact ⟨_, rfl, h, hB⟩
  · subst hv
    have hH : Holds (Value.int .i64) w g 0 xs.toArray := holds_of_blockI hb (by simpa using h4)
    have hgl : g < w.heap.size := (Array.getElem?_eq_some_iff.1 hb).1
    have hgb : bx ≠ g := fun e => hne (by rw [e]; rfl)
    have hml : xs.length ≤ 9223372036854775807 := by have e : maxLen = 9223372036854775807 := by decide
                                                     omega
    have hd := AnyE.slices_DeleteFunc Try.l76 (Value.int .i64) (fun _ => rfl) (fun x => x == n) 78 #[.pointer (some ⟨bx, 0, none⟩)] eg78 0 Try.zeroValue3 g 0 cap xs.toArray w
      (pred78 n bx w hbx hcell) (over78 n bx g 0 xs.toArray.size w hbx hgb hcell) hH (by simpa using hml) (by simpa using h1)
    change Calls Try.prog 76 #[.slice (some ⟨g, 0, none⟩) xs.toArray.size cap, _] _ _ at hd
    rw [List.size_toArray] at hd
    refine hd.mono ?_
    have hfl : (lessB xs n).length ≤ xs.length := List.length_filter_le _ _
    have hfe : (xs.toArray.toList.filter fun x => !(x == n)) = lessB xs n := rfl
    rw [hfe]
    rintro e w' ⟨rfl, q, rfl⟩
    obtain ⟨ts, hts⟩ : ∃ ts, lessB xs n ++ List.replicate (xs.length - (lessB xs n).length) 0 = ts := ⟨_, rfl⟩
    rw [hts]
    have htl : ts.length = xs.length := by rw [← hts, List.length_append, List.length_replicate]; omega
    have hg := grownBy_sortedI (w := w) (g := g) (n := q) (os := #[]) ts.toArray
    have hro := ownsRow_sortedI (n := q) (os := #[]) (ts := ts) htl hbg hb h1 h2 h3
    rw [grow_empty] at hg hro
    refine ⟨_, rfl, ?_, hB.grown hg hbase (fun k hk => by cases hk; exact hbg)⟩
    refine Kd.R_of_own (enc := Value.int .i64) (h1 := fun _ => rfl) ?_ (fun k hk => h0 k hk)
    rcases hro.2 with ⟨hv, _⟩ | ⟨g', cap', cur', hv, hbg', hb', a1, a2, a3, a4⟩
    · cases hv
    · cases hv
      refine ⟨by simp [encs], .inr ⟨g, cap, cur', rfl, hbg', hb', by omega, a2, a3, ?_⟩⟩
      have : cur'.toList.take ((lessB xs n).length * 1) = (cur'.toList.take (xs.length * 1)).take ((lessB xs n).length * 1) := by rw [List.take_take]; congr 1; omega
      rw [this, a4, ← hts, List.map_append, Nat.mul_one, List.take_left' (by simp)]
      rfl
theorem clone_R (A0 : Option Addr) (c0 : Nat) (l : List Int) (w : World) (hr0 : Kd.C (Kd.int .i64) w A0 l.length l) (hl : l.length ≤ 17592186044416) :
    Calls Try.prog 77 #[.slice A0 l.length c0] w fun e w' => ∃ v1, e = .returned v1 ∧ Kd.R (Kd.int .i64) 3 w' w.heap.size (fun k => w.heap.size ≤ k) v1 l ∧ Below w.heap.size w w' := by
  have fin : ∀ w' v1, w'.ownsRow w.heap.size 3 1 v1 l.length (l.map (Value.int .i64)) → Kd.R (Kd.int .i64) 3 w' w.heap.size (fun k => w.heap.size ≤ k) v1 l := fun w' v1 ho =>
    Kd.R_of_own (enc := Value.int .i64) (h1 := fun _ => rfl) ho (fun k hk => by
      rcases ho.2 with ⟨hv, _⟩ | ⟨g, cap, cur, hv, hbg, _⟩
      · subst hv; cases hk
      · subst hv; cases hk; exact hbg)
  by_cases hz : l.length = 0
  · obtain rfl : l = [] := List.eq_nil_of_length_eq_zero hz
    cases A0 with
    | none =>
      refine (Try.slices_Clone_int_nil 0 c0 w).mono ?_
      rintro e w' ⟨rfl, rfl⟩
      exact ⟨_, rfl, Kd.R_nil _ _ _ _ _, Below.refl _ _⟩
    | some a =>
      refine (Try.slices_Clone_int_zero a c0 w).mono ?_
      rintro e w' ⟨v1, rfl, ho, _, hb⟩
      exact ⟨v1, rfl, fin w' v1 ho, hb⟩
  · obtain ⟨b, off, rfl, hc⟩ := ints_at hr0 (by omega)
    refine (Try.slices_Clone_int b off l.length c0 l w (Nat.le_refl _) (by omega) hc).mono ?_
    rintro e w' ⟨v1, rfl, ho, _, hb⟩
    rw [List.take_length] at ho
    exact ⟨v1, rfl, fin w' v1 ho, hb⟩
def member_without.f (l0 : List Int) (a1 : Int) : Option (List Int) := if l0.length ≤ 17592186044416 then some (lessB l0 a1) else none
set_option maxHeartbeats 2000000 in
set_option maxRecDepth 100000 in
theorem member_without.calls (A0 : Option Addr) (c0 : Nat) (l0 : List Int) (a1 : Int) (r : List Int) (w : World) (hr0 : Kd.C (Kd.int .i64) w A0 l0.length l0) (hc0 : l0.length ≤ c0) (h : member_without.f l0 a1 = some r) :
    Calls Try.prog 62 #[.slice A0 l0.length c0, .int .i64 a1] w fun e w' => ∃ v0_ : Value, e = .returned (v0_) ∧ Kd.R (Kd.int .i64) 3 w' w.heap.size (fun _ => True) v0_ r ∧ Below w.heap.size w w' := by
  unfold member_without.f at h
  by_cases hc : l0.length ≤ 17592186044416
  · rw [if_pos hc] at h
    obtain rfl := Option.some.inj h
    have HB := Aside0.mk (below_alloc (Below.refl w.heap.size w) (.cells #[.int .i64 a1] 3 (0, 0)))
    have HR0 := Aside0.mk hr0
    clear hr0 h
    go_enter Try.func62, Try.ntmps62
    go_wp2_with fail
    refine (clone_R A0 c0 l0 _ (Kd.C_below HR0.out HB.out) hc).mono ?_
    rintro e w1 ⟨v1, rfl, ho, hb⟩
    have hcell : w1.cell? ⟨w.heap.size, 0, none⟩ = some (.int .i64 a1) := (hb.cell (by simp [go_sem])).trans (by simp [go_sem])
    have hsz : w.heap.size < w1.heap.size := by have := hb.size; simp [go_sem] at this; omega
    have hnb : v1.ownBlock ≠ some w.heap.size := fun e => by
      have h1 := ho.1 _ e
      have h2 : (w.alloc (.cells #[.int .i64 a1] 3 (0, 0))).heap.size = w.heap.size + 1 := by simp [go_sem]
      omega
    have hd := delete_R ho hb hb.size a1 w.heap.size hsz hnb hcell
    have HD := Aside0.mk hd
    clear hd ho hb
    go_wp2_with fail
    refine HD.out.mono ?_
    rintro e w2 ⟨v2, rfl, ho2, hb2⟩
    have HO := Aside0.mk ho2
    have HB2 := Aside0.mk hb2
    clear ho2 hb2 HD
    go_wp2
    go_ret
    refine ⟨_, rfl, ?_, HB.out.trans (HB2.out.mono (by simp [go_sem]))⟩
    have ho := Kd.own_of_R (enc := Value.int .i64) (h1 := fun _ => rfl) HO.out
    refine Kd.R_of_own (enc := Value.int .i64) (h1 := fun _ => rfl) ⟨ho.1, ?_⟩ (fun _ _ => trivial)
    rcases ho.2 with hn | ⟨g, cap, cur, hv, hbg, hr⟩
    · exact .inl hn
    · exact .inr ⟨g, cap, cur, hv, by simp [go_sem] at hbg; omega, hr⟩
  · rw [if_neg hc] at h; cases h
end Go.Proofs.Ythmamgnobcnhgaa.PM
