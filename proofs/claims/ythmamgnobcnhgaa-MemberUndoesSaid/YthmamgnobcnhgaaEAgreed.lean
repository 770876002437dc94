import Derived.Test.YthmamgnobcnhgaaESort
namespace Go.Proofs.Ythmamgnobcnhgaa.PM
open Go.RowKit Go.Proofs.YthmamgnobcnhgaaW.PrintWords Go.Proofs.YthmamgnobcnhgaaW.PrintLast Go.Proofs.YthmamgnobcnhgaaW.PrintMore
open Go.Sort
attribute [local go_sem] max2_int min2_int max_two min_two
set_option linter.unusedVariables false
set_option linter.unusedSimpArgs false
/-- The first place whose entry meets p, or -1. -/
def idxG {α : Type} (p : α → Bool) : List α → Int → Int
  | [], _ => -1
  | x :: l, i => if p x = true then i else idxG p l (i + 1)
theorem rdT_at {l : List S33} {i : Int} (h0 : 0 ≤ i) (h1 : i < l.length) : l.drop i.toNat = rd_T33 l i :: l.drop (i + 1).toNat := by
  have h : i.toNat < l.length := by omega
  unfold rd_T33
  rw [List.drop_eq_getElem_cons h, List.getD_eq_getElem?_getD, List.getElem?_eq_getElem h, show (i + 1).toNat = i.toNat + 1 by omega]
  rfl
set_option maxHeartbeats 1000000 in
set_option maxRecDepth 100000 in
theorem agreed1_calls (w : World) (bx : Nat) (n x y : Int) (hb : w.cell? ⟨bx, 0, none⟩ = some (.int .i64 n)) (r : Bool) (h : (x == n) = r) :
    Calls Try.prog 47 #[.agg #[.int .i64 x, .int .i64 y], .pointer (some ⟨bx, 0, none⟩)] w fun e w' => e = .returned (.bool r) ∧ Below w.heap.size w w' := by
  have hlt : bx < w.heap.size := by
    obtain ⟨c, e, fr, h1, _⟩ := cells_of_cell? hb
    exact (Array.getElem?_eq_some_iff.1 h1).1
  have hne : ¬ bx = w.heap.size := by omega
  have HB := Aside0.mk (below_alloc (Below.refl w.heap.size w) (.cells #[.int .i64 x, .int .i64 y] 33 (0, 0)))
  have hb2 : (w.alloc (.cells #[.int .i64 x, .int .i64 y] 33 (0, 0))).cell? ⟨bx, 0, none⟩ = some (.int .i64 n) := (HB.out.cell hlt).trans hb
  go_enter Try.func47, Try.ntmps47
  go_wp2
  go_ret
  subst h
  exact ⟨rfl, HB.out⟩
set_option maxHeartbeats 1000000 in
set_option maxRecDepth 100000 in
theorem index_at (w : World) (bx : Nat) (n : Int) (hb : w.cell? ⟨bx, 0, none⟩ = some (.int .i64 n)) (hbx : bx < w.heap.size)
    (A1 : Option Addr) (c1 : Nat) (L : List S33) (hr1 : Kd.C k33 w A1 L.length L) (hL : L.length ≤ 9223372036854775000) (R : Int) (hR : idxG (fun x : S33 => x.f0 == n) L 0 = R) :
    Calls Try.prog 46 #[.slice A1 L.length c1, .func (.func 47) #[] #[.pointer (some ⟨bx, 0, none⟩)]] w fun e w' => e = .returned (.int .i64 R) ∧ Below w.heap.size w w' := by
  have HR1 := Aside0.mk hr1
  have HS := Aside0.mk hR
  have HB := Aside0.mk hb
  clear hr1 hR hb
  go_enter Try.func46, Try.ntmps46
  go_wp2_with fail
  go_loopg [8] L.length (fun kq v8 w' => ∃ i : Int, v8 = .int .i64 i ∧ 0 ≤ i ∧ i + kq = L.length ∧ Aside0 (idxG (fun x : S33 => x.f0 == n) (L.drop i.toNat) i = R) ∧ Aside0 (Below w.heap.size w w'))
  case atStart => exact ⟨0, rfl, by omega, by omega, HS, ⟨Below.refl _ _⟩⟩
  case round =>
    obtain ⟨i, rfl, i0, i1, HI, HW⟩ := hrel
    by_cases hi : i < L.length
    · have hb7 : decide (i < (L.length : Int)) = true := by simpa using hi
      obtain ⟨ad, rfl, hcell, hcell2⟩ := at_T33 (Kd.C_below HR1.out HW.out) i i0 hi
      obtain ⟨x, hx⟩ : ∃ x, rd_T33 L i = x := ⟨_, rfl⟩
      obtain ⟨r, hr⟩ : ∃ r, (x.f0 == n) = r := ⟨_, rfl⟩
      have h0 := HI.out
      rw [rdT_at i0 hi, idxG, hx] at h0
      simp only [hr] at h0
      rw [hx] at hcell hcell2
      have HX := Aside0.mk hr
      have H0 := Aside0.mk h0
      clear hr h0 hx HI
      have p0 := eq_true i0
      have p1 := eq_true hi
      cases r with
      | true =>
        go_wp2_with (go_at_call 47; refine (agreed1_calls _ bx n x.f0 x.f1 ((HW.out.cell hbx).trans HB.out) true HX.out).mono ?_; rintro e w' ⟨rfl, hw'⟩)
        go_ret
        have h1 : i = R := by simpa using H0.out
        subst h1
        exact ⟨rfl, HW.out.trans (hw'.mono HW.out.size)⟩
      | false =>
        go_wp2_with (go_at_call 47; refine (agreed1_calls _ bx n x.f0 x.f1 ((HW.out.cell hbx).trans HB.out) false HX.out).mono ?_; rintro e w' ⟨rfl, hw'⟩)
        go_roundg (gk - 1)
        case measure => omega
        case rel => exact ⟨i + 1, rfl, by omega, by omega, ⟨by simpa using H0.out⟩, ⟨HW.out.trans (hw'.mono HW.out.size)⟩⟩
    · have hb7 : decide (i < (L.length : Int)) = false := by simpa using hi
      have h0 := HI.out
      rw [List.drop_eq_nil_of_le (by omega), idxG] at h0
      subst h0
      go_wp2
      go_ret
      exact ⟨rfl, HW.out⟩
/-- How far voter n is. -/
def agE (l : List S33) (n : Int) : Int := if idxG (fun x : S33 => x.f0 == n) l 0 < 0 then 0 else max 0 (rd_T33 l (idxG (fun x : S33 => x.f0 == n) l 0)).f1
theorem idxG_lt {α : Type} (p : α → Bool) : ∀ (l : List α) (i : Int), 0 ≤ i → idxG p l i = -1 ∨ (0 ≤ idxG p l i ∧ idxG p l i < i + l.length)
  | [], i, h => .inl rfl
  | x :: l, i, h => by
    rw [idxG]
    by_cases hx : p x = true
    · rw [if_pos hx]; simp; omega
    · rw [if_neg hx]
      rcases idxG_lt p l (i + 1) (by omega) with h1 | h1
      · exact .inl h1
      · refine .inr ⟨h1.1, ?_⟩
        simp only [List.length_cons]; omega
theorem ups_len : ∀ (V : List Int) (p : Int), p ≤ 9 → ups p V = true → (V.length : Int) + p ≤ 9
  | [], p, hp, h => by simpa using hp
  | x :: V, p, hp, h => by
    simp only [ups, Bool.and_eq_true, decide_eq_true_eq] at h
    have := ups_len V x h.1.2 h.2
    simp only [List.length_cons]
    omega
/-- member.Agreed -/
def agreedB (V L : List Int) (l : List S33) : Int := if rightB V L then (sortI (V.map (agE l))).getD ((V.length - 1) / 2) 0 else 0
def member_Agreed.f (l0_0 : List Int) (l0_1 : List Int) (l1 : List (S33)) : Option (Int) :=
  if l0_0.length ≤ 140737488355328 ∧ l0_1.length ≤ 140737488355328 ∧ l1.length ≤ 140737488355328 then some (agreedB l0_0 l0_1 l1) else none
theorem right_r2 (A0 : Option Addr) (c0 : Nat) (V : List Int) (A1 : Option Addr) (c1 : Nat) (L : List Int) (w : World) (hr0 : Kd.C (Kd.int .i64) w A0 V.length V) (hc0 : V.length ≤ c0) (hr1 : Kd.C (Kd.int .i64) w A1 L.length L) (hc1 : L.length ≤ c1)
    (hV : V.length ≤ 140737488355328) (hL : L.length ≤ 140737488355328) (r : Bool) (hres : rightB V L = r) :
    Calls Try.prog 26 #[.agg #[.slice A0 V.length c0, .slice A1 L.length c1]] w fun e w' => e = .returned (.bool r) ∧ Below w.heap.size w w' := right_core A0 c0 V A1 c1 L w hr0 hc0 hr1 hc1 hV hL r hres
set_option maxHeartbeats 2000000 in
set_option maxRecDepth 100000 in
theorem agreed_core (A0 : Option Addr) (c0 : Nat) (V : List Int) (A1 : Option Addr) (c1 : Nat) (L : List Int) (A2 : Option Addr) (c2 : Nat) (l : List S33) (w : World) (hr0 : Kd.C (Kd.int .i64) w A0 V.length V) (hc0 : V.length ≤ c0) (hr1 : Kd.C (Kd.int .i64) w A1 L.length L) (hc1 : L.length ≤ c1)
    (hr2 : Kd.C k33 w A2 l.length l) (hc2 : l.length ≤ c2)
    (hV : V.length ≤ 140737488355328) (hL : L.length ≤ 140737488355328) (hY : l.length ≤ 140737488355328) (r : Int) (hres : agreedB V L l = r) :
    Calls Try.prog 23 #[.agg #[.slice A0 V.length c0, .slice A1 L.length c1], .slice A2 l.length c2] w fun e w' => e = .returned (.int .i64 r) ∧ Below w.heap.size w w' := by
  have HS := Aside0.mk hres
  have HR0 := Aside0.mk hr0
  have HR1 := Aside0.mk hr1
  have HR2 := Aside0.mk hr2
  clear hres hr0 hr1 hr2
  have HB := Aside0.mk (below_alloc (Below.refl w.heap.size w) (.cells #[.slice A0 V.length c0, .slice A1 L.length c1] 24 (0, 0)))
  obtain ⟨b1, hb1⟩ : ∃ b, rightB V L = b := ⟨_, rfl⟩
  have H1 := Aside0.mk hb1
  clear hb1
  go_enter Try.func23, Try.ntmps23
  go_wp2_with fail
  refine (right_r2 A0 c0 V A1 c1 L _ (Kd.C_below HR0.out HB.out) hc0 (Kd.C_below HR1.out HB.out) hc1 hV hL b1 H1.out).mono ?_
  rintro e w1 ⟨rfl, hw1⟩
  cases b1 with
  | false =>
    go_wp2
    go_ret
    have hx : r = 0 := by rw [← HS.out, agreedB, H1.out]; rfl
    subst hx
    exact ⟨rfl, HB.out.trans (hw1.mono (by simp [go_sem]))⟩
  | true =>
    have hup := H1.out
    have hu : ups 0 V = true ∧ (V.length == 0) = false := by
      unfold rightB at hup
      simp only [Bool.and_eq_true] at hup
      exact ⟨hup.1.1.2, by simpa using hup.1.1.1⟩
    have hlen := ups_len V 0 (by omega) hu.1
    have hpos : 0 < V.length := by have := hu.2; simp at this; exact List.length_pos_iff.2 this
    clear hup hu
    have hbx : w1.cell? ⟨w.heap.size, 0, none⟩ = some (.slice A0 V.length c0) := (hw1.cell (by simp [go_sem])).trans (by simp [go_sem])
    have HW1 := Aside0.mk (HB.out.trans (hw1.mono (by simp [go_sem])))
    clear hw1
    go_wp2_with fail
    go_loopg [5, 15] V.length (fun kq v5 v15 wr => ∃ k : Nat, k + kq = V.length ∧ v15 = .int .i64 k ∧ Aside0 (Kd.R (Kd.int .i64) 3 wr w.heap.size (fun _ => True) v5 ((V.take k).map (agE l))) ∧ Aside0 (Below w.heap.size w wr))
    case atStart => exact ⟨0, by omega, rfl, ⟨Kd.R_nil _ _ _ _ _⟩, HW1⟩
    case round =>
      obtain ⟨k, hk, rfl, HO, HW⟩ := hrel
      by_cases hi : k < V.length
      · obtain ⟨ad, rfl, hcell⟩ := Kd.at_int (Kd.C_below HR0.out HW.out) (k : Int) (by omega) (by omega)
        obtain ⟨x, hx⟩ : ∃ x, rd V k = x := ⟨_, rfl⟩
        rw [hx, Int.toNat_natCast] at hcell
        have hgd : V.getD k 0 = x := hx
        have hb7 : decide ((k : Int) < (V.length : Int)) = true := by simpa using hi
        have HG := Aside0.mk hgd
        clear hx hgd
        obtain ⟨R, hR⟩ : ∃ R, idxG (fun z : S33 => z.f0 == x) l 0 = R := ⟨_, rfl⟩
        have HI := Aside0.mk hR
        have hlt := idxG_lt (fun z : S33 => z.f0 == x) l 0 (by omega)
        rw [hR] at hlt
        clear hR
        have HA := Aside0.mk (below_alloc (Below.refl wr.heap.size wr) (.cells #[.int .i64 x] 3 (0, 0)))
        have HAL := Aside0.mk (Kd.R_alloc HO.out (.cells #[.int .i64 x] 3 (0, 0)))
        have HWA := Aside0.mk (HW.out.trans (HA.out.mono HW.out.size))
        clear HA HO
        go_wp2_with fail
        refine (index_at _ wr.heap.size x (by simp [go_sem]) (by simp [go_sem]) A2 c2 l (Kd.C_below HR2.out HWA.out) (by omega) R HI.out).mono ?_
        rintro e w3 ⟨rfl, hw3⟩
        have HO := Aside0.mk (Kd.R_below HAL.out hw3)
        have HW3 := Aside0.mk (HWA.out.trans (hw3.mono HWA.out.size))
        clear HAL hw3 HWA HW
        have htk : (V.take k).map (agE l) ++ [agE l x] = (V.take (k + 1)).map (agE l) := by
          rw [List.take_succ_eq_append_getElem hi, List.map_append]
          have : V[k] = x := by rw [← HG.out, List.getD_eq_getElem?_getD, List.getElem?_eq_getElem hi]; rfl
          rw [this]; rfl
        have hll : ((V.take k).map (agE l)).length = k := by rw [List.length_map, List.length_take]; omega
        have hag : agE l x = if R < 0 then 0 else max 0 (rd_T33 l R).f1 := by unfold agE; rw [HI.out]
        have HTK := Aside0.mk htk
        have HLL := Aside0.mk hll
        clear htk hll HI
        rcases hlt with hm | ⟨h0, h1⟩
        · have hx0 : agE l x = 0 := by rw [hag, if_pos (by omega)]
          rw [hx0] at HTK
          have HTK0 := HTK
          subst hm
          clear hag hx0
          go_wp2_with ((with_reducible refine gate_builtin (b := .append) (xs := #[.tmp 24, .tmp 25]) rfl ?_); at_builtin; refine Kd.R_append (Kd.int .i64) (w0 := w) w.heap.size rfl (.tmp 24) (.tmp 25) 22 3 (.int .i64 0) 8 rfl Try.underlying22 info3 rfl (by decide) (by omega) u5 ((V.take k).map (agE l)) 0 [.int .i64 0] (fun _ => True) (fun _ => False) rfl rfl ?aP (fun _ hk => hk.elim) (fun _ _ => trivial) HO.out HW3.out HW3.out.size ?aL ?_; (case aP => exact rfl); (case aL => have := HLL.out; omega); intro v4 w4 ho hb hg hat; have HO4 := Aside0.mk ho; have HW4 := Aside0.mk hb; clear ho hb hg hat)
          go_roundg (gk - 1)
          case measure => omega
          case rel => exact ⟨k + 1, by omega, by go_num, ⟨by rw [← HTK0.out]; exact HO4.out⟩, HW4⟩
        · have hx0 : agE l x = max 0 (rd_T33 l R).f1 := by rw [hag, if_neg (by omega)]
          rw [hx0] at HTK
          have HTK0 := HTK
          obtain ⟨ad2, rfl, hc1, hc2⟩ := at_T33 (Kd.C_below HR2.out HW3.out) R h0 (by omega)
          obtain ⟨y, hy⟩ : ∃ y, (rd_T33 l R).f1 = y := ⟨_, rfl⟩
          rw [hy] at hc2 HTK0
          have h1' : R < (l.length : Int) := by omega
          have p0 := eq_true h0
          have p1 := eq_true h1'
          have p2 : decide (R < 0) = false := by simpa using h0
          clear hag hx0 hc1 hy HTK
          by_cases hy0 : 0 < y
          · rw [show max 0 y = y by omega] at HTK0
            have p3 := eq_true hy0
            go_wp2_with ((with_reducible refine gate_builtin (b := .append) (xs := #[.tmp 27, .tmp 34]) rfl ?_); at_builtin; refine Kd.R_append (Kd.int .i64) (w0 := w) w.heap.size rfl (.tmp 27) (.tmp 34) 22 3 (.int .i64 0) 8 rfl Try.underlying22 info3 rfl (by decide) (by omega) u5 ((V.take k).map (agE l)) y [.int .i64 y] (fun _ => True) (fun _ => False) rfl rfl ?aP (fun _ hk => hk.elim) (fun _ _ => trivial) HO.out HW3.out HW3.out.size ?aL ?_; (case aP => exact rfl); (case aL => have := HLL.out; omega); intro v4 w4 ho hb hg hat; have HO4 := Aside0.mk ho; have HW4 := Aside0.mk hb; clear ho hb hg hat)
            go_roundg (gk - 1)
            case measure => omega
            case rel => exact ⟨k + 1, by omega, by go_num, ⟨by rw [← HTK0.out]; exact HO4.out⟩, HW4⟩
          · rw [show max 0 y = 0 by omega] at HTK0
            have p3 := eq_false hy0
            go_wp2_with ((with_reducible refine gate_builtin (b := .append) (xs := #[.tmp 27, .tmp 34]) rfl ?_); at_builtin; refine Kd.R_append (Kd.int .i64) (w0 := w) w.heap.size rfl (.tmp 27) (.tmp 34) 22 3 (.int .i64 0) 8 rfl Try.underlying22 info3 rfl (by decide) (by omega) u5 ((V.take k).map (agE l)) 0 [.int .i64 0] (fun _ => True) (fun _ => False) rfl rfl ?aP (fun _ hk => hk.elim) (fun _ _ => trivial) HO.out HW3.out HW3.out.size ?aL ?_; (case aP => exact rfl); (case aL => have := HLL.out; omega); intro v4 w4 ho hb hg hat; have HO4 := Aside0.mk ho; have HW4 := Aside0.mk hb; clear ho hb hg hat)
            go_roundg (gk - 1)
            case measure => omega
            case rel => exact ⟨k + 1, by omega, by go_num, ⟨by rw [← HTK0.out]; exact HO4.out⟩, HW4⟩
      · have hk' : k = V.length := by omega
        subst hk'
        have hb7 : decide ((V.length : Int) < (V.length : Int)) = false := by simp
        rw [List.take_length] at HO
        go_wp2_with (go_at_call 48; refine (sort_R HO.out HW.out HW.out.size (by rw [List.length_map]; omega)).mono ?_; rintro e w4 ⟨rfl, ho4, hw4⟩; have HW4 := Aside0.mk hw4; obtain ⟨A4, c4, hv4, hcap, hC⟩ := Kd.R_reads ho4; rw [sortI_length, List.length_map] at hv4; subst hv4; obtain ⟨ad4, hA4, hcell⟩ := Kd.at_int hC (((V.length - 1) / 2 : Nat) : Int) (by omega) (by rw [sortI_length, List.length_map]; omega); rw [Int.toNat_natCast] at hcell; subst hA4; clear hC ho4 hw4 hcap)
        go_ret
        have hx : r = YthmamgnobcnhgaaW.PrintWords.rd (sortI (V.map (agE l))) (((V.length - 1) / 2 : Nat) : Int) := by rw [← HS.out, agreedB, H1.out, if_pos rfl]; unfold YthmamgnobcnhgaaW.PrintWords.rd; rw [Int.toNat_natCast]
        subst hx
        exact ⟨rfl, HW4.out⟩
theorem member_Agreed.calls (A0_0 : Option Addr) (c0_0 : Nat) (l0_0 : List Int) (A0_1 : Option Addr) (c0_1 : Nat) (l0_1 : List Int) (A1 : Option Addr) (c1 : Nat) (l1 : List (S33)) (r : Int) (w : World) (hr0_0 : Kd.C (Kd.int .i64) w A0_0 l0_0.length l0_0) (hc0_0 : l0_0.length ≤ c0_0) (hr0_1 : Kd.C (Kd.int .i64) w A0_1 l0_1.length l0_1) (hc0_1 : l0_1.length ≤ c0_1) (hr1 : Kd.C k33 w A1 l1.length l1) (hc1 : l1.length ≤ c1) (h : member_Agreed.f l0_0 l0_1 l1 = some r) :
    Calls Try.prog 23 #[.agg #[.slice A0_0 l0_0.length c0_0, .slice A0_1 l0_1.length c0_1], .slice A1 l1.length c1] w fun e w' => e = .returned (.int .i64 r) ∧ Below w.heap.size w w' := by
  unfold member_Agreed.f at h
  by_cases hc : l0_0.length ≤ 140737488355328 ∧ l0_1.length ≤ 140737488355328 ∧ l1.length ≤ 140737488355328
  · rw [if_pos hc] at h
    exact agreed_core _ _ _ _ _ _ _ _ _ w hr0_0 hc0_0 hr0_1 hc0_1 hr1 hc1 hc.1 hc.2.1 hc.2.2 r (Option.some.inj h)
  · rw [if_neg hc] at h; cases h
end Go.Proofs.Ythmamgnobcnhgaa.PM
