import Derived.Test.YtlbioffpcoikaaaWire9
import Derived.Deep.DeepAppendWide
import Derived.Test.YtlbioffpcoikaaaELive
namespace Go.Proofs.Ytlbioffpcoikaaa.PW
open Go.RowKit Go.Proofs.YtlbioffpcoikaaaW.PrintWords Go.Proofs.YtlbioffpcoikaaaW.PrintLast Go.Proofs.YtlbioffpcoikaaaW.PrintMore
set_option linter.unusedVariables false
set_option linter.unusedSimpArgs false
/-- append(v, ys...) of bytes, of up to 2 * 10 ^ 14 of them. -/
theorem append_wide {ops : Array Oper} {rest : List Oper} {o : Oper} {a : Act} {Q : Exit → Act → World → Prop} {w0 W : World} (base : Nat) (hgd : o.guard = none) (s x : Operand) (ho : o.op = .call { callee := .builtin .append, args := #[s, x], argTypes := #[22, 22] })
    (v : Value) (xs ys : List Int) (ad : Addr) (c : Nat) (hs : a.eval s = v) (hx : a.eval x = .slice (some ad) ys.length c) (HO : Kd.R (Kd.int .u8) 5 W base (fun _ => True) v xs) (HR : Kd.C (Kd.int .u8) W (some ad) ys.length ys)
    (HB : Below base w0 W) (hbase : base ≤ W.heap.size) (hl : xs.length + ys.length ≤ 200000000000000)
    (h : ∀ v1 w1, Kd.R (Kd.int .u8) 5 w1 base (fun _ => True) v1 (xs ++ ys) → Below base w0 w1 → wpList Try.prog ops Q rest (a.put o.dst v1) w1) : wpList Try.prog ops Q (o :: rest) a W := by
  obtain ⟨i0, hi0, hz0, hz1, hz2⟩ := info_parts info5
  have HW := Kd.own_of_R (enc := Value.int .u8) HO
  have hrow := HR.2.2
  refine wpList_append_own_wide W hgd s x 22 ho base 5 i0 (.int .u8 0) 1 1 Try.underlying22 hi0 hz0 hz1 hz2 rfl (by decide) v xs.length (encs (Value.int .u8) xs) hs HW ad ys.length c (encs (Value.int .u8) ys) hx (by simp [encs]) ?_ ?_ (by unfold maxLen; omega) (by omega) hbase ?_
  · intro j u hu
    have hj : j < ys.length := by
      have := (List.getElem?_eq_some_iff.1 hu).1
      simpa [encs] using this
    obtain ⟨ad', e, hc⟩ := hrow (by omega)
    cases e
    obtain ⟨cs, hcl, hK, hcc⟩ := hc j ys[j] (List.getElem?_eq_getElem hj)
    have hK' : cs = [.int .u8 ys[j]] := hK
    subst hK'
    have h1 := hcc 0 _ rfl
    have h2 : u = .int .u8 ys[j] := by
      simp only [encs, List.getElem?_map, List.getElem?_eq_getElem hj, Option.map_some, Option.some.injEq] at hu
      exact hu.symm
    rw [h2]
    have h3 : (Kd.int .u8).sz = 1 := rfl
    rw [h3, Nat.mul_one, Nat.add_zero] at h1
    exact h1
  · intro u hu
    simp only [encs, List.mem_map] at hu
    obtain ⟨y, _, rfl⟩ := hu
    rfl
  · intro v1 w1 ho1 hg1 _
    refine h v1 w1 (Kd.R_of_own (enc := Value.int .u8) (by rw [List.length_append, encs_append]; exact ho1) (fun _ _ => trivial)) ?_
    exact HB.grown hg1 hbase (fun k hk => own_base HW k hk)
set_option maxHeartbeats 4000000 in
set_option maxRecDepth 100000 in
theorem cuts_core (a0 a1 a2 a3 a4 a5 a6 a7 a8 : Int) (a9 : Bool) (A10 : Option Addr) (c10 : Nat) (l10 : List S34) (A11 : Option Addr) (c11 : Nat) (l11 : List Int) (k : Int) (A2 : Option Addr) (c2 : Nat) (l2 : List Int) (w : World)
    (hr10 : Kd.C k34 w A10 l10.length l10) (hc10 : l10.length ≤ c10) (hr11 : Kd.C (Kd.int .u8) w A11 l11.length l11) (hc11 : l11.length ≤ c11) (hr2 : Kd.C (Kd.int .u8) w A2 l2.length l2) (hc2 : l2.length ≤ c2)
    (hlen : l10.length ≤ 140737488355328) (hk0 : -9223372036854775808 ≤ k) (hk1 : k ≤ 9223372036854775807) (hb2 : okBytes l2 = true) (hl2 : l2.length ≤ 140737488355328) (hb11 : okBytes l11 = true) (hb10 : ∀ e ∈ l10, okBytes e.f3 = true) :
    Calls Try.prog 12 #[.agg #[.int .i64 a0, .int .i64 a1, .int .i64 a2, .int .i64 a3, .int .i64 a4, .int .i64 a5, .int .i64 a6, .int .i64 a7, .int .i64 a8, .bool a9, .slice A10 l10.length c10, .slice A11 l11.length c11], .int .i64 k, .slice A2 l2.length c2] w fun e w' => e = .returned (.bool true) ∧ Below w.heap.size w w' := by
  obtain ⟨l, er, hres⟩ : ∃ l er, putMsg a0 a1 a2 a3 a4 a5 a6 a7 a8 a9 l10 l11 = (l, er) := ⟨_, _, rfl⟩
  have HRES := Aside0.mk hres
  have HR10 := Aside0.mk hr10
  have HR11 := Aside0.mk hr11
  have HR2 := Aside0.mk hr2
  clear hres hr10 hr11 hr2
  go_enter Try.func12, Try.ntmps12
  go_wp2_with fail
  obtain ⟨W, hW⟩ : ∃ W, w.alloc (.cells #[.int .i64 a0, .int .i64 a1, .int .i64 a2, .int .i64 a3, .int .i64 a4, .int .i64 a5, .int .i64 a6, .int .i64 a7, .int .i64 a8, .bool a9, .slice A10 l10.length c10, .slice A11 l11.length c11] 40 (0, 0)) = W := ⟨_, rfl⟩
  have HB := Aside0.mk (show Below w.heap.size w W from by rw [← hW]; exact below_alloc (Below.refl _ _) _)
  refine (putMsg_core a0 a1 a2 a3 a4 a5 a6 a7 a8 a9 A10 c10 l10 A11 c11 l11 _ (Kd.C_below HR10.out (below_alloc (Below.refl _ _) _)) hc10 (Kd.C_below HR11.out (below_alloc (Below.refl _ _) _)) hc11 hlen (l, er) HRES.out).mono ?_
  rintro e w1 ⟨v, rfl, R1, B1⟩
  dsimp only at R1 ⊢
  have HB1 := Aside0.mk (below_step (below_alloc (Below.refl _ _) _) B1)
  obtain ⟨A, c, rfl, hcap, C1⟩ := Kd.R_reads R1
  have HC1 := Aside0.mk C1
  clear C1 R1 B1 HB hW
  by_cases her : er = 0
  · subst her
    obtain ⟨hA, hL⟩ := msgErr_zero.1 (show msgErr a0 a1 a2 a3 a4 a5 a6 a7 a8 l10 l11 = 0 from by
      have := HRES.out
      unfold putMsg at this
      by_cases h : msgErr a0 a1 a2 a3 a4 a5 a6 a7 a8 l10 l11 = 0
      · exact h
      · rw [if_neg h] at this; exact (Prod.mk.inj this).2)
    have hl : l = msgBytes a0 a1 a2 a3 a4 a5 a6 a7 a8 a9 l10 l11 := by
      have := HRES.out
      unfold putMsg at this
      rw [if_pos (msgErr_zero.2 ⟨hA, hL⟩)] at this
      exact (Prod.mk.inj this).1.symm
    obtain ⟨n4, n5⟩ := msgBytes_len (a9 := a9) hA hL
    rw [← hl] at n4 n5
    have hz : ((l.length : Int) == 0) = false := by simp; intro h; rw [h] at n4; simp at n4
    have HA := Aside0.mk hA
    have HL := Aside0.mk hL
    have HLL := Aside0.mk hl
    clear hA hL hl
    have hwk : 0 ≤ IntKind.u64.wrap k ∧ IntKind.u64.wrap k < 18446744073709551616 := by simp [IntKind.wrap, IntKind.signed, IntKind.bits, IntKind.min, IntKind.max]; omega
    have hqm : (IntKind.u64.wrap k).tmod l.length = IntKind.u64.wrap k % l.length := Int.tmod_eq_emod_of_nonneg hwk.1
    have hq0 : 0 ≤ IntKind.u64.wrap k % l.length := Int.emod_nonneg _ (by omega)
    have hq1 : IntKind.u64.wrap k % l.length < l.length := Int.emod_lt_of_pos _ (by omega)
    obtain ⟨p, hp⟩ : ∃ p, l.take (IntKind.u64.wrap k % l.length).toNat = p := ⟨_, rfl⟩
    have hpl : (p.length : Int) = IntKind.u64.wrap k % l.length := by rw [← hp, List.length_take]; omega
    have hq : wrap64 ((IntKind.u64.wrap k).tmod l.length) = (p.length : Int) := by rw [hqm, ← hpl]; exact wrap64_in (by omega)
    have hplt : p.length < l.length := by omega
    have hpl0 : (0 : Int) ≤ p.length := by omega
    have hpl1 : (p.length : Int) ≤ l.length := by omega
    have hcc : (l.length : Int) ≤ c := by omega
    have HCP := Aside0.mk (show Kd.C (Kd.int .u8) w1 A p.length p from by rw [← hp]; exact Kd.C_take HC1.out (by omega))
    have HRP := Aside0.mk (show refMsg p = msgZ 3 from by
      have := refMsg_cut (a9 := a9) (IntKind.u64.wrap k % l.length).toNat HA.out HL.out (by rw [← HLL.out]; omega)
      rw [← HLL.out, hp] at this
      exact this)
    have HOKL := Aside0.mk (show okBytes l = true from by rw [HLL.out]; exact msgBytes_ok HA.out HL.out (okBytes_mem hb11) (fun e he => okBytes_mem (hb10 e he)))
    have HOKP := Aside0.mk (show okLen p from ⟨by rw [← hp]; exact okBytes_of (fun x hx => okBytes_mem HOKL.out x (List.mem_of_mem_take hx)), by omega⟩)
    clear hwk hqm hq0 hq1 hp hpl
    go_wp2_with fail
    refine (getMsg_core A c p w1 HCP.out (by omega) HOKP.out _ HRP.out).mono ?_
    rintro e w2 ⟨ve, vd, rfl, S2, R2, B2⟩
    obtain ⟨Ae, ce, rfl⟩ := Kd.S_slice S2
    obtain ⟨Ad, cd, rfl⟩ := Kd.R_slice R2
    have HB2 := Aside0.mk (below_step HB1.out B2)
    have HCL := Aside0.mk (Kd.C_below HC1.out B2)
    clear S2 R2 B2 HCP HRP HOKP hq
    simp only [msgZ, List.length_nil]
    by_cases hn : l2.length = 0
    · have hn1 : ((l2.length : Int) == 0) = true := by simpa using hn
      go_wp2_with fail
      refine (tollgatelaw02_live.calls true _ rfl).mono ?_
      rintro e w3 ⟨rfl, B3⟩
      go_wp2
      go_ret
      exact ⟨rfl, below_step (below_alloc HB2.out _) B3⟩
    · have hn1 : ((l2.length : Int) == 0) = false := by simp; intro h; rw [h] at hn; exact hn rfl
      obtain ⟨ad, hA', _⟩ := HCL.out.2.2 (by omega)
      subst hA'
      obtain ⟨ad2, hA2', _⟩ := HR2.out.2.2 (by omega)
      subst hA2'
      have HW3 := Aside0.mk (below_alloc HB2.out (.cells #[.int .i64 0, .int .i64 0, .int .i64 0, .int .i64 0, .int .i64 0, .int .i64 0, .int .i64 0, .int .i64 0, .int .i64 0, .bool false, .slice Ae 0 ce, .slice Ad 0 cd] 40 (0, 0)))
      have hsz : (w2.alloc (.cells #[.int .i64 0, .int .i64 0, .int .i64 0, .int .i64 0, .int .i64 0, .int .i64 0, .int .i64 0, .int .i64 0, .int .i64 0, .bool false, .slice Ae 0 ce, .slice Ad 0 cd] 40 (0, 0))).heap.size = w2.heap.size + 1 := World.size_alloc _ _
      have HO0 := Aside0.mk (show Kd.R (Kd.int .u8) 5 ((w2.alloc (.cells #[.int .i64 0, .int .i64 0, .int .i64 0, .int .i64 0, .int .i64 0, .int .i64 0, .int .i64 0, .int .i64 0, .int .i64 0, .bool false, .slice Ae 0 ce, .slice Ad 0 cd] 40 (0, 0))).alloc (.cells #[] 5 (0, 0))) w.heap.size (fun _ => True) (.slice (some ⟨w2.heap.size + 1, 0, none⟩) 0 0) [] from by
        have := Kd.R_of_own (enc := Value.int .u8) (h1 := fun _ => rfl) (ok := fun _ => True) (xs := []) (World.ownsRow_lit (base := w.heap.size) (e := 5) (size := 1) (w2.alloc (.cells #[.int .i64 0, .int .i64 0, .int .i64 0, .int .i64 0, .int .i64 0, .int .i64 0, .int .i64 0, .int .i64 0, .int .i64 0, .bool false, .slice Ae 0 ce, .slice Ad 0 cd] 40 (0, 0))) #[] 0 HW3.out.size (by decide) rfl) (fun _ _ => trivial)
        rw [hsz] at this
        exact this)
      have HW4 := Aside0.mk (below_alloc HW3.out (.cells #[] 5 (0, 0)))
      have HL4 := Aside0.mk (Kd.C_alloc (Kd.C_alloc HCL.out (.cells #[.int .i64 0, .int .i64 0, .int .i64 0, .int .i64 0, .int .i64 0, .int .i64 0, .int .i64 0, .int .i64 0, .int .i64 0, .bool false, .slice Ae 0 ce, .slice Ad 0 cd] 40 (0, 0))) (.cells #[] 5 (0, 0)))
      have hb4 : l.length + l2.length ≤ 200000000000000 := by omega
      have hb5 : ([] : List Int).length + l.length ≤ 200000000000000 := by simp; omega
      clear hsz
      go_wp2_with (first
        | ((with_reducible refine gate_builtin (b := .append) (xs := #[.tmp 50, .tmp 51]) rfl ?_); at_builtin; refine append_wide (w0 := w) w.heap.size rfl (.tmp 50) (.tmp 51) rfl (.slice (some ⟨w2.heap.size + 1, 0, none⟩) 0 0) [] l ad c rfl rfl HO0.out HL4.out HW4.out HW4.out.size hb5 ?_; intro v5 w5 R5 B5; obtain ⟨A5, c5, rfl⟩ := Kd.R_slice R5; have HR5 := Aside0.mk (show Kd.R (Kd.int .u8) 5 w5 w.heap.size (fun _ => True) (.slice A5 l.length c5) l from R5); have HB5 := Aside0.mk B5; clear R5 B5)
        | ((with_reducible refine gate_builtin (b := .append) (xs := #[.tmp 52, .tmp 53]) rfl ?_); at_builtin; refine append_wide (w0 := w) w.heap.size rfl (.tmp 52) (.tmp 53) rfl (.slice A5 l.length c5) l l2 ad2 c2 (by first | rfl | simp [go_sem]) rfl HR5.out (Kd.C_below HR2.out HB5.out) HB5.out HB5.out.size hb4 ?_; intro v6 w6 R6 B6; obtain ⟨q, hq⟩ : ∃ q, l ++ l2 = q := ⟨_, rfl⟩; rw [hq] at R6; have HQ := Aside0.mk hq; clear hq; obtain ⟨A6, c6, rfl, hc6, C6⟩ := Kd.R_reads R6; have HC6 := Aside0.mk C6; have HB6 := Aside0.mk B6; clear R6 B6 C6)
        | fail)
      have hokq : okLen q := by
        rw [← HQ.out]
        exact ⟨okBytes_append HOKL.out hb2, by rw [List.length_append]; omega⟩
      have hmsg : refMsg q = msgZ 4 := by
        rw [← HQ.out, HLL.out, refMsg_put l2 HA.out HL.out, if_neg (fun h => hn (by rw [h]; rfl))]
      refine (getMsg_core A6 c6 q w6 HC6.out hc6 hokq _ hmsg).mono ?_
      rintro e w7 ⟨ve2, vd2, rfl, S7, R7, B7⟩
      obtain ⟨Af, cf, rfl⟩ := Kd.S_slice S7
      obtain ⟨Ag, cg, rfl⟩ := Kd.R_slice R7
      have HB7 := Aside0.mk (below_step HB6.out B7)
      clear S7 R7 B7 hokq hmsg
      simp only [msgZ, List.length_nil]
      go_wp2_with fail
      refine (tollgatelaw02_live.calls true _ rfl).mono ?_
      rintro e w8 ⟨rfl, B8⟩
      go_wp2
      go_ret
      exact ⟨rfl, below_step (below_alloc HB7.out _) B8⟩
  · have hb : (er != 0) = true := by simpa using her
    go_wp2_with fail
    refine (tollgatelaw02_live.calls true _ rfl).mono ?_
    rintro e w2 ⟨rfl, B2⟩
    go_wp2
    go_ret
    exact ⟨rfl, below_step HB1.out B2⟩
def cutsOk (l0_10 : List S34) (l0_11 : List Int) (a1 : Int) (l2 : List Int) : Bool :=
  decide (l0_10.length ≤ 140737488355328) && decide (-9223372036854775808 ≤ a1) && decide (a1 ≤ 9223372036854775807) && okBytes l2 && decide (l2.length ≤ 140737488355328) && okBytes l0_11 && l0_10.all fun e => okBytes e.f3
def tollgatelaw02_WireCuts.f (a0_0 : Int) (a0_1 : Int) (a0_2 : Int) (a0_3 : Int) (a0_4 : Int) (a0_5 : Int) (a0_6 : Int) (a0_7 : Int) (a0_8 : Int) (a0_9 : Bool) (l0_10 : List (S34)) (l0_11 : List Int) (a1 : Int) (l2 : List Int) : Option Bool :=
  if cutsOk l0_10 l0_11 a1 l2 = true then some true else none
theorem tollgatelaw02_WireCuts.calls (a0_0 : Int) (a0_1 : Int) (a0_2 : Int) (a0_3 : Int) (a0_4 : Int) (a0_5 : Int) (a0_6 : Int) (a0_7 : Int) (a0_8 : Int) (a0_9 : Bool) (A0_10 : Option Addr) (c0_10 : Nat) (l0_10 : List (S34)) (A0_11 : Option Addr) (c0_11 : Nat) (l0_11 : List Int) (a1 : Int) (A2 : Option Addr) (c2 : Nat) (l2 : List Int) (r : Bool) (w : World) (hr0_10 : Kd.C k34 w A0_10 l0_10.length l0_10) (hc0_10 : l0_10.length ≤ c0_10) (hr0_11 : Kd.C (Kd.int .u8) w A0_11 l0_11.length l0_11) (hc0_11 : l0_11.length ≤ c0_11) (hr2 : Kd.C (Kd.int .u8) w A2 l2.length l2) (hc2 : l2.length ≤ c2) (h : tollgatelaw02_WireCuts.f a0_0 a0_1 a0_2 a0_3 a0_4 a0_5 a0_6 a0_7 a0_8 a0_9 l0_10 l0_11 a1 l2 = some r) :
    Calls Try.prog 12 #[.agg #[.int .i64 a0_0, .int .i64 a0_1, .int .i64 a0_2, .int .i64 a0_3, .int .i64 a0_4, .int .i64 a0_5, .int .i64 a0_6, .int .i64 a0_7, .int .i64 a0_8, .bool a0_9, .slice A0_10 l0_10.length c0_10, .slice A0_11 l0_11.length c0_11], .int .i64 a1, .slice A2 l2.length c2] w fun e w' => e = .returned (.bool r) ∧ Below w.heap.size w w' := by
  unfold tollgatelaw02_WireCuts.f at h
  by_cases hc : cutsOk l0_10 l0_11 a1 l2 = true
  · rw [if_pos hc] at h
    obtain rfl := Option.some.inj h
    simp only [cutsOk, Bool.and_eq_true, decide_eq_true_eq, List.all_eq_true] at hc
    obtain ⟨⟨⟨⟨⟨⟨h1, h2⟩, h3⟩, h4⟩, h5⟩, h6⟩, h7⟩ := hc
    exact cuts_core _ _ _ _ _ _ _ _ _ _ _ _ _ _ _ _ _ _ _ _ w hr0_10 hc0_10 hr0_11 hc0_11 hr2 hc2 h1 h2 h3 h4 h5 h6 h7
  · rw [if_neg hc] at h; cases h
end Go.Proofs.Ytlbioffpcoikaaa.PW
