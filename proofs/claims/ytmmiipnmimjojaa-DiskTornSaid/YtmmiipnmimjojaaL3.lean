/- DiskTorn. -/
import Derived.Test.YtmmiipnmimjojaaL6
import Derived.Test.YtmmiipnmimjojaaR1
import Derived.Test.YtmmiipnmimjojaaQ4
import Derived.Deep.QuietTactic
import Derived.BigQuiet
namespace Go.Proofs.Ytmmiipnmimjojaa.PS
open Go.RowKit Go.Proofs.YtmmiipnmimjojaaW.PrintWords Go.Proofs.YtmmiipnmimjojaaW.PrintLast Go.Proofs.YtmmiipnmimjojaaW.PrintMore
open Go.Maps Go.Proofs.Ytmmiipnmimjojaa.PD
set_option linter.unusedVariables false
set_option linter.unusedSimpArgs false
def tw3 (a b : List Int) (at_ : Int) : Dsk := ⟨65536, [([102], ⟨layL a at_.toNat b, a, true, [⟨false, 0, at_, b⟩]⟩)]⟩
def tw4 (o : List Int) : Dsk := ⟨65536, [([102], ⟨o, o, true, []⟩)]⟩
def tornK (keep : Int) (b : List Int) : Int := max 0 (min keep b.length)
theorem torn1 (a b : List Int) (at_ : Int) (h : a.length ≤ 4000) (h' : b.length ≤ 4000) (h0 : 0 ≤ at_) (h1 : at_ ≤ a.length) : dWrite (sw2 a) sF at_ b = (0, tw3 a b at_) := by
  unfold dWrite
  rw [if_neg (by decide)]
  show dW2 (sw2 a) sF true ⟨a, a, true, []⟩ at_ b = _
  unfold dW2
  rw [if_neg (by show ¬ (at_ < 0 ∨ (a.length : Int) < at_); omega)]
  have hm : moreB ⟨a, a, true, []⟩ at_ b = max 0 (at_ + b.length - a.length) := rfl
  rw [hm, if_neg (by
    rintro (⟨h', _⟩ | h')
    · exact absurd h' (by decide)
    · have : (262144 : Int) < a.length + max 0 (at_ + b.length - a.length) := h'
      omega), if_neg (by show ¬ ((65536 : Int) < ((a.length + 0 : Nat) : Int) + max 0 (at_ + b.length - a.length)); omega)]
  rfl
theorem torn2 (a b : List Int) (at_ keep : Int) (h0 : 0 ≤ at_) (h1 : at_ ≤ a.length) : dCrash (tw3 a b at_) [keep] = tw4 (layL a at_.toNat (b.take (tornK keep b).toNat)) := by
  have hk : kOf [keep] 0 = max 0 keep := rfl
  have ha : aft (max 0 keep) [⟨false, 0, at_, b⟩] (a, 0) = (ap1 ⟨false, 0, at_, b⟩ a (min (b.length : Int) (max 0 keep - 0)), 0 + min (b.length : Int) (max 0 keep - 0)) := rfl
  have hm : min (b.length : Int) (max 0 keep - 0) = tornK keep b := by unfold tornK; omega
  have ho : ap1 ⟨false, 0, at_, b⟩ a (tornK keep b) = layL a at_.toNat (b.take (tornK keep b).toNat) := by
    by_cases hz : tornK keep b = 0
    · rw [hz, ap1_zero]
      exact (layL_nil (by omega)).symm
    · obtain ⟨m, hm'⟩ : ∃ m : Nat, tornK keep b = m := ⟨(tornK keep b).toNat, by unfold tornK at *; omega⟩
      rw [hm', ap1_lay _ _ _ _ (by omega)]
      rfl
  show (⟨65536, match crF ⟨layL a at_.toNat b, a, true, [⟨false, 0, at_, b⟩]⟩ (kOf [keep] 0) with | none => [] | some f' => [([102], f')]⟩ : Dsk) = _
  unfold crF
  rw [hk, if_neg (by rintro ⟨h, _⟩; cases h)]
  dsimp only
  rw [ha, hm, ho]
  rfl
theorem torn3 (o : List Int) : dRead (tw4 o) sF = (o, 0) := rfl
theorem lay_step (a b : List Int) (at_ i : Int) (x : Int) (h0 : 0 ≤ at_) (h1 : at_ ≤ a.length) (hi : 0 ≤ i) (hi2 : i < b.length) (hx : b.getD i.toNat 0 = x) :
    layL a at_.toNat (b.take (i + 1).toNat) = if at_ + i < ((layL a at_.toNat (b.take i.toNat)).length : Int) then (layL a at_.toNat (b.take i.toNat)).set (at_ + i).toNat x else layL a at_.toNat (b.take i.toNat) ++ [x] := by
  rw [← mkU_w _ _ _ h0 h1, ← mkU_w _ _ _ h0 h1, show (i + 1).toNat = i.toNat + 1 by omega, List.take_succ_eq_append_getElem (by omega), wU_append]
  rw [List.getD_eq_getElem?_getD, List.getElem?_eq_getElem (by omega)] at hx
  simp at hx
  rw [hx]
  show mkU (_ ++ [⟨false, at_ + ((b.take i.toNat).length : Int), x⟩]) a = _
  rw [mkU_snoc]
  unfold u1
  rw [if_neg (by simp), show at_ + ((b.take i.toNat).length : Int) = at_ + i by rw [List.length_take]; omega]
set_option maxHeartbeats 2000000 in
set_option maxRecDepth 100000 in
theorem torn_calls {W : World} {A B : Option Addr} {ca cb : Nat} {a b : List Int} {x y : Int} (hA : k8.C W A a.length a) (ha : a.length ≤ ca) (hB : k8.C W B b.length b) (hb : b.length ≤ cb)
    (hx : -9223372036854775808 ≤ x ∧ x ≤ 9223372036854775807) (hy : -9223372036854775808 ≤ y ∧ y ≤ 9223372036854775807) :
    Calls Try.prog 3 #[.slice A a.length ca, .slice B b.length cb, .agg #[.int .i64 x, .int .i64 y]] W fun e w' => e = .returned (.bool true) ∧ Below W.heap.size W w' := by
  have HA := Aside0.mk hA
  have HB := Aside0.mk hB
  have hb0 := below_alloc (Below.refl W.heap.size W) (.cells #[.int .i64 x, .int .i64 y] 23 (0, 0))
  clear hA hB
  by_cases h1 : (4000 : Int) < (a.length : Int)
  · go_enter Try.func3, Try.ntmps3
    go_wp2_with fail
    refine (live_calls _).mono ?_
    rintro e w' ⟨rfl, hbb⟩
    go_wp2
    go_ret
    exact ⟨rfl, below_step hb0 hbb⟩
  by_cases h2 : (4000 : Int) < (b.length : Int)
  · go_enter Try.func3, Try.ntmps3
    go_wp2_with fail
    refine (live_calls _).mono ?_
    rintro e w' ⟨rfl, hbb⟩
    go_wp2
    go_ret
    exact ⟨rfl, below_step hb0 hbb⟩
  have hal : a.length ≤ 4000 := by omega
  have hbl : b.length ≤ 4000 := by omega
  have HB0 := Aside0.mk hb0
  clear hb0
  go_enter Try.func3, Try.ntmps3
  go_wp2_with fail
  refine (dk_new 65536 (by decide) _).mono ?_
  rintro e w1 ⟨g, S1, rfl, d1⟩
  replace d1 : Dk _ w1 S1 g 0 sw0 := d1
  have D1 := Aside0.mk d1
  clear d1
  go_wp2_with fail
  have hbx := (D1.out.1.block W.heap.size (by show W.heap.size < (W.heap.push _).size; simp)).trans (blk_new W (.cells #[.int .i64 x, .int .i64 y] 23 (0, 0)))
  have hx0 : w1.cell? ⟨W.heap.size, 0, none⟩ = some (.int .i64 x) := blk_cell hbx 0
  have hx1 : w1.cell? ⟨W.heap.size, 1, none⟩ = some (.int .i64 y) := blk_cell hbx 1
  have hw1 : IntKind.i64.wrap ((a.length : Int) + 1) = (a.length : Int) + 1 := IntWalk.i64_in _ ⟨by omega, by omega⟩
  clear hbx
  go_quiet (fail)
  obtain ⟨z, hz⟩ : ∃ z, wrap64 ((IntKind.u64.wrap x).tmod ((a.length : Int) + 1)) = z := ⟨_, rfl⟩
  have hzb : 0 ≤ z ∧ z ≤ a.length := by
    have h1 : 0 ≤ IntKind.u64.wrap x := by
      show 0 ≤ x % 18446744073709551616
      omega
    have h2 := Int.tmod_nonneg ((a.length : Int) + 1) h1
    have h3 := Int.tmod_lt_of_pos (IntKind.u64.wrap x) (show 0 < (a.length : Int) + 1 by omega)
    rw [← hz]
    unfold wrap64
    omega
  obtain ⟨z0, z1⟩ := hzb
  rw [hz]
  have HZ := Aside0.mk hz
  clear hz hx0 hx1 hw1
  have D1' := Aside0.mk (D1.out.step (pw_below_drewN (Below.refl _ _) nq))
  clear D1
  go_wp2_with fail
  refine (dk_write (s := sF) (l := a) D1'.out (by decide) sw_sz.1 (Kd.C_below HA.out (below_step HB0.out D1'.out.1)) ha (by omega) (D1'.out.arg (W := W) HA.out HB0.out.size)).mono ?_
  rintro e w2 ⟨rfl, S2, d2, _, _⟩
  rw [swap1 a hal] at d2 ⊢
  dsimp only at d2
  go_wp2_with fail
  refine (dk_sync (s := sF) d2 (by decide) sw_sz.1).mono ?_
  rintro e w3 ⟨rfl, S3, d3, _, _⟩
  rw [swap2 a] at d3 ⊢
  dsimp only at d3
  go_wp2_with fail
  refine (dk_write (s := sF) (l := b) (at_ := z) d3 (by decide) sw_sz.1 (Kd.C_below HB.out (below_step HB0.out d3.1)) hb (by omega) (d3.arg (W := W) HB.out HB0.out.size)).mono ?_
  rintro e w4 ⟨rfl, S4, d4, _, _⟩
  rw [torn1 a b z hal hbl z0 z1] at d4 ⊢
  dsimp only at d4
  go_wp2_with fail
  refine (dk_crash (keep := [y]) (c := 1) (d4.step (below_alloc (Below.refl _ _) _)) (by decide) (C_lit .i64 w4 [y] 3 (by simp) (0, 0) rfl) (fun ad e _ hS => by cases e; have := d4.2.1 _ hS; dsimp only at this; omega) (by intro q hq; obtain rfl := List.mem_singleton.1 hq; exact hy.2)).mono ?_
  rintro e w5 ⟨rfl, S5, d5, _, _⟩
  rw [torn2 a b z y z0 z1] at d5
  have D5 := Aside0.mk d5
  clear d5 d4 d3 d2
  obtain ⟨K, hK⟩ : ∃ K, tornK y b = K := ⟨_, rfl⟩
  have hK' : max 0 (min y (b.length : Int)) = K := hK
  have hKb : 0 ≤ K ∧ K ≤ b.length := by unfold tornK at hK; omega
  obtain ⟨K0, K1⟩ := hKb
  rw [hK] at D5
  clear hK
  have HA5 := Aside0.mk (Kd.C_below HA.out (below_step HB0.out D5.out.1))
  go_wp2_with (first
    | ((with_reducible refine gate_dst (N := 61) rfl ?_); refine Kd.R_lit k8 _ 5 ?hg (N := 61) ?hd (xs := ([] : List Int)) (inner := []) (ok := fun _ => True) (okp := fun _ => True) ?hr ?hp (fun _ hk => hk) trivial (Below.refl _ _) (Nat.le_refl _) (by simp) ?_; (case hd => rfl); (case hg => rfl); (case hr => first | (go_simp; done) | (go_simp; rfl)); (case hp => exact (Reps.none _ _)); intro v6 w6 ho6 hb6 hg_ hnew_; have HO6 := Aside0.mk ho6; have HB6 := Aside0.mk hb6; clear hg_ hnew_ ho6 hb6)
    | ((with_reducible refine gate_dst (N := 63) rfl ?_); refine Kd.R_append_rows k8 (w0 := w5) w5.heap.size (by rfl) (.tmp 61) (.tmp 62) 22 5 (.int .u8 0) 1 (by rfl) Try.underlying22 info5 (by rfl) (by decide) (by decide) _ [] a A a.length ca (fun _ => True) (fun _ => False) (by rfl) (by rfl) HO6.out (Kd.C_below HA5.out HB6.out) (fun _ _ h => h) (fun _ h => h.elim) (fun _ _ => trivial) HB6.out HB6.out.size (by rw [List.length_nil]; omega) ?_; intro v7 w7 hR hb7 hg hat; have HO7 := Aside0.mk hR; have HB7 := Aside0.mk hb7; clear hR hb7 hg hat))
  clear hK'
  rw [List.nil_append] at HO7
  have hz0l : layL a z.toNat (b.take (0 : Int).toNat) = a := layL_nil (by omega)
  go_loopg [11, 12] K.toNat (fun q v11 v12 w' => ∃ i : Int, v12 = .int .i64 i ∧ 0 ≤ i ∧ i + q = K ∧ Aside0 (k8.R 5 w' w5.heap.size (fun _ => True) v11 (layL a z.toNat (b.take i.toNat))) ∧ Aside0 (Below w5.heap.size w5 w'))
  case atStart => exact ⟨0, rfl, by omega, by omega, ⟨by rw [hz0l]; exact HO7.out⟩, HB7⟩
  case round =>
    clear HO7 HB7 HO6 HB6 hz0l
    obtain ⟨i, rfl, i0, i1, HR, HBB⟩ := hrel
    by_cases hi : i < K
    · have c6 : decide (i < K) = true := decide_eq_true hi
      have hib : i < (b.length : Int) := by omega
      obtain ⟨x', hx'⟩ : ∃ x', b.getD i.toNat 0 = x' := ⟨_, rfl⟩
      have hst := lay_step a b z i x' z0 z1 i0 hib hx'
      have hne : b ≠ [] := fun e => by subst e; simp at hib; omega
      obtain ⟨ab, rfl⟩ := C_some HB.out hne
      have hCb := Kd.C_below HB.out (below_step (below_step HB0.out D5.out.1) HBB.out)
      have hxc := cellI hCb i0 hib hx'
      have hll : (layL a z.toNat (b.take i.toNat)).length ≤ 8000 := by rw [layL_len _ _ _ (by omega), List.length_take]; omega
      obtain ⟨L, hL⟩ : ∃ L, layL a z.toNat (b.take i.toNat) = L := ⟨_, rfl⟩
      rw [hL] at hst hll HR
      have HR' := HR.out
      obtain ⟨AL, cL, rfl⟩ := Kd.R_slice HR'
      have hnz : IntKind.i64.wrap (z + i) = z + i := IntWalk.i64_in _ ⟨by omega, by omega⟩
      have hni : IntKind.i64.wrap (i + 1) = i + 1 := IntWalk.i64_in _ ⟨by omega, by omega⟩
      have p0 := eq_true i0
      have p1 := eq_true hib
      have HCS := Aside0.mk hst
      clear hst hne hCb hx' hL hib
      by_cases hlt : z + i < (L.length : Int)
      · have c7 : decide (z + i < (L.length : Int)) = true := decide_eq_true hlt
        obtain ⟨gL, cap, e9, hgb, hgl, cl, hgc⟩ := Kd.R_form HR' (by omega)
        injection e9 with ea en ec
        subst ea
        subst ec
        clear en
        have hzi : 0 ≤ z + i := by omega
        obtain ⟨hcell, hfr⟩ := Kd.R_celln 0 HR' (z + i) hzi hlt
        have hput := Kd.R_putg HR' (z + i) x'
        have HPUT := Aside0.mk hput
        have HFA := Aside0.mk hlt
        rw [if_pos hlt] at HCS
        have p2 := eq_true hzi
        have p3 := eq_true hlt
        clear HR' hput hlt hgc
        go_wp2_with fail
        go_roundg (gk - 1)
        case measure => omega
        case rel => exact ⟨i + 1, rfl, by omega, by omega, ⟨by rw [HCS.out]; exact HPUT.out.1⟩, ⟨below_set HBB.out hgb⟩⟩
      · have c7 : decide (z + i < (L.length : Int)) = false := decide_eq_false hlt
        have HFA := Aside0.mk hlt
        rw [if_neg hlt] at HCS
        clear HR' hlt
        go_wp2_with ((with_reducible refine gate_builtin (b := .append) (xs := #[.tmp 84, .tmp 89]) rfl ?_); at_builtin; refine Kd.R_append k8 (w0 := w5) w5.heap.size rfl (.tmp 84) (.tmp 89) 22 5 (.int .u8 0) 1 rfl Try.underlying22 info5 rfl (by decide) (by omega) (.slice AL L.length cL) L x' [.int .u8 x'] (fun _ => True) (fun _ => False) rfl rfl ?aP (fun _ hk => hk.elim) (fun _ _ => trivial) HR.out HBB.out HBB.out.size ?aL ?_; (case aP => exact rfl); (case aL => omega); intro v8 w8 ho hb8 hg hat; have HO8 := Aside0.mk ho; have HB8 := Aside0.mk hb8; clear ho hb8 hg hat)
        go_roundg (gk - 1)
        case measure => omega
        case rel => exact ⟨i + 1, rfl, by omega, by omega, ⟨by rw [HCS.out]; exact HO8.out⟩, HB8⟩
    · have hiK : i = K := by omega
      subst hiK
      have c6 : decide (i < i) = false := decide_eq_false hi
      have hD := D5.out.step HBB.out
      have HRR := HR.out
      obtain ⟨L, hL⟩ : ∃ L, layL a z.toNat (b.take i.toNat) = L := ⟨_, rfl⟩
      rw [hL] at hD HRR
      obtain ⟨AL, cL, rfl⟩ := Kd.R_slice HRR
      have HD := Aside0.mk hD
      have hcs : ∀ (A : Option Addr) (c : Nat) (l : List Int) (w : World), k8.C w A l.length l → (convert 22 9 (.slice A l.length c)).run Try.prog w = .ok (.string (strOfNums l)) w := fun A c l w h => Kd.C_string Try.underlying22 Try.underlying5 Try.underlying9 h
      clear hD hL c6 HR
      have HR := Aside0.mk HRR
      clear HRR
      go_wp2_with fail
      refine (dk_read (s := sF) HD.out (by decide) sw_sz.1).mono ?_
      rintro e w8 ⟨A8, c8, rfl, hr8, hb8⟩
      rw [torn3 L] at hr8 ⊢
      dsimp only at hr8
      have HR8 := Aside0.mk hr8
      have HB8 := Aside0.mk hb8
      clear hr8 hb8
      go_wp2_with fail
      refine (live_calls _).mono ?_
      rintro e w9 ⟨rfl, hb9⟩
      have hc8 := hcs A8 c8 L w9 (Kd.C_below (Kd.R_reads' HR8.out).2.2 hb9)
      have hcL := hcs AL cL L w9 (Kd.C_below (Kd.C_below (Kd.R_reads' HR.out).2.2 HB8.out) hb9)
      have HB9 := Aside0.mk hb9
      clear hb9 hcs
      go_wp2_with fail
      go_ret
      exact ⟨rfl, below_step (below_step HB0.out (below_step HD.out.1 HB8.out)) HB9.out⟩
end Go.Proofs.Ytmmiipnmimjojaa.PS
