/- The texts of this claim's seat, joined: part 11. -/
import Derived.Test.YtmmiipnmimjojaaJ10
import Derived.ScopeJumps
import Derived.WalkMore
import Derived.WalkSpells
import Derived.WalkLawsBesides
section
/- frame.All. -/
namespace Go.Proofs.Ytmmiipnmimjojaa.PS
open Go.RowKit Go.Proofs.YtmmiipnmimjojaaW.PrintWords Go.Proofs.YtmmiipnmimjojaaW.PrintLast Go.Proofs.YtmmiipnmimjojaaW.PrintMore
set_option linter.unusedVariables false
set_option linter.unusedSimpArgs false
/-- Rows of rows: each a row of bytes of its own. -/
def RowsR (w : World) (base : Nat) : List (List Value) → List (List Int) → Prop
  | [], [] => True
  | r :: rs, q :: qs => (∃ v, r = [v] ∧ k8.R 5 w base (fun _ => True) v q) ∧ RowsR w base rs qs
  | _, _ => False
theorem RowsR.imp {w w' : World} {base : Nat} (hi : ∀ v q, k8.R 5 w base (fun _ => True) v q → k8.R 5 w' base (fun _ => True) v q) : ∀ {rs : List (List Value)} {qs : List (List Int)}, RowsR w base rs qs → RowsR w' base rs qs
  | [], [], h => trivial
  | _ :: _, _ :: _, ⟨⟨v, e, hr⟩, h⟩ => ⟨⟨v, e, hi v _ hr⟩, RowsR.imp hi h⟩
  | [], _ :: _, h => h.elim
  | _ :: _, [], h => h.elim
theorem RowsR.snoc {w : World} {base : Nat} {v : Value} {q : List Int} (hr : k8.R 5 w base (fun _ => True) v q) : ∀ {rs : List (List Value)} {qs : List (List Int)}, RowsR w base rs qs → RowsR w base (rs ++ [[v]]) (qs ++ [q])
  | [], [], h => ⟨⟨v, rfl, hr⟩, trivial⟩
  | _ :: _, _ :: _, ⟨h0, h⟩ => ⟨h0, RowsR.snoc hr h⟩
  | [], _ :: _, h => h.elim
  | _ :: _, [], h => h.elim
theorem RowsR.len {w : World} {base : Nat} : ∀ {rs : List (List Value)} {qs : List (List Int)}, RowsR w base rs qs → rs.length = qs.length
  | [], [], h => rfl
  | _ :: _, _ :: _, ⟨_, h⟩ => by simp [RowsR.len h]
  | [], _ :: _, h => h.elim
  | _ :: _, [], h => h.elim
/-- What is less than a whole frame. -/
def Torn (t : List Int) : Prop := t.length < 8 ∨ ∃ (n : Int) (rest : List Int), t = be4 n ++ rest ∧ 0 ≤ n ∧ n ≤ 65536 ∧ (t.length : Int) < 8 + n
/-- Frames one behind another. -/
def framesB (qs : List (List Int)) : List Int := (qs.map frameB).flatten
theorem framesB_cons (q : List Int) (qs : List (List Int)) : framesB (q :: qs) = frameB q ++ framesB qs := rfl
theorem framesB_len : ∀ qs : List (List Int), 8 * qs.length ≤ (framesB qs).length
  | [] => Nat.zero_le _
  | q :: qs => by
    have := framesB_len qs
    rw [framesB_cons, List.length_append, frameB_len, List.length_cons]
    omega
/-- A row of slices' block is none of bytes. -/
theorem row_apart {w w1 : World} {base b1 : Nat} {v v4 : Value} {q : List Int} {rows : List (List Value)} (h4 : (Kd.raw 1).R 22 w b1 (fun _ => True) v4 rows) (hg : w.grownBy w1 v4.ownBlock) (hr : k8.R 5 w base (fun _ => True) v q) : k8.R 5 w1 base (fun _ => True) v q := by
  have hb := Kd.R_bound hr
  refine Kd.R_mono (Kd.R_grown hb hg ?_) (fun _ _ => trivial)
  rintro k ⟨_, _, _, e, he, cs, hc⟩ hk
  obtain ⟨_, _, _, e2, he2, cs2, hc2⟩ := (Kd.R_bound h4).1 k hk.symm
  rw [hc] at hc2
  have e5 : e = 5 := by
    rcases List.mem_cons.1 he with h | h
    · exact h
    · exact absurd (show e ∈ ([] : List TypeId) from h) (List.not_mem_nil)
  have e22 : e2 = 22 := by
    rcases List.mem_cons.1 he2 with h | h
    · exact h
    · exact absurd (show e2 ∈ ([] : List TypeId) from h) (List.not_mem_nil)
  rw [e5, e22] at hc2
  simp at hc2
theorem info22 : (Try.prog.info? 22).map (fun i => (i.zero, i.size, i.bytes)) = some (some (.slice none 0 0), 1, 24) := by kernel_rfl
set_option maxHeartbeats 4000000 in
set_option maxRecDepth 100000 in
theorem all_calls {W : World} {A : Option Addr} {c : Nat} {l tail : List Int} {qs : List (List Int)} (hA : k8.C W A l.length l) (hc : l.length ≤ c) (hb : l.length ≤ 1000000000) (hl : l = framesB qs ++ tail) (hq : ∀ q ∈ qs, q.length ≤ 65536) (ht : Torn tail) :
    Calls Try.prog 68 #[.slice A l.length c] W fun e w' => ∃ v1 rows, e = .returned (.tuple #[v1, .int .i64 ((l.length : Int) - tail.length)]) ∧ (Kd.raw 1).R 22 w' W.heap.size (fun _ => True) v1 rows ∧ RowsR w' W.heap.size rows qs ∧ Below W.heap.size W w' := by
  have HC := Aside0.mk hA
  have HL := Aside0.mk hl
  have HQ := Aside0.mk hq
  have HT := Aside0.mk ht
  clear hA hl hq ht
  go_enter Try.func68, Try.ntmps68
  go_wp2_with fail
  go_loopg [4, 5] qs.length (fun kq v4 v5 w' => ∃ (pre post : List (List Int)) (n : Nat) (rows : List (List Value)), v5 = .int .i64 n ∧ Aside0 (qs = pre ++ post) ∧ post.length = kq ∧ n ≤ l.length ∧ Aside0 (l.drop n = framesB post ++ tail) ∧ Aside0 ((Kd.raw 1).R 22 w' W.heap.size (fun _ => True) v4 rows) ∧ Aside0 (RowsR w' W.heap.size rows pre) ∧ Aside0 (Below W.heap.size W w'))
  case atStart => exact ⟨[], qs, 0, [], rfl, ⟨rfl⟩, rfl, Nat.zero_le _, ⟨HL.out⟩, ⟨Kd.R_nil _ _ _ _ _⟩, ⟨trivial⟩, ⟨Below.refl _ _⟩⟩
  case round =>
    obtain ⟨pre, post, n, rows, rfl, HP, hk, hn, HD, HR, HRR, HB⟩ := hrel
    cases post with
    | nil =>
      have hd : l.drop n = tail := HD.out
      have hln : l.length - n = tail.length := by rw [← hd, List.length_drop]
      have htt : l.length - n < 8 ∨ ∃ (m : Int) (rest : List Int), l.drop n = be4 m ++ rest ∧ 0 ≤ m ∧ m ≤ 65536 ∧ (l.length : Int) - n < 8 + m := by
        rcases HT.out with h | ⟨m, rest, h1, h2, h3, h4⟩
        · exact .inl (by omega)
        · exact .inr ⟨m, rest, by rw [hd, h1], h2, h3, by omega⟩
      have HTT := Aside0.mk htt
      have HN := Aside0.mk hln
      clear hd hln htt
      go_wp2_with fail
      refine (next_torn (Kd.C_below HC.out HB.out) hc hn hb HTT.out).mono ?_
      rintro e w2 ⟨rfl, rfl⟩
      go_wp2_with fail
      go_ret2
      have hp := HP.out
      rw [List.append_nil] at hp
      refine ⟨_, rows, ?_, HR.out, by rw [hp]; exact HRR.out, HB.out⟩
      have := HN.out
      rw [show (n : Int) = (l.length : Int) - tail.length by omega]
      rfl
    | cons q post =>
      have hd : l.drop n = frameB q ++ (framesB post ++ tail) := by rw [HD.out, framesB_cons, List.append_assoc]
      have hqq : q.length ≤ 65536 := HQ.out q (by rw [HP.out]; simp)
      have hln : l.length - n = 8 + q.length + (framesB post ++ tail).length := by rw [← List.length_drop, hd, List.length_append, frameB_len]
      have hd2 : l.drop (n + 8 + q.length) = framesB post ++ tail := by
        rw [show n + 8 + q.length = n + (frameB q).length by rw [frameB_len]; omega, ← List.drop_drop, hd, List.drop_left]
      have HD1 := Aside0.mk hd
      have HD2 := Aside0.mk hd2
      have hn2 : n + 8 + q.length ≤ l.length := by omega
      clear hd hd2 hln
      go_wp2_with fail
      refine (next_calls (Kd.C_below HC.out HB.out) hc hn HD1.out hqq hb).mono ?_
      rintro e w2 ⟨v1, rfl, hR1, hB1⟩
      have HR1 := Aside0.mk (Kd.R_lower hR1 HB.out.size)
      have HB1 := Aside0.mk (below_step HB.out hB1)
      have HRw := Aside0.mk (Kd.R_below HR.out hB1)
      have HRR1 := Aside0.mk (HRR.out.imp (fun v q h => Kd.R_below h hB1))
      clear hR1 hB1
      have hrl : rows.length ≤ 1000000000 := by
        have h1 := HRR.out.len
        have h2 := framesB_len qs
        have h3 : l.length = (framesB qs).length + tail.length := by rw [HL.out, List.length_append]
        have h4 : qs.length = pre.length + (post.length + 1) := by rw [HP.out, List.length_append, List.length_cons]
        omega
      have HRLn := Aside0.mk hrl
      clear hrl
      obtain ⟨A1, k1, rfl⟩ := Kd.R_slice HR1.out
      obtain ⟨A4, k4, rfl⟩ := Kd.R_slice HRw.out
      have HONE : Aside0 (∀ u ∈ [Value.slice A1 q.length k1], u.oneCell' = true) := ⟨by
        intro u hu
        rw [List.mem_singleton.1 hu]
        rfl⟩
      go_wp2_with ((with_reducible refine gate_builtin (b := .append) (xs := #[.tmp 20, .tmp 22]) rfl ?_); at_builtin; refine Kd.R_append (Kd.raw 1) (w0 := W) W.heap.size rfl (.tmp 20) (.tmp 22) 129 22 (.slice none 0 0) 24 rfl Try.underlying129 info22 rfl (by decide) (by omega) (.slice A4 rows.length k4) rows [.slice A1 q.length k1] [.slice A1 q.length k1] (fun _ => True) (fun _ => False) rfl rfl ?aP (fun _ hk => hk.elim) (fun _ _ => trivial) HRw.out HB1.out HB1.out.size ?aL ?_; (case aP => exact ⟨rfl, rfl, HONE.out⟩); (case aL => have := HRLn.out; omega); intro v5 w5 ho hb5 hg hat; have HO5 := Aside0.mk ho; have HB5 := Aside0.mk hb5; have HG5 := Aside0.mk hg; clear ho hb5 hg hat)
      go_roundg (gk - 1)
      case measure => simp only [List.length_cons] at hk; omega
      case rel =>
        refine ⟨pre ++ [q], post, n + 8 + q.length, rows ++ [[.slice A1 q.length k1]], by push_cast; rfl, ⟨by rw [HP.out, List.append_assoc]; rfl⟩, by simp only [List.length_cons] at hk; omega, hn2, HD2, HO5, ⟨?_⟩, HB5⟩
        exact RowsR.snoc (row_apart HRw.out HG5.out HR1.out) (HRR1.out.imp (fun v q h => row_apart HRw.out HG5.out h))
end Go.Proofs.Ytmmiipnmimjojaa.PS
end
section
/- wal.record. -/
namespace Go.Proofs.Ytmmiipnmimjojaa.PS
open Go.RowKit Go.Proofs.YtmmiipnmimjojaaW.PrintWords Go.Proofs.YtmmiipnmimjojaaW.PrintLast Go.Proofs.YtmmiipnmimjojaaW.PrintMore
set_option linter.unusedVariables false
set_option linter.unusedSimpArgs false
set_option maxHeartbeats 2000000 in
set_option maxRecDepth 100000 in
theorem record_calls {W : World} {A : Option Addr} {c : Nat} {b : List Int} (k : Int) (hA : k8.C W A b.length b) (hc : b.length ≤ c) (hl : b.length ≤ 65535) :
    Calls Try.prog 71 #[.int .u8 k, .slice A b.length c] W fun e w' => ∃ v1, e = .returned v1 ∧ k8.R 5 w' W.heap.size (fun _ => True) v1 (frameB (k :: b)) ∧ Below W.heap.size W w' := by
  have HC := Aside0.mk hA
  clear hA
  go_enter Try.func71, Try.ntmps71
  go_wp2_with (first
    | ((with_reducible refine gate_dst (N := 9) rfl ?_); refine Kd.R_lit k8 (w0 := W) W.heap.size 5 ?hg (N := 9) ?hd (xs := [k]) (inner := [.int .u8 k]) (ok := fun _ => True) (okp := fun _ => True) ?hr ?hp (fun _ hk => hk) trivial (Below.refl _ _) (Nat.le_refl _) (by simp) ?_; (case hd => rfl); (case hg => rfl); (case hr => first | (go_simp; done) | (go_simp; rfl)); (case hp => exact Reps.snoc (Reps.none _ _) rfl rfl); intro v0 w0 ho hb hg_ hnew_; obtain ⟨A0, k0, rfl⟩ := Kd.R_slice ho; have HO := Aside0.mk ho; have HB := Aside0.mk hb; clear ho hb hg_ hnew_)
    | ((with_reducible refine gate_builtin (b := .append) (xs := #[.tmp 9, .tmp 10]) rfl ?_); at_builtin; refine Kd.R_append_rows k8 (w0 := W) W.heap.size (by rfl) (.tmp 9) (.tmp 10) 22 5 (.int .u8 0) 1 (by rfl) Try.underlying22 info5 (by rfl) (by decide) (by decide) _ [k] b A b.length c (fun _ => True) (fun _ => False) (by rfl) (by rfl) HO.out (Kd.C_below HC.out HB.out) (fun _ _ h => h) (fun _ h => h.elim) (fun _ _ => trivial) HB.out HB.out.size (by simp; omega) ?_; intro v1 w1 hR hb1 hg hat; obtain ⟨X, hX⟩ : ∃ X, [k] ++ b = X := ⟨_, rfl⟩; rw [hX] at hR; have HX := Aside0.mk hX; clear hX; obtain ⟨A1, k1, rfl⟩ := Kd.R_slice hR; have HO1 := Aside0.mk hR; have HB1 := Aside0.mk hb1; clear hR hb1 hg hat)
    | fail)
  have hXl : X.length ≤ 65536 := by have h := HX.out; rw [← h]; simp only [List.length_append, List.length_cons, List.length_nil]; omega
  have hxc := Kd.R_reads' HO1.out
  refine (frame_calls hxc.2.2 hxc.2.1 hXl).mono ?_
  rintro e w2 ⟨v2, rfl, hR2, hB2⟩
  have HR2 := Aside0.mk hR2
  have HB2 := Aside0.mk hB2
  clear hR2 hB2 hxc hXl
  go_wp2_with fail
  go_ret
  refine ⟨_, rfl, ?_, below_step HB1.out HB2.out⟩
  have := Kd.R_lower HR2.out HB1.out.size
  rw [← HX.out] at this
  exact this
end Go.Proofs.Ytmmiipnmimjojaa.PS
end
section
namespace Go.Proofs.Ytmmiipnmimjojaa.PS
open Go.RowKit Go.Proofs.YtmmiipnmimjojaaW.PrintWords Go.Proofs.YtmmiipnmimjojaaW.PrintLast Go.Proofs.YtmmiipnmimjojaaW.PrintMore
set_option linter.unusedVariables false
set_option linter.unusedSimpArgs false

def okBytes (l : List Int) : Bool := l.all fun x => decide (0 ≤ x) && decide (x < 256)
def takeGo (l : List Int) (at_ : Int) : Nat → Int → Int → Int × Int × Int
  | 0, _, _ => (0, 0, 6)
  | m + 1, k, n =>
    if at_ + k = l.length then (0, 0, 3) else
      if rd l (at_ + k) ≥ 128 then (if k + 1 = 6 then (0, 0, 6) else takeGo l at_ m (k + 1) (n + (rd l (at_ + k) % 128) * 128 ^ k.toNat))
      else if rd l (at_ + k) = 0 ∧ 0 < k then (0, 0, 4)
      else if n + (rd l (at_ + k) % 128) * 128 ^ k.toNat > 1099511627776 then (0, 0, 6)
      else (n + (rd l (at_ + k) % 128) * 128 ^ k.toNat, at_ + k + 1, 0)
def takeNum (l : List Int) (at_ : Int) : Int × Int × Int := if at_ < 0 then (0, 0, 2) else if at_ > l.length then (0, 0, 2) else takeGo l at_ 6 0 0


theorem ofInt_i64 (a : Nat) (ha : a < 9223372036854775808) : (BitVec.ofInt 64 (a : Int)).toNat = a := by
  rw [BitVec.ofInt_natCast, BitVec.toNat_ofNat]; exact Nat.mod_eq_of_lt (by omega)
theorem i64_and_nat (a b : Nat) (ha : a < 9223372036854775808) (hb : b < 9223372036854775808) : bits .and .i64 (a : Int) (b : Int) = ((a &&& b : Nat) : Int) := by
  have hx : a &&& b < 2 ^ 63 := Nat.and_lt_two_pow _ (by omega)
  show IntKind.i64.wrap ((BitVec.ofInt 64 (a : Int) &&& BitVec.ofInt 64 (b : Int)).toNat : Int) = _
  rw [BitVec.toNat_and, ofInt_i64 a ha, ofInt_i64 b hb, IntKind.wrap_i64]
  omega
theorem i64_or_nat (a b : Nat) (ha : a < 9223372036854775808) (hb : b < 9223372036854775808) : bits .or .i64 (a : Int) (b : Int) = ((a ||| b : Nat) : Int) := by
  have hx : a ||| b < 2 ^ 63 := Nat.or_lt_two_pow (by omega) (by omega)
  show IntKind.i64.wrap ((BitVec.ofInt 64 (a : Int) ||| BitVec.ofInt 64 (b : Int)).toNat : Int) = _
  rw [BitVec.toNat_or, ofInt_i64 a ha, ofInt_i64 b hb, IntKind.wrap_i64]
  omega
theorem and127 (c : Int) (h0 : 0 ≤ c) (h1 : c ≤ 9223372036854775807) : bits .and .i64 c 127 = c % 128 := by
  obtain ⟨m, rfl⟩ := Int.eq_ofNat_of_zero_le h0
  have h := i64_and_nat m 127 (by omega) (by omega)
  rw [show ((127 : Nat) : Int) = 127 from rfl] at h
  rw [h, show (127 : Nat) = 2 ^ 7 - 1 from rfl, Nat.and_two_pow_sub_one_eq_mod]
  omega
theorem or_step (i : Nat) (M : Int) (hM : M = ((2 ^ i : Nat) : Int)) (hi : i ≤ 35) (n c : Int) (hn0 : 0 ≤ n) (hn1 : n < M) (h0 : 0 ≤ c) (h1 : c ≤ 255) :
    bits .or .i64 n (wrap64 (bits .and .i64 c 127 * M)) = n + c % 128 * M := by
  have hp : 2 ^ i ≤ 2 ^ 35 := Nat.pow_le_pow_right (by omega) hi
  obtain ⟨m, rfl⟩ := Int.eq_ofNat_of_zero_le hn0
  obtain ⟨d, rfl⟩ := Int.eq_ofNat_of_zero_le h0
  subst hM
  rw [and127 d (by omega) (by omega)]
  have e1 : ((d : Int) % 128 * ((2 ^ i : Nat) : Int)) = ((d % 128 * 2 ^ i : Nat) : Int) := by push_cast; rfl
  have hd : d % 128 * 2 ^ i ≤ 127 * 2 ^ 35 := Nat.mul_le_mul (by omega) hp
  rw [e1]
  have e2 : wrap64 ((d % 128 * 2 ^ i : Nat) : Int) = ((d % 128 * 2 ^ i : Nat) : Int) := by unfold wrap64; omega
  rw [e2, i64_or_nat _ _ (by omega) (by omega)]
  have e3 : m ||| d % 128 * 2 ^ i = m + d % 128 * 2 ^ i := by
    rw [Nat.or_comm, Nat.mul_comm, ← Nat.two_pow_add_eq_or_of_lt (by omega : m < 2 ^ i), Nat.add_comm]
  rw [e3]
  push_cast
  rfl
def J17 (w : World) (l0 : List Int) (A0 : Option Addr) (c0 : Nat) (a1 : Int) (R : Int × Int × Int) (a' : Act) (w' : World) : Prop :=
  w' = w ∧ ∃ (k : Nat) (n : Int) (x0 x1 x2 x3 x4 x5 x6 x7 x8 x9 x10 x11 x12 x13 x14 x15 x16 x17 x18 x19 x20 x21 x22 x23 x24 x25 x26 x27 x28 x29 x30 x31 x32 x33 x34 x35 x36 x37 x38 x39 x40 x41 x42 x43 x44 x45 x46 x47 x48 : Value), k < 6 ∧ a1 + k ≤ l0.length ∧ 0 ≤ n ∧ n < 128 ^ k ∧ takeGo l0 a1 (6 - k) k n = R ∧ a' = { tmps := #[.slice A0 l0.length c0, .int .i64 a1, undef, undef, .int .i64 0, .int .i64 0, .int .i64 0, .int .i64 n, .int .i64 k, x0, x1, x2, x3, x4, x5, x6, x7, x8, x9, x10, x11, x12, x13, x14, x15, x16, x17, x18, x19, x20, x21, x22, x23, x24, x25, x26, x27, x28, x29, x30, x31, x32, x33, x34, x35, x36, x37, x38, x39, x40, x41, x42, x43, x44, x45, x46, x47, x48], defers := [] }

def wire_TakeNumber.f (l0 : List Int) (a1 : Int) : Option (Int × Int × Int) := if okBytes l0 = true ∧ l0.length ≤ 200000000000000 then some (takeNum l0 a1) else none
theorem okBytes_rd {l : List Int} (h : okBytes l = true) (i : Int) : 0 ≤ rd l i ∧ rd l i ≤ 255 := by
  unfold rd
  rcases Nat.lt_or_ge i.toNat l.length with hl | hl
  · have hx : l.getD i.toNat 0 ∈ l := by rw [List.getD_eq_getElem?_getD, List.getElem?_eq_getElem hl]; exact List.getElem_mem hl
    have := List.all_eq_true.1 h _ hx
    simp only [Bool.and_eq_true, decide_eq_true_eq] at this
    omega
  · rw [List.getD_eq_getElem?_getD, List.getElem?_eq_none hl]; simp

section
variable {l : List Int} {at_ k n c : Int} {m : Nat}
theorem tg_short (h : at_ + k = l.length) : takeGo l at_ (m + 1) k n = (0, 0, 3) := by simp only [takeGo]; rw [if_pos h]
theorem tg_more (h : ¬ at_ + k = l.length) (hc : rd l (at_ + k) = c) (h1 : 128 ≤ c) (hk : ¬ k + 1 = 6) : takeGo l at_ (m + 1) k n = takeGo l at_ m (k + 1) (n + c % 128 * 128 ^ k.toNat) := by
  simp only [takeGo]; rw [if_neg h, hc, if_pos h1, if_neg hk]
theorem tg_full (h : ¬ at_ + k = l.length) (hc : rd l (at_ + k) = c) (h1 : 128 ≤ c) (hk : k + 1 = 6) : takeGo l at_ (m + 1) k n = (0, 0, 6) := by
  simp only [takeGo]; rw [if_neg h, hc, if_pos h1, if_pos hk]
theorem tg_form (h : ¬ at_ + k = l.length) (hc : rd l (at_ + k) = c) (h1 : c = 0) (hk : 0 < k) : takeGo l at_ (m + 1) k n = (0, 0, 4) := by
  simp only [takeGo]; rw [if_neg h, hc, if_neg (by omega), if_pos ⟨h1, hk⟩]
theorem tg_limit (h : ¬ at_ + k = l.length) (hc : rd l (at_ + k) = c) (h1 : c < 128) (hz : ¬ (c = 0 ∧ 0 < k)) (hm : n + c % 128 * 128 ^ k.toNat > 1099511627776) : takeGo l at_ (m + 1) k n = (0, 0, 6) := by
  simp only [takeGo]; rw [if_neg h, hc, if_neg (by omega), if_neg hz, if_pos hm]
theorem tg_ok (h : ¬ at_ + k = l.length) (hc : rd l (at_ + k) = c) (h1 : c < 128) (hz : ¬ (c = 0 ∧ 0 < k)) (hm : n + c % 128 * 128 ^ k.toNat ≤ 1099511627776) : takeGo l at_ (m + 1) k n = (n + c % 128 * 128 ^ k.toNat, at_ + k + 1, 0) := by
  simp only [takeGo]; rw [if_neg h, hc, if_neg (by omega), if_neg hz, if_neg (by omega)]
end
theorem ret3 {a b c a' b' c' : Int} (h : (a', b', c') = (a, b, c)) : Ending.returned (.tuple #[.int .i64 a', .int .i64 b', .int .i64 c']) = Ending.returned (.tuple #[.int .i64 a, .int .i64 b, .int .i64 c]) := by
  simp only [Prod.mk.injEq] at h; obtain ⟨rfl, rfl, rfl⟩ := h; rfl
set_option maxHeartbeats 4000000 in
set_option maxRecDepth 100000 in
theorem wire_TakeNumber.core (A0 : Option Addr) (c0 : Nat) (l0 : List Int) (a1 : Int) (r1 : Int) (r2 : Int) (r3 : Int) (w : World) (hr0 : Kd.C (Kd.int .u8) w A0 l0.length l0) (hc0 : l0.length ≤ c0)
   (h0 : 0 ≤ a1) (h1 : a1 ≤ l0.length) (hl : (l0.length : Int) ≤ 200000000000000) (hb : ∀ i, 0 ≤ rd l0 i ∧ rd l0 i ≤ 255) (hR : takeGo l0 a1 6 0 0 = (r1, r2, r3)) :
    Calls Try.prog 100 #[.slice A0 l0.length c0, .int .i64 a1] w fun e w' => e = .returned (.tuple #[.int .i64 r1, .int .i64 r2, .int .i64 r3]) ∧ w = w' := by
  have HG := Aside0.mk hR
  clear hR
  have HB := Aside0.mk hb
  clear hb
  go_enter Try.func100, Try.ntmps100
  go_wp2
  refine wp_scope_jumps 0 (J17 w l0 A0 c0 a1 (r1, r2, r3)) (fun a' _ => 6 - (match a'.tmps.getD 8 undef with | .int _ q => q | _ => 0).toNat) rfl ?_ ?_
  · go_wp2
    go_step3
    rcases (show a1 = (l0.length : Int) ∨ a1 < (l0.length : Int) by omega) with hge | hlt
    · have HF := Aside0.mk (HG.out.symm.trans (tg_short (l := l0) (at_ := a1) (k := 0) (m := 5) (n := 0) (by omega)))
      have hne : (a1 == (l0.length : Int)) = true := by simp; omega
      clear hge
      go_wp2
      simp only [Exit.jump]
      go_ret3
      exact ⟨ret3 HF.out.symm, rfl⟩
    · have hbc := HB.out (a1)
      obtain ⟨ad, rfl, hcell⟩ := Kd.at_int hr0 (a1) (by omega) hlt
      obtain ⟨c, hcc⟩ : ∃ c, rd l0 (a1) = c := ⟨_, rfl⟩
      rw [hcc] at hcell hbc
      clear hr0
      have hne : (a1 == (l0.length : Int)) = false := by simp; omega
      have HO := Aside0.mk (or_step 0 1 (by decide) (by omega) 0 c (by omega) (by omega) hbc.1 hbc.2)
      rcases (show c < 128 ∨ 128 ≤ c by omega) with hc | hc
      · have HF := Aside0.mk (HG.out.symm.trans (tg_ok (l := l0) (at_ := a1) (k := 0) (m := 5) (n := 0) (c := c) (by omega) (by simpa using hcc) hc (by omega) (by simp; omega)))
        have HO' : Aside0 (bits .or .i64 0 (wrap64 (bits .and .i64 c 127)) = c) := ⟨by have := HO.out; rw [Int.mul_one] at this; rw [this]; omega⟩
        have hlim : decide (1099511627776 < bits .or .i64 0 (wrap64 (bits .and .i64 c 127))) = false := by rw [HO'.out]; simp; omega
        clear hcc
        rcases (show c = 0 ∨ 0 < c by omega) with hz | hz
        · have hz0 : (c == 0) = true := by simp; omega
          clear hz
          go_wp2
          simp only [Exit.jump]
          go_ret3
          exact ⟨ret3 (by rw [HF.out, HO'.out]; simp; omega), rfl⟩
        · have hz0 : (c == 0) = false := by simp; omega
          clear hz
          go_wp2
          simp only [Exit.jump]
          go_ret3
          exact ⟨ret3 (by rw [HF.out, HO'.out]; simp; omega), rfl⟩
      · have HF := Aside0.mk (HG.out.symm.trans (tg_more (l := l0) (at_ := a1) (k := 0) (m := 5) (n := 0) (c := c) (by omega) (by simpa using hcc) hc (by omega)))
        have hlt' : a1 + 1 ≤ (l0.length : Int) := by omega
        clear hcc
        go_wp2
        go_step3
        have HO2 : Aside0 (bits .or .i64 0 (wrap64 (bits .and .i64 c 127)) = 0 + c % 128 * 1) := ⟨by have := HO.out; first | exact this | (rw [Int.mul_one] at this; exact this)⟩
        have HJ := Aside0.mk (show True from trivial)
        exact ⟨rfl, ⟨rfl, 1, _, _, _, _, _, _, _, _, _, _, _, _, _, _, _, _, _, _, _, _, _, _, _, _, _, _, _, _, _, _, _, _, _, _, _, _, _, _, _, _, _, _, _, _, _, _, _, _, _, _, by omega, by omega, by rw [HO2.out]; omega, by rw [HO2.out]; simp; omega, by rw [HF.out, HO2.out]; simp, rfl⟩⟩
  · rintro a' w' ⟨rfl, k, n, x0, x1, x2, x3, x4, x5, x6, x7, x8, x9, x10, x11, x12, x13, x14, x15, x16, x17, x18, x19, x20, x21, x22, x23, x24, x25, x26, x27, x28, x29, x30, x31, x32, x33, x34, x35, x36, x37, x38, x39, x40, x41, x42, x43, x44, x45, x46, x47, x48, hk, hk1, hn0, hn1, hG, rfl⟩
    clear HG
    obtain rfl | rfl | rfl | rfl | rfl | rfl : k = 0 ∨ k = 1 ∨ k = 2 ∨ k = 3 ∨ k = 4 ∨ k = 5 := by omega
    · have HG := Aside0.mk hG
      clear hG hk
      have hn : n < 1 := by simpa using hn1
      clear hn1
      obtain rfl : n = 0 := by omega
      rcases (show a1 = (l0.length : Int) ∨ a1 < (l0.length : Int) by omega) with hge | hlt
      · have HF := Aside0.mk (HG.out.symm.trans (tg_short (l := l0) (at_ := a1) (k := 0) (m := 5) (n := 0) (by omega)))
        have hne : (a1 == (l0.length : Int)) = true := by simp; omega
        clear hge
        go_wp2
        simp only [Exit.jump]
        go_ret3
        exact ⟨ret3 HF.out.symm, rfl⟩
      · have hbc := HB.out (a1)
        obtain ⟨ad, rfl, hcell⟩ := Kd.at_int hr0 (a1) (by omega) hlt
        obtain ⟨c, hcc⟩ : ∃ c, rd l0 (a1) = c := ⟨_, rfl⟩
        rw [hcc] at hcell hbc
        clear hr0
        have hne : (a1 == (l0.length : Int)) = false := by simp; omega
        have HO := Aside0.mk (or_step 0 1 (by decide) (by omega) 0 c (by omega) (by omega) hbc.1 hbc.2)
        rcases (show c < 128 ∨ 128 ≤ c by omega) with hc | hc
        · have HF := Aside0.mk (HG.out.symm.trans (tg_ok (l := l0) (at_ := a1) (k := 0) (m := 5) (n := 0) (c := c) (by omega) (by simpa using hcc) hc (by omega) (by simp; omega)))
          have HO' : Aside0 (bits .or .i64 0 (wrap64 (bits .and .i64 c 127)) = c) := ⟨by have := HO.out; rw [Int.mul_one] at this; rw [this]; omega⟩
          have hlim : decide (1099511627776 < bits .or .i64 0 (wrap64 (bits .and .i64 c 127))) = false := by rw [HO'.out]; simp; omega
          clear hcc
          rcases (show c = 0 ∨ 0 < c by omega) with hz | hz
          · have hz0 : (c == 0) = true := by simp; omega
            clear hz
            go_wp2
            simp only [Exit.jump]
            go_ret3
            exact ⟨ret3 (by rw [HF.out, HO'.out]; simp; omega), rfl⟩
          · have hz0 : (c == 0) = false := by simp; omega
            clear hz
            go_wp2
            simp only [Exit.jump]
            go_ret3
            exact ⟨ret3 (by rw [HF.out, HO'.out]; simp; omega), rfl⟩
        · have HF := Aside0.mk (HG.out.symm.trans (tg_more (l := l0) (at_ := a1) (k := 0) (m := 5) (n := 0) (c := c) (by omega) (by simpa using hcc) hc (by omega)))
          have hlt' : a1 + 1 ≤ (l0.length : Int) := by omega
          clear hcc
          go_wp2
          go_step3
          have HO2 : Aside0 (bits .or .i64 0 (wrap64 (bits .and .i64 c 127)) = 0 + c % 128 * 1) := ⟨by have := HO.out; first | exact this | (rw [Int.mul_one] at this; exact this)⟩
          have HJ := Aside0.mk (show True from trivial)
          exact ⟨rfl, ⟨rfl, 1, _, _, _, _, _, _, _, _, _, _, _, _, _, _, _, _, _, _, _, _, _, _, _, _, _, _, _, _, _, _, _, _, _, _, _, _, _, _, _, _, _, _, _, _, _, _, _, _, _, _, by omega, by omega, by rw [HO2.out]; omega, by rw [HO2.out]; simp; omega, by rw [HF.out, HO2.out]; simp, rfl⟩, by simp⟩
    · have HG := Aside0.mk hG
      clear hG hk
      have hn : n < 128 := by simpa using hn1
      clear hn1
      rcases (show a1 + 1 = (l0.length : Int) ∨ a1 + 1 < (l0.length : Int) by omega) with hge | hlt
      · have HF := Aside0.mk (HG.out.symm.trans (tg_short (l := l0) (at_ := a1) (k := 1) (m := 4) (n := n) (by omega)))
        have hne : (a1 + 1 == (l0.length : Int)) = true := by simp; omega
        clear hge
        go_wp2
        simp only [Exit.jump]
        go_ret3
        exact ⟨ret3 HF.out.symm, rfl⟩
      · have hbc := HB.out (a1 + 1)
        obtain ⟨ad, rfl, hcell⟩ := Kd.at_int hr0 (a1 + 1) (by omega) hlt
        obtain ⟨c, hcc⟩ : ∃ c, rd l0 (a1 + 1) = c := ⟨_, rfl⟩
        rw [hcc] at hcell hbc
        clear hr0
        have hne : (a1 + 1 == (l0.length : Int)) = false := by simp; omega
        have HO := Aside0.mk (or_step 7 128 (by decide) (by omega) n c (by omega) (by omega) hbc.1 hbc.2)
        rcases (show c < 128 ∨ 128 ≤ c by omega) with hc | hc
        · rcases (show c = 0 ∨ 0 < c by omega) with hz | hz
          · have HF := Aside0.mk (HG.out.symm.trans (tg_form (l := l0) (at_ := a1) (k := 1) (m := 4) (n := n) (c := c) (by omega) hcc hz (by omega)))
            clear hcc hc HO
            subst hz
            go_wp2
            simp only [Exit.jump]
            go_ret3
            exact ⟨ret3 HF.out.symm, rfl⟩
          · have hz0 : (c == 0) = false := by simp; omega
            rcases (show 1099511627776 < n + c % 128 * 128 ∨ n + c % 128 * 128 ≤ 1099511627776 by omega) with hm | hm
            · have HF := Aside0.mk (HG.out.symm.trans (tg_limit (l := l0) (at_ := a1) (k := 1) (m := 4) (n := n) (c := c) (by omega) hcc hc (by omega) (by simpa using hm)))
              have hlim : decide (1099511627776 < bits .or .i64 n (wrap64 (bits .and .i64 c 127 * 128))) = true := by rw [HO.out]; simpa using hm
              clear hcc hm
              go_wp2
              simp only [Exit.jump]
              go_ret3
              exact ⟨ret3 HF.out.symm, rfl⟩
            · have HF := Aside0.mk (HG.out.symm.trans (tg_ok (l := l0) (at_ := a1) (k := 1) (m := 4) (n := n) (c := c) (by omega) hcc hc (by omega) (by simpa using hm)))
              have hlim : decide (1099511627776 < bits .or .i64 n (wrap64 (bits .and .i64 c 127 * 128))) = false := by rw [HO.out]; simpa using hm
              clear hcc hm
              go_wp2
              simp only [Exit.jump]
              go_ret3
              exact ⟨ret3 (by rw [HF.out, HO.out]; simp; omega), rfl⟩
        · have HF := Aside0.mk (HG.out.symm.trans (tg_more (l := l0) (at_ := a1) (k := 1) (m := 4) (n := n) (c := c) (by omega) hcc hc (by omega)))
          have hlt' : a1 + 1 + 1 ≤ (l0.length : Int) := by omega
          clear hcc
          go_wp2
          go_step3
          have HO2 : Aside0 (bits .or .i64 n (wrap64 (bits .and .i64 c 127 * 128)) = n + c % 128 * 128) := ⟨by have := HO.out; first | exact this | (rw [Int.mul_one] at this; exact this)⟩
          have HJ := Aside0.mk (show True from trivial)
          exact ⟨rfl, ⟨rfl, 2, _, _, _, _, _, _, _, _, _, _, _, _, _, _, _, _, _, _, _, _, _, _, _, _, _, _, _, _, _, _, _, _, _, _, _, _, _, _, _, _, _, _, _, _, _, _, _, _, _, _, by omega, by omega, by rw [HO2.out]; omega, by rw [HO2.out]; simp; omega, by rw [HF.out, HO2.out]; simp, rfl⟩, by simp⟩
    · have HG := Aside0.mk hG
      clear hG hk
      have hn : n < 16384 := by simpa using hn1
      clear hn1
      rcases (show a1 + 2 = (l0.length : Int) ∨ a1 + 2 < (l0.length : Int) by omega) with hge | hlt
      · have HF := Aside0.mk (HG.out.symm.trans (tg_short (l := l0) (at_ := a1) (k := 2) (m := 3) (n := n) (by omega)))
        have hne : (a1 + 2 == (l0.length : Int)) = true := by simp; omega
        clear hge
        go_wp2
        simp only [Exit.jump]
        go_ret3
        exact ⟨ret3 HF.out.symm, rfl⟩
      · have hbc := HB.out (a1 + 2)
        obtain ⟨ad, rfl, hcell⟩ := Kd.at_int hr0 (a1 + 2) (by omega) hlt
        obtain ⟨c, hcc⟩ : ∃ c, rd l0 (a1 + 2) = c := ⟨_, rfl⟩
        rw [hcc] at hcell hbc
        clear hr0
        have hne : (a1 + 2 == (l0.length : Int)) = false := by simp; omega
        have HO := Aside0.mk (or_step 14 16384 (by decide) (by omega) n c (by omega) (by omega) hbc.1 hbc.2)
        rcases (show c < 128 ∨ 128 ≤ c by omega) with hc | hc
        · rcases (show c = 0 ∨ 0 < c by omega) with hz | hz
          · have HF := Aside0.mk (HG.out.symm.trans (tg_form (l := l0) (at_ := a1) (k := 2) (m := 3) (n := n) (c := c) (by omega) hcc hz (by omega)))
            clear hcc hc HO
            subst hz
            go_wp2
            simp only [Exit.jump]
            go_ret3
            exact ⟨ret3 HF.out.symm, rfl⟩
          · have hz0 : (c == 0) = false := by simp; omega
            rcases (show 1099511627776 < n + c % 128 * 16384 ∨ n + c % 128 * 16384 ≤ 1099511627776 by omega) with hm | hm
            · have HF := Aside0.mk (HG.out.symm.trans (tg_limit (l := l0) (at_ := a1) (k := 2) (m := 3) (n := n) (c := c) (by omega) hcc hc (by omega) (by simpa using hm)))
              have hlim : decide (1099511627776 < bits .or .i64 n (wrap64 (bits .and .i64 c 127 * 16384))) = true := by rw [HO.out]; simpa using hm
              clear hcc hm
              go_wp2
              simp only [Exit.jump]
              go_ret3
              exact ⟨ret3 HF.out.symm, rfl⟩
            · have HF := Aside0.mk (HG.out.symm.trans (tg_ok (l := l0) (at_ := a1) (k := 2) (m := 3) (n := n) (c := c) (by omega) hcc hc (by omega) (by simpa using hm)))
              have hlim : decide (1099511627776 < bits .or .i64 n (wrap64 (bits .and .i64 c 127 * 16384))) = false := by rw [HO.out]; simpa using hm
              clear hcc hm
              go_wp2
              simp only [Exit.jump]
              go_ret3
              exact ⟨ret3 (by rw [HF.out, HO.out]; simp; omega), rfl⟩
        · have HF := Aside0.mk (HG.out.symm.trans (tg_more (l := l0) (at_ := a1) (k := 2) (m := 3) (n := n) (c := c) (by omega) hcc hc (by omega)))
          have hlt' : a1 + 2 + 1 ≤ (l0.length : Int) := by omega
          clear hcc
          go_wp2
          go_step3
          have HO2 : Aside0 (bits .or .i64 n (wrap64 (bits .and .i64 c 127 * 16384)) = n + c % 128 * 16384) := ⟨by have := HO.out; first | exact this | (rw [Int.mul_one] at this; exact this)⟩
          have HJ := Aside0.mk (show True from trivial)
          exact ⟨rfl, ⟨rfl, 3, _, _, _, _, _, _, _, _, _, _, _, _, _, _, _, _, _, _, _, _, _, _, _, _, _, _, _, _, _, _, _, _, _, _, _, _, _, _, _, _, _, _, _, _, _, _, _, _, _, _, by omega, by omega, by rw [HO2.out]; omega, by rw [HO2.out]; simp; omega, by rw [HF.out, HO2.out]; simp, rfl⟩, by simp⟩
    · have HG := Aside0.mk hG
      clear hG hk
      have hn : n < 2097152 := by simpa using hn1
      clear hn1
      rcases (show a1 + 3 = (l0.length : Int) ∨ a1 + 3 < (l0.length : Int) by omega) with hge | hlt
      · have HF := Aside0.mk (HG.out.symm.trans (tg_short (l := l0) (at_ := a1) (k := 3) (m := 2) (n := n) (by omega)))
        have hne : (a1 + 3 == (l0.length : Int)) = true := by simp; omega
        clear hge
        go_wp2
        simp only [Exit.jump]
        go_ret3
        exact ⟨ret3 HF.out.symm, rfl⟩
      · have hbc := HB.out (a1 + 3)
        obtain ⟨ad, rfl, hcell⟩ := Kd.at_int hr0 (a1 + 3) (by omega) hlt
        obtain ⟨c, hcc⟩ : ∃ c, rd l0 (a1 + 3) = c := ⟨_, rfl⟩
        rw [hcc] at hcell hbc
        clear hr0
        have hne : (a1 + 3 == (l0.length : Int)) = false := by simp; omega
        have HO := Aside0.mk (or_step 21 2097152 (by decide) (by omega) n c (by omega) (by omega) hbc.1 hbc.2)
        rcases (show c < 128 ∨ 128 ≤ c by omega) with hc | hc
        · rcases (show c = 0 ∨ 0 < c by omega) with hz | hz
          · have HF := Aside0.mk (HG.out.symm.trans (tg_form (l := l0) (at_ := a1) (k := 3) (m := 2) (n := n) (c := c) (by omega) hcc hz (by omega)))
            clear hcc hc HO
            subst hz
            go_wp2
            simp only [Exit.jump]
            go_ret3
            exact ⟨ret3 HF.out.symm, rfl⟩
          · have hz0 : (c == 0) = false := by simp; omega
            rcases (show 1099511627776 < n + c % 128 * 2097152 ∨ n + c % 128 * 2097152 ≤ 1099511627776 by omega) with hm | hm
            · have HF := Aside0.mk (HG.out.symm.trans (tg_limit (l := l0) (at_ := a1) (k := 3) (m := 2) (n := n) (c := c) (by omega) hcc hc (by omega) (by simpa using hm)))
              have hlim : decide (1099511627776 < bits .or .i64 n (wrap64 (bits .and .i64 c 127 * 2097152))) = true := by rw [HO.out]; simpa using hm
              clear hcc hm
              go_wp2
              simp only [Exit.jump]
              go_ret3
              exact ⟨ret3 HF.out.symm, rfl⟩
            · have HF := Aside0.mk (HG.out.symm.trans (tg_ok (l := l0) (at_ := a1) (k := 3) (m := 2) (n := n) (c := c) (by omega) hcc hc (by omega) (by simpa using hm)))
              have hlim : decide (1099511627776 < bits .or .i64 n (wrap64 (bits .and .i64 c 127 * 2097152))) = false := by rw [HO.out]; simpa using hm
              clear hcc hm
              go_wp2
              simp only [Exit.jump]
              go_ret3
              exact ⟨ret3 (by rw [HF.out, HO.out]; simp; omega), rfl⟩
        · have HF := Aside0.mk (HG.out.symm.trans (tg_more (l := l0) (at_ := a1) (k := 3) (m := 2) (n := n) (c := c) (by omega) hcc hc (by omega)))
          have hlt' : a1 + 3 + 1 ≤ (l0.length : Int) := by omega
          clear hcc
          go_wp2
          go_step3
          have HO2 : Aside0 (bits .or .i64 n (wrap64 (bits .and .i64 c 127 * 2097152)) = n + c % 128 * 2097152) := ⟨by have := HO.out; first | exact this | (rw [Int.mul_one] at this; exact this)⟩
          have HJ := Aside0.mk (show True from trivial)
          exact ⟨rfl, ⟨rfl, 4, _, _, _, _, _, _, _, _, _, _, _, _, _, _, _, _, _, _, _, _, _, _, _, _, _, _, _, _, _, _, _, _, _, _, _, _, _, _, _, _, _, _, _, _, _, _, _, _, _, _, by omega, by omega, by rw [HO2.out]; omega, by rw [HO2.out]; simp; omega, by rw [HF.out, HO2.out]; simp, rfl⟩, by simp⟩
    · have HG := Aside0.mk hG
      clear hG hk
      have hn : n < 268435456 := by simpa using hn1
      clear hn1
      rcases (show a1 + 4 = (l0.length : Int) ∨ a1 + 4 < (l0.length : Int) by omega) with hge | hlt
      · have HF := Aside0.mk (HG.out.symm.trans (tg_short (l := l0) (at_ := a1) (k := 4) (m := 1) (n := n) (by omega)))
        have hne : (a1 + 4 == (l0.length : Int)) = true := by simp; omega
        clear hge
        go_wp2
        simp only [Exit.jump]
        go_ret3
        exact ⟨ret3 HF.out.symm, rfl⟩
      · have hbc := HB.out (a1 + 4)
        obtain ⟨ad, rfl, hcell⟩ := Kd.at_int hr0 (a1 + 4) (by omega) hlt
        obtain ⟨c, hcc⟩ : ∃ c, rd l0 (a1 + 4) = c := ⟨_, rfl⟩
        rw [hcc] at hcell hbc
        clear hr0
        have hne : (a1 + 4 == (l0.length : Int)) = false := by simp; omega
        have HO := Aside0.mk (or_step 28 268435456 (by decide) (by omega) n c (by omega) (by omega) hbc.1 hbc.2)
        rcases (show c < 128 ∨ 128 ≤ c by omega) with hc | hc
        · rcases (show c = 0 ∨ 0 < c by omega) with hz | hz
          · have HF := Aside0.mk (HG.out.symm.trans (tg_form (l := l0) (at_ := a1) (k := 4) (m := 1) (n := n) (c := c) (by omega) hcc hz (by omega)))
            clear hcc hc HO
            subst hz
            go_wp2
            simp only [Exit.jump]
            go_ret3
            exact ⟨ret3 HF.out.symm, rfl⟩
          · have hz0 : (c == 0) = false := by simp; omega
            rcases (show 1099511627776 < n + c % 128 * 268435456 ∨ n + c % 128 * 268435456 ≤ 1099511627776 by omega) with hm | hm
            · have HF := Aside0.mk (HG.out.symm.trans (tg_limit (l := l0) (at_ := a1) (k := 4) (m := 1) (n := n) (c := c) (by omega) hcc hc (by omega) (by simpa using hm)))
              have hlim : decide (1099511627776 < bits .or .i64 n (wrap64 (bits .and .i64 c 127 * 268435456))) = true := by rw [HO.out]; simpa using hm
              clear hcc hm
              go_wp2
              simp only [Exit.jump]
              go_ret3
              exact ⟨ret3 HF.out.symm, rfl⟩
            · have HF := Aside0.mk (HG.out.symm.trans (tg_ok (l := l0) (at_ := a1) (k := 4) (m := 1) (n := n) (c := c) (by omega) hcc hc (by omega) (by simpa using hm)))
              have hlim : decide (1099511627776 < bits .or .i64 n (wrap64 (bits .and .i64 c 127 * 268435456))) = false := by rw [HO.out]; simpa using hm
              clear hcc hm
              go_wp2
              simp only [Exit.jump]
              go_ret3
              exact ⟨ret3 (by rw [HF.out, HO.out]; simp; omega), rfl⟩
        · have HF := Aside0.mk (HG.out.symm.trans (tg_more (l := l0) (at_ := a1) (k := 4) (m := 1) (n := n) (c := c) (by omega) hcc hc (by omega)))
          have hlt' : a1 + 4 + 1 ≤ (l0.length : Int) := by omega
          clear hcc
          go_wp2
          go_step3
          have HO2 : Aside0 (bits .or .i64 n (wrap64 (bits .and .i64 c 127 * 268435456)) = n + c % 128 * 268435456) := ⟨by have := HO.out; first | exact this | (rw [Int.mul_one] at this; exact this)⟩
          have HJ := Aside0.mk (show True from trivial)
          exact ⟨rfl, ⟨rfl, 5, _, _, _, _, _, _, _, _, _, _, _, _, _, _, _, _, _, _, _, _, _, _, _, _, _, _, _, _, _, _, _, _, _, _, _, _, _, _, _, _, _, _, _, _, _, _, _, _, _, _, by omega, by omega, by rw [HO2.out]; omega, by rw [HO2.out]; simp; omega, by rw [HF.out, HO2.out]; simp, rfl⟩, by simp⟩
    · have HG := Aside0.mk hG
      clear hG hk
      have hn : n < 34359738368 := by simpa using hn1
      clear hn1
      rcases (show a1 + 5 = (l0.length : Int) ∨ a1 + 5 < (l0.length : Int) by omega) with hge | hlt
      · have HF := Aside0.mk (HG.out.symm.trans (tg_short (l := l0) (at_ := a1) (k := 5) (m := 0) (n := n) (by omega)))
        have hne : (a1 + 5 == (l0.length : Int)) = true := by simp; omega
        clear hge
        go_wp2
        simp only [Exit.jump]
        go_ret3
        exact ⟨ret3 HF.out.symm, rfl⟩
      · have hbc := HB.out (a1 + 5)
        obtain ⟨ad, rfl, hcell⟩ := Kd.at_int hr0 (a1 + 5) (by omega) hlt
        obtain ⟨c, hcc⟩ : ∃ c, rd l0 (a1 + 5) = c := ⟨_, rfl⟩
        rw [hcc] at hcell hbc
        clear hr0
        have hne : (a1 + 5 == (l0.length : Int)) = false := by simp; omega
        have HO := Aside0.mk (or_step 35 34359738368 (by decide) (by omega) n c (by omega) (by omega) hbc.1 hbc.2)
        rcases (show c < 128 ∨ 128 ≤ c by omega) with hc | hc
        · rcases (show c = 0 ∨ 0 < c by omega) with hz | hz
          · have HF := Aside0.mk (HG.out.symm.trans (tg_form (l := l0) (at_ := a1) (k := 5) (m := 0) (n := n) (c := c) (by omega) hcc hz (by omega)))
            clear hcc hc HO
            subst hz
            go_wp2
            simp only [Exit.jump]
            go_ret3
            exact ⟨ret3 HF.out.symm, rfl⟩
          · have hz0 : (c == 0) = false := by simp; omega
            rcases (show 1099511627776 < n + c % 128 * 34359738368 ∨ n + c % 128 * 34359738368 ≤ 1099511627776 by omega) with hm | hm
            · have HF := Aside0.mk (HG.out.symm.trans (tg_limit (l := l0) (at_ := a1) (k := 5) (m := 0) (n := n) (c := c) (by omega) hcc hc (by omega) (by simpa using hm)))
              have hlim : decide (1099511627776 < bits .or .i64 n (wrap64 (bits .and .i64 c 127 * 34359738368))) = true := by rw [HO.out]; simpa using hm
              clear hcc hm
              go_wp2
              simp only [Exit.jump]
              go_ret3
              exact ⟨ret3 HF.out.symm, rfl⟩
            · have HF := Aside0.mk (HG.out.symm.trans (tg_ok (l := l0) (at_ := a1) (k := 5) (m := 0) (n := n) (c := c) (by omega) hcc hc (by omega) (by simpa using hm)))
              have hlim : decide (1099511627776 < bits .or .i64 n (wrap64 (bits .and .i64 c 127 * 34359738368))) = false := by rw [HO.out]; simpa using hm
              clear hcc hm
              go_wp2
              simp only [Exit.jump]
              go_ret3
              exact ⟨ret3 (by rw [HF.out, HO.out]; simp; omega), rfl⟩
        · have HF := Aside0.mk (HG.out.symm.trans (tg_full (l := l0) (at_ := a1) (k := 5) (m := 0) (n := n) (c := c) (by omega) hcc hc (by omega)))
          clear hcc
          go_wp2
          simp only [Exit.jump]
          go_ret3
          exact ⟨ret3 HF.out.symm, rfl⟩
theorem wire_TakeNumber.early (A0 : Option Addr) (c0 : Nat) (l0 : List Int) (a1 : Int) (w : World) (h : a1 < 0 ∨ (l0.length : Int) < a1) :
    Calls Try.prog 100 #[.slice A0 l0.length c0, .int .i64 a1] w fun e w' => e = .returned (.tuple #[.int .i64 0, .int .i64 0, .int .i64 2]) ∧ w = w' := by
  rcases (show a1 < 0 ∨ 0 ≤ a1 ∧ (l0.length : Int) < a1 by omega) with h | h
  · have tok : True := trivial
    go_enter Try.func100, Try.ntmps100
    go_wp2
    refine wp_scope_straight ?_
    go_wp2
    try rw [Exit.noGoto_ret]
    go_ret3
    exact ⟨rfl, rfl⟩
  · obtain ⟨h1, h2⟩ := h
    go_enter Try.func100, Try.ntmps100
    go_wp2
    refine wp_scope_straight ?_
    go_wp2
    try rw [Exit.noGoto_ret]
    go_ret3
    exact ⟨rfl, rfl⟩
theorem wire_TakeNumber.calls (A0 : Option Addr) (c0 : Nat) (l0 : List Int) (a1 : Int) (r1 : Int) (r2 : Int) (r3 : Int) (w : World) (hr0 : Kd.C (Kd.int .u8) w A0 l0.length l0) (hc0 : l0.length ≤ c0) (h : wire_TakeNumber.f l0 a1 = some (r1, r2, r3)) :
    Calls Try.prog 100 #[.slice A0 l0.length c0, .int .i64 a1] w fun e w' => e = .returned (.tuple #[.int .i64 r1, .int .i64 r2, .int .i64 r3]) ∧ Drawn0 w w' := by
  unfold wire_TakeNumber.f at h
  by_cases hc : okBytes l0 = true ∧ l0.length ≤ 200000000000000
  · rw [if_pos hc] at h
    have h := Option.some.inj h
    unfold takeNum at h
    by_cases h1 : a1 < 0
    · rw [if_pos h1] at h
      simp only [Prod.mk.injEq] at h
      obtain ⟨rfl, rfl, rfl⟩ := h
      refine (wire_TakeNumber.early A0 c0 l0 a1 w (.inl h1)).mono ?_
      rintro e w' ⟨rfl, rfl⟩
      exact ⟨rfl, Drawn0.refl w⟩
    · rw [if_neg h1] at h
      by_cases h2 : a1 > l0.length
      · rw [if_pos h2] at h
        simp only [Prod.mk.injEq] at h
        obtain ⟨rfl, rfl, rfl⟩ := h
        refine (wire_TakeNumber.early A0 c0 l0 a1 w (.inr h2)).mono ?_
        rintro e w' ⟨rfl, rfl⟩
        exact ⟨rfl, Drawn0.refl w⟩
      · rw [if_neg h2] at h
        refine (wire_TakeNumber.core A0 c0 l0 a1 r1 r2 r3 w hr0 hc0 (by omega) (by omega) (by omega) (okBytes_rd hc.1) h).mono ?_
        rintro e w' ⟨rfl, rfl⟩
        exact ⟨rfl, Drawn0.refl w⟩
  · rw [if_neg hc] at h
    cases h
end Go.Proofs.Ytmmiipnmimjojaa.PS
end
section
namespace Go.Proofs.Ytmmiipnmimjojaa.PS
open Go.RowKit Go.Proofs.YtmmiipnmimjojaaW.PrintWords Go.Proofs.YtmmiipnmimjojaaW.PrintLast Go.Proofs.YtmmiipnmimjojaaW.PrintMore
set_option linter.unusedVariables false
set_option linter.unusedSimpArgs false

/-- A number's bytes: m + 1 of them at most. -/
def encN : Nat → Int → List Int
  | 0, n => [n]
  | m + 1, n => if n < 128 then [n] else (n % 128 + 128) :: encN m (n / 128)
/-- A number's bytes (of numbers up to 2^70). -/
def enc (n : Int) : List Int := encN 9 n
theorem or128 (x : Int) (h0 : 0 ≤ x) (h1 : x ≤ 9223372036854775807) : (bits .or .i64 (bits .and .i64 x 127) 128) % 256 = x % 128 + 128 := by
  rw [and127 x h0 h1]
  obtain ⟨d, hd⟩ : ∃ d : Nat, x % 128 = d := ⟨(x % 128).toNat, by omega⟩
  rw [hd, show (128 : Int) = ((128 : Nat) : Int) from rfl, i64_or_nat d 128 (by omega) (by omega)]
  have : d ||| 128 = d + 128 := by
    have := Nat.two_pow_add_eq_or_of_lt (i := 7) (b := d) (by omega) 1
    rw [show 2 ^ 7 * 1 = 128 from rfl] at this
    rw [Nat.or_comm]; omega
  rw [this]; omega
theorem encN_more (m : Nat) : ∀ n, 0 ≤ n → n < 128 ^ (m + 1) → encN (m + 1) n = encN m n := by
  induction m with
  | zero => intro n h0 h1; simp only [encN]; rw [if_pos (by omega)]
  | succ m ih =>
    intro n h0 h1
    rw [encN]
    conv => rhs; rw [encN]
    split
    · rfl
    · rw [ih (n / 128) (by omega) (by rw [Int.pow_succ] at h1; omega)]
theorem encN_len (m : Nat) (n : Int) : 1 ≤ (encN m n).length ∧ (encN m n).length ≤ m + 1 := by
  induction m generalizing n with
  | zero => simp [encN]
  | succ m ih =>
    rw [encN]
    split
    · simp
    · have := ih (n / 128); simp only [List.length_cons]; omega
theorem enc_six {n : Int} (h0 : 0 ≤ n) (h1 : n < 4398046511104) : enc n = encN 5 n := by
  unfold enc
  rw [encN_more 8 n h0 (by omega), encN_more 7 n h0 (by omega), encN_more 6 n h0 (by omega), encN_more 5 n h0 (by omega)]
theorem enc_len {n : Int} (h0 : 0 ≤ n) (h1 : n ≤ 1099511627776) : 1 ≤ (enc n).length ∧ (enc n).length ≤ 6 := by
  rw [enc_six h0 (by omega)]; exact encN_len 5 n
theorem encN_bytes (m : Nat) : ∀ n, 0 ≤ n → n < 128 ^ (m + 1) → ∀ x ∈ encN m n, 0 ≤ x ∧ x < 256 := by
  induction m with
  | zero => intro n h0 h1 x hx; simp [encN] at hx; omega
  | succ m ih =>
    intro n h0 h1 x hx
    rw [encN] at hx
    split at hx
    · simp at hx; omega
    · rcases List.mem_cons.1 hx with rfl | hx
      · omega
      · exact ih (n / 128) (by omega) (by rw [Int.pow_succ] at h1; omega) x hx
theorem enc_bytes {n : Int} (h0 : 0 ≤ n) (h1 : n ≤ 1099511627776) : ∀ x ∈ enc n, 0 ≤ x ∧ x < 256 := by
  rw [enc_six h0 (by omega)]; exact encN_bytes 5 n h0 (by omega)
theorem rd_append_right (a b : List Int) (i : Int) (h : (a.length : Int) ≤ i) : rd (a ++ b) i = rd b (i - a.length) := by
  unfold rd
  rw [List.getD_eq_getElem?_getD, List.getD_eq_getElem?_getD, List.getElem?_append_right (by omega)]
  congr 2; omega
theorem rd_append_left (a b : List Int) (i : Int) (h0 : 0 ≤ i) (h : i < a.length) : rd (a ++ b) i = rd a i := by
  unfold rd
  rw [List.getD_eq_getElem?_getD, List.getD_eq_getElem?_getD, List.getElem?_append_left (by omega)]
theorem rd_cons_zero (x : Int) (l : List Int) : rd (x :: l) 0 = x := by simp [rd]
/-- What is put is taken, from any byte of it on. -/
theorem takeGo_enc (l : List Int) (at_ : Int) : ∀ (m : Nat) (k acc n : Int) (ahead behind : List Int), l = ahead ++ encN m n ++ behind → at_ + k = ahead.length → 0 ≤ k → k + m = 5 → 0 ≤ n → n < 128 ^ (m + 1) → (k = 0 ∨ 0 < n) →
    0 ≤ acc → acc + n * 128 ^ k.toNat ≤ 1099511627776 → takeGo l at_ (m + 1) k acc = (acc + n * 128 ^ k.toNat, at_ + k + (encN m n).length, 0) := by
  intro m
  induction m with
  | zero =>
    intro k acc n ahead behind hl hk h0 hm hn0 hn1 hz ha hM
    have hlen : ¬ at_ + k = l.length := by rw [hl, hk]; simp [encN]; omega
    have hr : rd l (at_ + k) = n := by
      rw [hl, List.append_assoc, hk, rd_append_right _ _ _ (by omega), Int.sub_self, encN]; exact rd_cons_zero _ _
    have e : n % 128 = n := by omega
    rw [tg_ok hlen hr (by omega) (by omega) (by rw [e]; exact hM), e]
    simp [encN]
  | succ m ih =>
    intro k acc n ahead behind hl hk h0 hm hn0 hn1 hz ha hM
    rw [encN] at hl
    by_cases h : n < 128
    · rw [if_pos h] at hl
      have hlen : ¬ at_ + k = l.length := by rw [hl, hk]; simp; omega
      have hr : rd l (at_ + k) = n := by
        rw [hl, List.append_assoc, hk, rd_append_right _ _ _ (by omega), Int.sub_self]; exact rd_cons_zero _ _
      have e : n % 128 = n := by omega
      rw [tg_ok hlen hr (by omega) (by omega) (by rw [e]; exact hM), e, encN, if_pos h]
      simp
    · rw [if_neg h] at hl
      have hlen : ¬ at_ + k = l.length := by rw [hl, hk]; simp; omega
      have hr : rd l (at_ + k) = n % 128 + 128 := by
        rw [hl, List.append_assoc, hk, rd_append_right _ _ _ (by omega), Int.sub_self]; exact rd_cons_zero _ _
      rw [tg_more hlen hr (by omega) (by omega)]
      have e1 : (n % 128 + 128) % 128 = n % 128 := by omega
      have e2 : (k + 1).toNat = k.toNat + 1 := by omega
      have e3 : acc + n % 128 * 128 ^ k.toNat + n / 128 * 128 ^ (k + 1).toNat = acc + n * 128 ^ k.toNat := by
        rw [e2, Int.pow_succ]
        have : n = n % 128 + n / 128 * 128 := by omega
        conv => rhs; rw [this]
        rw [Int.add_mul, Int.mul_assoc, Int.mul_comm (128 ^ k.toNat) 128]
        omega
      have hp : 0 ≤ n % 128 * 128 ^ k.toNat := Int.mul_nonneg (by omega) (Int.pow_nonneg (by omega))
      rw [e1, ih (k + 1) (acc + n % 128 * 128 ^ k.toNat) (n / 128) (ahead ++ [n % 128 + 128]) behind (by rw [hl]; simp) (by simp; omega) (by omega) (by omega) (by omega) (by rw [Int.pow_succ] at hn1; omega) (by omega) (by omega) (by rw [e3]; exact hM), e3]
      rw [encN, if_neg h]
      simp
      omega
theorem takeNum_enc (ahead behind : List Int) (n : Int) (h0 : 0 ≤ n) (h1 : n ≤ 1099511627776) : takeNum (ahead ++ enc n ++ behind) ahead.length = (n, (ahead.length : Int) + (enc n).length, 0) := by
  unfold takeNum
  rw [if_neg (by omega), if_neg (by simp; omega), enc_six h0 (by omega)]
  have := takeGo_enc (ahead ++ encN 5 n ++ behind) ahead.length 5 0 0 n ahead behind rfl (by omega) (by omega) (by omega) h0 (by omega) (by omega) (by omega) (by simpa using h1)
  rw [this]; simp
end Go.Proofs.Ytmmiipnmimjojaa.PS
end
