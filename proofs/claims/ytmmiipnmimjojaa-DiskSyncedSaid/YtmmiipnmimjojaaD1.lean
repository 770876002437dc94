/- Bytes cloned, bytes laid over others. -/
import Derived.Test.YtmmiipnmimjojaaD0
import Derived.Laws.CopyOwn
import Derived.WalkSpells
import Derived.Lib.SliceRun
namespace Go.Proofs.Ytmmiipnmimjojaa.PS
open Go.RowKit Go.Proofs.YtmmiipnmimjojaaW.PrintWords Go.Proofs.YtmmiipnmimjojaaW.PrintLast Go.Proofs.YtmmiipnmimjojaaW.PrintMore
open Go.Maps Go.Proofs.Ytmmiipnmimjojaa.PD
set_option linter.unusedVariables false
set_option linter.unusedSimpArgs false
abbrev k8 : Kd Int := Kd.int .u8
theorem nil_of_C {α : Type} {d : Kd α} {w : World} {l : List α} (h : d.C w none l.length l) : l = [] := by
  cases l with
  | nil => rfl
  | cons x l =>
    obtain ⟨ad, e, _⟩ := h.2.2 (by simp)
    cases e
theorem eql22 (w : World) (a : Option Addr) (n c : Nat) : (binOp .eql 22 (.slice a n c) (.slice none 0 0)).run Try.prog w = .ok (.bool a.isNone) w := Lib.run_eql_slice_nil w 22 5 a n c 0 0 Try.underlying22
set_option maxRecDepth 100000 in
/-- slices.Clone of bytes. -/
theorem clone8 (A : Option Addr) (c : Nat) (l : List Int) (w : World) (hr : k8.C w A l.length l) (hl : l.length ≤ 140737488355328) :
    Calls Try.prog 59 #[.slice A l.length c] w fun e w' => ∃ v1, e = .returned v1 ∧ k8.R 5 w' w.heap.size (fun _ => True) v1 l ∧ Below w.heap.size w w' := by
  have HR := Aside0.mk hr
  clear hr
  have hE := eql22
  cases A with
  | none =>
    have hz : l = [] := nil_of_C HR.out
    subst hz
    go_enter Try.func59, Try.ntmps59
    go_wp2
    go_ret
    exact ⟨_, rfl, Kd.R_nil _ _ _ _ _, Below.refl _ _⟩
  | some a =>
    go_enter Try.func59, Try.ntmps59
    go_wp2_with (first
      | ((with_reducible refine gate_dst (N := 5) rfl ?_); refine Kd.R_lit k8 _ 5 ?hg (N := 5) ?hd (xs := ([] : List Int)) (inner := []) (ok := fun _ => True) (okp := fun _ => True) ?hr ?hp (fun _ hk => hk) trivial (Below.refl _ _) (Nat.le_refl _) (by simp) ?_; (case hd => rfl); (case hg => rfl); (case hr => first | (go_simp; done) | (go_simp; rfl)); (case hp => exact (Reps.none _ _)); intro v0 w0 ho hb hg_ hnew_; clear hg_ hnew_; have HO := Aside0.mk ho; have HB := Aside0.mk hb; clear ho hb)
      | (at_builtin; refine Kd.R_append_rows k8 (w0 := w) w.heap.size (by rfl) (.tmp 5) (.tmp 6) 22 5 (.int .u8 0) 1 (by rfl) Try.underlying22 info5 (by rfl) (by decide) (by decide) _ [] l (some a) l.length c (fun _ => True) (fun _ => False) (by rfl) (by rfl) HO.out (Kd.C_below HR.out HB.out) (fun _ _ h => h) (fun _ h => h.elim) (fun _ _ => trivial) HB.out HB.out.size (by rw [List.length_nil, Nat.zero_add, Nat.mul_one]; exact hl) ?_; intro v1 w1 hR hb1 hg hat; have HO1 := Aside0.mk hR; have HB1 := Aside0.mk hb1; clear hR hb1 hg hat)
      | go_in)
    go_ret
    exact ⟨_, rfl, HO1.out, HB1.out⟩
/-- copy(v[j:], ys), v a row of one's own. -/
theorem copy8 {W w0 : World} {ops : Array Oper} {rest : List Oper} {o : Oper} {a : Act} {Q : Exit → Act → World → Prop} (hgd : o.guard = none) (d s : Operand)
    (ho : o.op = .call { callee := .builtin .copy, args := #[d, s], argTypes := #[22, 22] }) {A A' : Option Addr} {c j base sc : Nat} {xs ys : List Int} {ok : Nat → Prop}
    (hd : a.eval d = .slice (if c = j then A else A.map (·.add (j * 1))) (xs.length - j) (c - j)) (hs : a.eval s = .slice A' ys.length sc) (hR : k8.R 5 W base ok (.slice A xs.length c) xs) (hC : k8.C W A' ys.length ys) (hj : j ≤ xs.length)
    (hB : Below base w0 W)
    (h : ∀ w', k8.R 5 w' base ok (.slice A xs.length c) (xs.take j ++ ys.take (Nat.min ys.length (xs.length - j)) ++ xs.drop (j + Nat.min ys.length (xs.length - j))) → Below base w0 w' → wpList Try.prog ops Q rest (a.put o.dst (goInt (Nat.min ys.length (xs.length - j)))) w') :
    wpList Try.prog ops Q (o :: rest) a W := by
  have hi : (Try.prog.info? 5).map (·.size) = some 1 := by
    have := congrArg (Option.map (·.2.1)) info5
    rwa [Option.map_map] at this
  have hown := Kd.own_of_R (enc := Value.int .u8) (h1 := fun _ => rfl) hR
  have hok := hR.1
  generalize hm : Nat.min ys.length (xs.length - j) = m at *
  have hm1 : m ≤ ys.length := by rw [← hm]; exact Nat.min_le_left _ _
  have hm2 : m ≤ xs.length - j := by rw [← hm]; exact Nat.min_le_right _ _
  have hnothing : m = 0 → wpList Try.prog ops Q (o :: rest) a W := fun hz => by
    refine wpList_copy_nothing hgd d s 22 22 ho 5 Try.underlying22 hi _ _ _ _ _ _ hd hs (hm.trans hz) ?_
    subst hz
    refine h W ?_ hB
    rw [List.take_zero, List.append_nil, Nat.add_zero, List.take_append_drop]
    exact hR
  rcases hown.2 with ⟨hv, hn⟩ | ⟨g, cap, cur, hv, hbg, hh, h1, h2, h3, h4⟩
  · exact hnothing (by omega)
  · by_cases hz : m = 0
    · exact hnothing hz
    · cases hv
      obtain ⟨ad, rfl, hcell⟩ := (Kd.reads_of_C (enc := Value.int .u8) (d := (0 : Int)) (h1 := fun _ => rfl) hC).2.2 (by omega)
      have hne : ¬ c = j := by omega
      refine wpList_copy_splice hgd d s 22 22 ho 5 Try.underlying22 hi _ _ _ _ _ _ hd hs g j cur.toList 5 (by simpa using hh) ((ys.take m).map (Value.int .u8)) (by simp; omega) (fun _ => ⟨?_, _, rfl, ?_⟩) (by simp; omega) (by intro v hv; obtain ⟨x, _, rfl⟩ := List.mem_map.1 hv; rfl) base w0 hB hbg ?_
      · rw [if_neg hne, Nat.mul_one, Option.map_some]
        unfold Addr.add
        split
        · rename_i e; rw [e]
        · simp
      · intro i v hv
        rw [List.getElem?_map] at hv
        obtain ⟨x, hx, rfl⟩ := Option.map_eq_some_iff.1 hv
        have hi2 : i < m := by have := (List.getElem?_eq_some_iff.1 hx).1; rw [List.length_take] at this; omega
        rw [hcell i (by omega), List.getD_eq_getElem?_getD]
        rw [List.getElem?_take_of_lt hi2] at hx
        rw [hx]; rfl
      · intro w' hw' hB'
        have hlen : ((ys.take m).map (Value.int .u8)).length = m := by rw [List.length_map, List.length_take]; omega
        have hgl : ((xs.take j ++ ys.take m ++ xs.drop (j + m)).length = xs.length) := by simp only [List.length_append, List.length_take, List.length_drop]; omega
        have ho' : w'.ownsRow base 5 1 (.slice (some ⟨g, 0, none⟩) xs.length c) (xs.take j ++ ys.take m ++ xs.drop (j + m)).length (encs (Value.int .u8) (xs.take j ++ ys.take m ++ xs.drop (j + m))) := by
          refine ⟨by simp [encs], .inr ⟨g, c, _, by rw [hgl], hbg, hw'.out, by omega, h2, ?_, ?_⟩⟩
          · rw [List.size_toArray, length_splice _ _ _ (by rw [hlen]; simp; omega)]; simpa using h3
          · have h4' : cur.toList.take xs.length = encs (Value.int .u8) xs := by simpa using h4
            have hcl : cur.toList.length = c := by simpa using h3
            rw [hgl, Nat.mul_one]
            show ((splice cur.toList j ((ys.take m).map (Value.int .u8)))).take xs.length = _
            unfold splice
            rw [hlen, encs_append, encs_append]
            have e1 : cur.toList.take j = encs (Value.int .u8) (xs.take j) := by
              have := congrArg (List.take j) h4'
              rw [List.take_take, Nat.min_eq_left hj] at this
              rw [this]; simp [encs, List.map_take]
            have e2 : (cur.toList.drop (j + m)).take (xs.length - (j + m)) = encs (Value.int .u8) (xs.drop (j + m)) := by
              have := congrArg (List.drop (j + m)) h4'
              rw [List.drop_take] at this
              rw [this]; simp [encs, List.map_drop]
            have e3 : (encs (Value.int .u8) (xs.take j) ++ (ys.take m).map (Value.int .u8)).length = j + m := by rw [List.length_append, hlen, encs_length, List.length_take]; omega
            rw [e1, ← List.append_assoc, List.take_append, List.take_of_length_le (by omega), e3, e2]
            rfl
        have hR' := Kd.R_of_own (enc := Value.int .u8) (h1 := fun _ => rfl) ho' hok
        rw [hlen]
        exact h w' hR' hB'
/-- Bytes laid over others from a place on. -/
def layL (old : List Int) (j : Nat) (b : List Int) : List Int := old.take j ++ b ++ old.drop (j + b.length)
theorem layL_of (old b : List Int) (j : Nat) (hj : j ≤ old.length) :
    (old.take j ++ b.take (Nat.min b.length (old.length - j)) ++ old.drop (j + Nat.min b.length (old.length - j))) ++ b.drop (Nat.min b.length (old.length - j)) = layL old j b := by
  unfold layL
  by_cases h : b.length ≤ old.length - j
  · have e : Nat.min b.length (old.length - j) = b.length := Nat.min_eq_left h
    rw [e, List.drop_length, List.append_nil, List.take_length]
  · have e : Nat.min b.length (old.length - j) = old.length - j := Nat.min_eq_right (by omega)
    have e1 : old.drop (j + (old.length - j)) = [] := List.drop_eq_nil_of_le (by omega)
    have e2 : old.drop (j + b.length) = [] := List.drop_eq_nil_of_le (by omega)
    rw [e, e1, e2, List.append_nil, List.append_nil, List.append_assoc, List.take_append_drop]
theorem layL_len (old b : List Int) (j : Nat) (hj : j ≤ old.length) : (layL old j b).length = max old.length (j + b.length) := by
  unfold layL
  simp only [List.length_append, List.length_take, List.length_drop]
  omega
set_option maxRecDepth 100000 in
/-- disk.lay -/
theorem lay_calls (A : Option Addr) (c : Nat) (old : List Int) (at_ : Int) (A' : Option Addr) (c' : Nat) (b : List Int) (w : World) (hr : k8.C w A old.length old) (hr' : k8.C w A' b.length b) (hc' : b.length ≤ c') (h0 : 0 ≤ at_) (h1 : at_ ≤ old.length)
    (hl : old.length + b.length ≤ 100000000000) :
    Calls Try.prog 58 #[.slice A old.length c, .int .i64 at_, .slice A' b.length c'] w fun e w' => ∃ v1, e = .returned v1 ∧ k8.R 5 w' w.heap.size (fun _ => True) v1 (layL old at_.toNat b) ∧ Below w.heap.size w w' := by
  have HR := Aside0.mk hr
  have HR' := Aside0.mk hr'
  clear hr hr'
  obtain ⟨i0, hi0, hz⟩ := Option.map_eq_some_iff.1 info5
  simp only [Prod.mk.injEq] at hz
  have hiz : i0.size = 1 := hz.2.1
  have HI := Aside0.mk hi0
  have HZ := Aside0.mk hiz
  clear hz hi0 hiz
  obtain ⟨j, rfl⟩ := Int.eq_ofNat_of_zero_le h0
  go_enter Try.func58, Try.ntmps58
  go_wp2_with fail
  refine (clone8 A c old w HR.out (by omega)).mono ?_
  rintro e w1 ⟨v1, rfl, ho, hb⟩
  obtain ⟨A1, c1, rfl⟩ := Kd.R_slice ho
  have hlen := (Kd.R_reads' ho).2.1
  have HO := Aside0.mk ho
  have HB := Aside0.mk hb
  clear ho hb
  have hcut := cut_from 22 5 .i64 Try.underlying22 HI.out 1 HZ.out A1 old.length c1 (j : Int) (by omega) (by omega)
  rw [Int.toNat_natCast] at hcut
  obtain ⟨D1, hD1⟩ : ∃ D1, (if c1 = j then A1 else A1.map (·.add (j * 1))) = D1 := ⟨_, rfl⟩
  rw [hD1] at hcut
  have HD := Aside0.mk hD1
  clear hD1
  obtain ⟨m, hm⟩ : ∃ m, Nat.min b.length (old.length - j) = m := ⟨_, rfl⟩
  have hmb : m ≤ b.length := by rw [← hm]; exact Nat.min_le_left _ _
  have hcut2 := cut_from 22 5 .i64 Try.underlying22 HI.out 1 HZ.out A' b.length c' (m : Int) (by omega) (by omega)
  rw [Int.toNat_natCast] at hcut2
  obtain ⟨D2, hD2⟩ : ∃ D2, (if c' = m then A' else A'.map (·.add (m * 1))) = D2 := ⟨_, rfl⟩
  rw [hD2] at hcut2
  have HM := Aside0.mk hm
  have HD2 := Aside0.mk hD2
  clear hm hD2
  have hdrop : ∀ W, k8.C W A' b.length b → k8.C W D2 (b.length - m) (b.drop m) := fun W h => by
    have h' := Kd.C_drop h hmb hc'
    rw [List.length_drop] at h'
    rw [← HD2.out]
    exact h'
  have HDR := Aside0.mk hdrop
  clear hdrop
  have hfin := layL_of old b j (by omega)
  rw [HM.out] at hfin
  have HF := Aside0.mk hfin
  clear hfin
  obtain ⟨X, hX⟩ : ∃ X, old.take j ++ b.take m ++ old.drop (j + m) = X := ⟨_, rfl⟩
  have hXl : X.length = old.length := by
    have hm2 : m ≤ old.length - j := by rw [← HM.out]; exact Nat.min_le_right _ _
    rw [← hX]; simp only [List.length_append, List.length_take, List.length_drop]; omega
  have HX := Aside0.mk hX
  have HXL := Aside0.mk hXl
  clear hX hXl
  go_wp2_with (first
    | ((with_reducible refine gate_dst (N := 15) rfl ?_); refine copy8 (by rfl) (.tmp 13) (.tmp 14) (by rfl) (A := A1) (A' := A') (c := c1) (j := j) (sc := c') (xs := old) (ys := b) (base := w.heap.size) (ok := fun _ => True) (by rw [HD.out]; rfl) (by rfl) HO.out (Kd.C_below HR'.out HB.out) (by omega) HB.out ?_; rw [HM.out, HX.out]; intro w2 ho2 hb2; have HO2 := Aside0.mk ho2; have HB2 := Aside0.mk hb2; clear ho2 hb2)
    | ((with_reducible refine gate_dst (N := 20) rfl ?_); refine Kd.R_append_rows k8 (w0 := w) w.heap.size (by rfl) (.tmp 16) (.tmp 19) 22 5 (.int .u8 0) 1 (by rfl) Try.underlying22 info5 (by rfl) (by decide) (by decide) _ X (b.drop m) D2 (b.length - m) (c' - m) (fun _ => True) (fun _ => False) (by rfl) (by rfl) HO2.out (HDR.out _ (Kd.C_below HR'.out HB2.out)) (fun _ _ h => h) (fun _ h => h.elim) (fun _ _ => trivial) HB2.out HB2.out.size (by rw [HXL.out]; omega) ?_; intro v3 w3 hR hb3 hg hat; have HO3 := Aside0.mk hR; have HB3 := Aside0.mk hb3; clear hR hb3 hg hat)
    | go_in)
  go_ret
  refine ⟨_, rfl, ?_, HB3.out⟩
  have := HO3.out
  rw [← HX.out, HF.out] at this
  exact this
end Go.Proofs.Ytmmiipnmimjojaa.PS
