import Derived.Test.YthmamgnobcnhgaaERight
import Derived.Maps.OwnOps
import Derived.Maps.RangeWalk
namespace Go.Proofs.Ythmamgnobcnhgaa.PM
open Go.RowKit Go.Proofs.YthmamgnobcnhgaaW.PrintWords Go.Proofs.YthmamgnobcnhgaaW.PrintLast Go.Proofs.YthmamgnobcnhgaaW.PrintMore
open Go.Maps
set_option linter.unusedVariables false
set_option linter.unusedSimpArgs false
/-! ## The map 'left', as plain lists -/
def qE (Y : List Int) (x : Int) : Lit × DataW Unit := (.int .i64 x, .lit (.int .i64 (if Y.contains x then 0 else 1)))
theorem insert_perm (x : Lit × DataW Unit) : ∀ l, (DataW.insert x l).Perm (x :: l)
  | [] => .refl _
  | y :: r => by
    rw [DataW.insert]
    split
    · exact .refl _
    · exact ((insert_perm x r).cons y).trans (.swap x y r)
theorem same_i (x y : Int) : (Lit.int .i64 x).sameKey (.int .i64 y) = (x == y) := by
  by_cases h : x = y <;> simp [Lit.sameKey, h]
theorem qE_strike (Y : List Int) (y : Int) : ∀ L : List Int, ((L.map (qE Y)).filter fun p => !p.1.sameKey (.int .i64 y)) = (L.filter fun x => !(x == y)).map (qE Y)
  | [] => rfl
  | x :: L => by
    have e : (qE Y x).1 = .int .i64 x := rfl
    rw [List.map_cons, List.filter_cons, List.filter_cons, qE_strike Y y L, e, same_i]
    by_cases h : x = y <;> simp [h]
theorem put_perm {es : List (Lit × DataW Unit)} {L Y : List Int} (h : es.Perm (L.map (qE Y))) (y : Int) (d : DataW Unit) :
    ∃ es', (DataW.map es).put (.int .i64 y) d = .map es' ∧ es'.Perm ((.int .i64 y, d) :: (L.filter fun x => !(x == y)).map (qE Y)) :=
  ⟨_, rfl, (insert_perm _ _).trans (((h.filter _).trans (by rw [qE_strike])).cons _)⟩
theorem ups_lt : ∀ (V : List Int) (p : Int), ups p V = true → ∀ y ∈ V, p < y ∧ y ≤ 9
  | [], _, _, _, h => by cases h
  | x :: V, p, hu, y, hy => by
    simp only [ups, Bool.and_eq_true, decide_eq_true_eq] at hu
    rcases List.mem_cons.1 hy with rfl | hy
    · exact hu.1
    · have := ups_lt V x hu.2 y hy
      omega
theorem ups_nodup : ∀ (V : List Int) (p : Int), ups p V = true → V.Nodup
  | [], _, _ => .nil
  | x :: V, p, hu => by
    have h := hu
    simp only [ups, Bool.and_eq_true, decide_eq_true_eq] at h
    refine List.nodup_cons.2 ⟨fun hx => ?_, ups_nodup V x h.2⟩
    have := (ups_lt V x h.2 x hx).1
    omega
/-- The voters put. -/
def QV (V : List Int) (k : Nat) (D : DataW Unit) : Prop := ∃ es, D = .map es ∧ es.Perm ((V.take k).reverse.map (qE []))
theorem QV_step {V : List Int} (hV : V.Nodup) {k : Nat} (hk : k < V.length) {D : DataW Unit} (h : QV V k D) : QV V (k + 1) (D.put (.int .i64 (V.getD k 0)) (.lit (.int .i64 1))) := by
  obtain ⟨es, rfl, hp⟩ := h
  obtain ⟨es', e, hp'⟩ := put_perm hp (V.getD k 0) (.lit (.int .i64 1))
  refine ⟨es', e, hp'.trans ?_⟩
  have hg : V.getD k 0 = V[k] := by rw [List.getD_eq_getElem?_getD, List.getElem?_eq_getElem hk]; rfl
  have hn : ∀ x ∈ (V.take k).reverse, (!(x == V.getD k 0)) = true := by
    intro x hx
    have hx' := List.mem_reverse.1 hx
    have h2 : (V.take (k + 1)).Nodup := hV.sublist (List.take_sublist _ _)
    rw [List.take_succ_eq_append_getElem hk] at h2
    have := (List.nodup_append.1 h2).2.2 x hx' V[k] (by simp)
    rw [hg]
    simpa using this
  rw [List.filter_eq_self.2 hn, List.take_succ_eq_append_getElem hk, List.reverse_append, hg]
  exact .refl _
/-- The yes put. -/
def QY (V Y : List Int) (k : Nat) (D : DataW Unit) : Prop :=
  ∃ (es : List (Lit × DataW Unit)) (L : List Int), D = .map es ∧ es.Perm (L.map (qE (Y.take k))) ∧ L.Nodup ∧ (L.filter fun x => !(Y.take k).contains x).Perm (V.filter fun x => !(Y.take k).contains x)
theorem QY_start {V Y : List Int} (hV : V.Nodup) {D : DataW Unit} (h : QV V V.length D) : QY V Y 0 D := by
  obtain ⟨es, rfl, hp⟩ := h
  rw [List.take_length] at hp
  refine ⟨es, V.reverse, rfl, hp, (List.reverse_perm V).nodup_iff.2 hV, ?_⟩
  exact (List.reverse_perm V).filter _
theorem QY_step {V Y : List Int} {k : Nat} (hk : k < Y.length) {D : DataW Unit} (h : QY V Y k D) : QY V Y (k + 1) (D.put (.int .i64 (Y.getD k 0)) (.lit (.int .i64 0))) := by
  obtain ⟨es, L, rfl, hp, hn, hf⟩ := h
  obtain ⟨es', e, hp'⟩ := put_perm hp (Y.getD k 0) (.lit (.int .i64 0))
  have hg : Y.getD k 0 = Y[k] := by rw [List.getD_eq_getElem?_getD, List.getElem?_eq_getElem hk]; rfl
  have ht : Y.take (k + 1) = Y.take k ++ [Y.getD k 0] := by rw [List.take_succ_eq_append_getElem hk, hg]
  generalize hy : Y.getD k 0 = y at *
  have hc : ∀ x, (Y.take (k + 1)).contains x = ((Y.take k).contains x || x == y) := by intro x; rw [ht]; rw [Bool.eq_iff_iff]; simp
  have hfun : (fun x => !(Y.take (k + 1)).contains x) = fun x => !(Y.take k).contains x && !(x == y) := by funext x; rw [hc, Bool.not_or]
  refine ⟨es', y :: L.filter (fun x => !(x == y)), e, hp'.trans ?_, ?_, ?_⟩
  · rw [List.map_cons]
    have h1 : qE (Y.take (k + 1)) y = (.int .i64 y, .lit (.int .i64 0)) := by unfold qE; rw [hc]; simp
    have h2 : (L.filter (fun x => !(x == y))).map (qE (Y.take k)) = (L.filter (fun x => !(x == y))).map (qE (Y.take (k + 1))) := by
      refine List.map_congr_left fun x hx => ?_
      have hx' := (List.mem_filter.1 hx).2
      unfold qE
      rw [hc]
      have : (x == y) = false := by simpa using hx'
      rw [this, Bool.or_false]
    rw [h1, h2]
  · refine List.nodup_cons.2 ⟨fun hx => ?_, hn.filter _⟩
    have := (List.mem_filter.1 hx).2
    simp at this
  · have h1 : (y :: L.filter (fun x => !(x == y))).filter (fun x => !(Y.take (k + 1)).contains x) = (L.filter fun x => !(Y.take k).contains x).filter fun x => !(x == y) := by
      rw [List.filter_cons, if_neg (by rw [hc]; simp), List.filter_filter, List.filter_filter]
      refine List.filter_congr fun x _ => ?_
      rw [hc]
      cases (Y.take k).contains x <;> cases (x == y) <;> rfl
    have h2 : V.filter (fun x => !(Y.take (k + 1)).contains x) = (V.filter fun x => !(Y.take k).contains x).filter fun x => !(x == y) := by
      rw [List.filter_filter]
      refine List.filter_congr fun x _ => ?_
      rw [hc]
      cases (Y.take k).contains x <;> cases (x == y) <;> rfl
    rw [h1, h2]
    exact hf.filter _
/-! ## The sum over the map -/
def qn : DataW Unit → Int
  | .lit (.int _ c) => c
  | _ => 0
def qsum (left : Lit → Bool) : List (Lit × DataW Unit) → Int
  | [] => 0
  | p :: l => (if left p.1 then 0 else qn p.2) + qsum left l
theorem qsum_congr {f g : Lit → Bool} : ∀ {l : List (Lit × DataW Unit)}, (∀ p ∈ l, f p.1 = g p.1) → qsum f l = qsum g l
  | [], _ => rfl
  | p :: l, h => by rw [qsum, qsum, h p (.head _), qsum_congr (fun q hq => h q (.tail _ hq))]
theorem qsum_step {left : Lit → Bool} {kl : Lit} (hk : WideAt.IsKeyLit kl) (hl : left kl = true) {d : DataW Unit} : ∀ {l : List (Lit × DataW Unit)}, l.Pairwise (fun p q => p.1 ≠ q.1) → (kl, d) ∈ l →
    qsum (fun z => left z && !z.sameKey kl) l = qsum left l + qn d
  | [], _, h => by cases h
  | p :: l, hp, h => by
    obtain ⟨h1, h2⟩ := List.pairwise_cons.1 hp
    rw [qsum, qsum]
    rcases List.mem_cons.1 h with rfl | hm
    · have hs := WideAt.sameKey_self hk
      rw [qsum_congr (g := left) (l := l) (fun q hq => by
        have : q.1.sameKey kl = false := Maps.sameKey_ne (fun e => h1 q hq e.symm)
        rw [this]; simp)]
      simp [hl, hs]
      omega
    · have : p.1.sameKey kl = false := Maps.sameKey_ne (h1 _ hm)
      rw [qsum_step hk hl h2 hm, this]
      simp
      omega
theorem qsum_zero {left : Lit → Bool} : ∀ {l : List (Lit × DataW Unit)}, (∀ p ∈ l, left p.1 = true) → qsum left l = 0
  | [], _ => rfl
  | p :: l, h => by rw [qsum, h p (.head _), qsum_zero (fun q hq => h q (.tail _ hq))]; rfl
theorem qsum_perm {left : Lit → Bool} {l l' : List (Lit × DataW Unit)} (h : l.Perm l') : qsum left l = qsum left l' := by
  induction h with
  | nil => rfl
  | cons x _ ih => rw [qsum, qsum, ih]
  | swap x y l => rw [qsum, qsum, qsum, qsum]; omega
  | trans _ _ h1 h2 => rw [h1, h2]
theorem qsum_done {left : Lit → Bool} (hl : ∀ kl, left kl = false) (Y : List Int) : ∀ L : List Int, qsum left (L.map (qE Y)) = ((L.filter fun x => !Y.contains x).length : Nat)
  | [] => rfl
  | x :: L => by
    rw [List.map_cons, qsum, qsum_done hl Y L, hl]
    have e : qn (qE Y x).2 = if Y.contains x then 0 else 1 := rfl
    rw [e, List.filter_cons]
    cases hc : Y.contains x
    · simp; omega
    · simp
theorem QY_keys {V Y : List Int} {k : Nat} {es : List (Lit × DataW Unit)} (h : QY V Y k (.map es)) : es.Pairwise (fun p q => p.1 ≠ q.1) ∧ ∀ p ∈ es, WideAt.IsKeyLit p.1 := by
  obtain ⟨es', L, e, hp, hn, _⟩ := h
  cases e
  constructor
  · refine hp.symm.pairwise ?_ (fun h e => h e.symm)
    rw [List.pairwise_map]
    exact hn.imp (fun h e => h (by simpa [qE] using e))
  · intro p hp'
    obtain ⟨x, _, rfl⟩ := List.mem_map.1 (hp.mem_iff.1 hp')
    trivial
theorem QY_sum {V Y : List Int} {es : List (Lit × DataW Unit)} (h : QY V Y Y.length (.map es)) {left : Lit → Bool} (hl : ∀ kl, left kl = false) : qsum left es = ((V.filter fun x => !Y.contains x).length : Nat) := by
  obtain ⟨es', L, e, hp, hn, hf⟩ := h
  cases e
  rw [List.take_length] at hp hf
  rw [qsum_perm hp, qsum_done hl, hf.length_eq]
theorem at_mem {es : List (Lit × DataW Unit)} {kl : Lit} {c : Int} (hat : ∀ zd, (DataW.map es).atKey kl zd = .lit (.int .i64 c)) : (kl, .lit (.int .i64 c)) ∈ es := by
  have h := hat .nil
  simp only [DataW.atKey] at h
  split at h
  · rename_i p hf
    have h1 := List.find?_some hf
    have h2 := List.mem_of_find?_eq_some hf
    have := WideAt.sameKey_eq h1
    obtain ⟨a, b⟩ := p
    simp only at this h
    subst this h
    exact h2
  · cases h
/-! ## The walk -/
theorem law3 : Keyed Try.prog 3 := int_keyed Try.underlying3
/-- member.Quorum -/
def quorumB (V L Y : List Int) : Bool := rightB V L && decide (2 * (V.filter fun x => !Y.contains x).length < V.length)
def i64s (l : List Int) : Bool := l.all fun y => decide (-9223372036854775808 ≤ y) && decide (y ≤ 9223372036854775807)
def member_Quorum.f (l0_0 : List Int) (l0_1 : List Int) (l1 : List Int) : Option (Bool) :=
  if (l0_0.length ≤ 140737488355328 ∧ l0_1.length ≤ 140737488355328 ∧ l1.length ≤ 140737488355328) ∧ i64s l1 = true then some (quorumB l0_0 l0_1 l1) else none
theorem right_r (A0 : Option Addr) (c0 : Nat) (V : List Int) (A1 : Option Addr) (c1 : Nat) (L : List Int) (w : World) (hr0 : Kd.C (Kd.int .i64) w A0 V.length V) (hc0 : V.length ≤ c0) (hr1 : Kd.C (Kd.int .i64) w A1 L.length L) (hc1 : L.length ≤ c1)
    (hV : V.length ≤ 140737488355328) (hL : L.length ≤ 140737488355328) (r : Bool) (hres : rightB V L = r) :
    Calls Try.prog 26 #[.agg #[.slice A0 V.length c0, .slice A1 L.length c1]] w fun e w' => e = .returned (.bool r) ∧ Below w.heap.size w w' := right_core A0 c0 V A1 c1 L w hr0 hc0 hr1 hc1 hV hL r hres
theorem wf_i64 {y : Int} (h : -9223372036854775808 ≤ y ∧ y ≤ 9223372036854775807) : (Lit.int .i64 y).wf = true :=
  WalkArith.wf_i64 h
set_option maxHeartbeats 2000000 in
set_option maxRecDepth 100000 in
theorem quorum_core (A0 : Option Addr) (c0 : Nat) (V : List Int) (A1 : Option Addr) (c1 : Nat) (L : List Int) (A2 : Option Addr) (c2 : Nat) (Y : List Int) (w : World) (hr0 : Kd.C (Kd.int .i64) w A0 V.length V) (hc0 : V.length ≤ c0) (hr1 : Kd.C (Kd.int .i64) w A1 L.length L) (hc1 : L.length ≤ c1)
    (hr2 : Kd.C (Kd.int .i64) w A2 Y.length Y) (hc2 : Y.length ≤ c2)
    (hV : V.length ≤ 140737488355328) (hL : L.length ≤ 140737488355328) (hY : Y.length ≤ 140737488355328) (hw : i64s Y = true) (r : Bool) (hres : quorumB V L Y = r) :
    Calls Try.prog 18 #[.agg #[.slice A0 V.length c0, .slice A1 L.length c1], .slice A2 Y.length c2] w fun e w' => e = .returned (.bool r) ∧ Below w.heap.size w w' := by
  have HS := Aside0.mk hres
  have HR0 := Aside0.mk hr0
  have HR1 := Aside0.mk hr1
  have HR2 := Aside0.mk hr2
  have HW := Aside0.mk hw
  clear hres hr0 hr1 hr2 hw
  have HB := Aside0.mk (below_alloc (Below.refl w.heap.size w) (.cells #[.slice A0 V.length c0, .slice A1 L.length c1] 24 (0, 0)))
  obtain ⟨b1, hb1⟩ : ∃ b, rightB V L = b := ⟨_, rfl⟩
  have H1 := Aside0.mk hb1
  clear hb1
  have hmm := @run_makeMap Try.prog
  go_enter Try.func18, Try.ntmps18
  go_wp2_with fail
  refine (right_r A0 c0 V A1 c1 L _ (Kd.C_below HR0.out HB.out) hc0 (Kd.C_below HR1.out HB.out) hc1 hV hL b1 H1.out).mono ?_
  rintro e w1 ⟨rfl, hw1⟩
  cases b1 with
  | false =>
    go_wp2
    go_ret
    have hx : r = false := by rw [← HS.out, quorumB, H1.out]; rfl
    subst hx
    exact ⟨rfl, HB.out.trans (hw1.mono (by simp [go_sem]))⟩
  | true =>
    have hup := H1.out
    have hu : ups 0 V = true := by
      unfold rightB at hup
      simp only [Bool.and_eq_true] at hup
      exact hup.1.1.2
    have hnd := ups_nodup V 0 hu
    have hlt := ups_lt V 0 hu
    clear hup hu
    have HN := Aside0.mk hnd
    have HT := Aside0.mk hlt
    clear hnd hlt
    have hbx : w1.cell? ⟨w.heap.size, 0, none⟩ = some (.slice A0 V.length c0) := (hw1.cell (by simp [go_sem])).trans (by simp [go_sem])
    have hsz : w.heap.size < w1.heap.size := by have := hw1.size; simp [go_sem] at this; omega
    have hbase : Below (w.heap.size + 1) w1 (w1.alloc (.map #[] 0)) := (Below.refl _ _).alloc (by omega) _
    have hbx2 : (w1.alloc (.map #[] 0)).cell? ⟨w.heap.size, 0, none⟩ = some (.slice A0 V.length c0) := (hbase.cell (by show w.heap.size < w.heap.size + 1; omega)).trans hbx
    have hcv : ∀ wr, Below (w.heap.size + 1) w1 wr → ∀ A l, Kd.C (Kd.int .i64) w A l.length l → Kd.C (Kd.int .i64) wr A l.length l := fun wr h A l hl =>
      Kd.C_below hl ((HB.out.trans (hw1.mono (by simp [go_sem]))).trans (h.mono (Nat.le_succ _)))
    have HC := Aside0.mk hcv
    clear hcv
    have HBX := Aside0.mk hbx
    have HW1 := Aside0.mk hw1
    have HBB := Aside0.mk hbase
    clear hbx hw1 hbase
    go_wp2_with fail
    go_loopw [20] (fun i wr => ∃ k : Nat, k ≤ V.length ∧ i = .int .i64 k ∧ (∃ D, QV V k D ∧ wr.ownsMap Try.prog 3 (plainElem Try.prog 3) w1.heap.size k D) ∧ Below (w.heap.size + 1) w1 wr)
      (fun i _ => V.length - (intOf i).toNat)
    case atStart => exact ⟨0, Nat.zero_le _, rfl, ⟨_, ⟨[], rfl, .refl _⟩, World.ownsMap_made _ _ _ _⟩, HBB.out⟩
    case round =>
      obtain ⟨k, hk, rfl, ⟨D, hD, hown⟩, hnx⟩ := hrel
      have HNX := Aside0.mk hnx
      have hnxs := hnx.size
      clear hnx
      by_cases hi : k < V.length
      · obtain ⟨ad, rfl, hcell⟩ := Kd.at_int (HC.out wr HNX.out A0 V HR0.out) (k : Int) (by omega) (by omega)
        obtain ⟨x, hx⟩ : ∃ x, rd V k = x := ⟨_, rfl⟩
        rw [hx, Int.toNat_natCast] at hcell
        have hgd : V.getD k 0 = x := hx
        have hmem : x ∈ V := by rw [← hgd, List.getD_eq_getElem?_getD, List.getElem?_eq_getElem hi]; exact List.getElem_mem hi
        have hxb := HT.out x hmem
        have hkey : keyOf Try.prog 3 (.int .i64 x) = some (.int .i64 x) := keyOf_int_mk Try.underlying3 (wf_i64 (by omega))
        have hb7 : decide ((k : Int) < (V.length : Int)) = true := by simpa using hi
        have HD := Aside0.mk hD
        have HG := Aside0.mk hgd
        clear hx hmem hD hgd
        go_wp2_with (first
          | (at_mapUpdate; refine wpList_mapUpdate_own _ rfl _ _ _ 73 rfl 3 3 law3 Try.underlying73 _ w1.heap.size k _ rfl hown (by unfold maxLen; omega) _ _ _ rfl rfl hkey _ [] (plainElem_int Try.underlying3 (wf_i64 (by omega))) ?_; intro w2 hown2 hgrow2)
          | go_in)
        go_roundw
        case rel => exact ⟨k + 1, by omega, by go_num, ⟨_, by have := QV_step HN.out hi HD.out; rw [HG.out] at this; exact this, hown2⟩, HNX.out.grown hgrow2 (by omega) (fun j hj => by cases hj; omega)⟩
        case measure => simp [intOf]; omega
      · have hk' : k = V.length := by omega
        subst hk'
        have hb7 : decide ((V.length : Int) < (V.length : Int)) = false := by simp
        have HD := Aside0.mk (QY_start (Y := Y) HN.out hD)
        clear hD
        go_wp2_with fail
        go_loopw [29] (fun i wr => ∃ k : Nat, k ≤ Y.length ∧ i = .int .i64 k ∧ (∃ D, QY V Y k D ∧ wr.ownsMap Try.prog 3 (plainElem Try.prog 3) w1.heap.size (V.length + k) D) ∧ Below (w.heap.size + 1) w1 wr)
          (fun i _ => Y.length - (intOf i).toNat)
        case atStart => exact ⟨0, Nat.zero_le _, rfl, ⟨_, HD.out, hown⟩, HNX.out⟩
        case round =>
          clear HD hown HNX hnxs
          obtain ⟨k, hk, rfl, ⟨D, hD, hown⟩, hnx⟩ := hrel
          have HNX := Aside0.mk hnx
          have hnxs := hnx.size
          clear hnx
          by_cases hi : k < Y.length
          · obtain ⟨ad, rfl, hcell⟩ := Kd.at_int (HC.out wr HNX.out A2 Y HR2.out) (k : Int) (by omega) (by omega)
            obtain ⟨x, hx⟩ : ∃ x, rd Y k = x := ⟨_, rfl⟩
            rw [hx, Int.toNat_natCast] at hcell
            have hgd : Y.getD k 0 = x := hx
            have hmem : x ∈ Y := by rw [← hgd, List.getD_eq_getElem?_getD, List.getElem?_eq_getElem hi]; exact List.getElem_mem hi
            have hxb : -9223372036854775808 ≤ x ∧ x ≤ 9223372036854775807 := by simpa [i64s] using List.all_eq_true.1 HW.out x hmem
            have hkey : keyOf Try.prog 3 (.int .i64 x) = some (.int .i64 x) := keyOf_int_mk Try.underlying3 (wf_i64 hxb)
            have hb7 : decide ((k : Int) < (Y.length : Int)) = true := by simpa using hi
            have HD := Aside0.mk hD
            have HG := Aside0.mk hgd
            clear hx hmem hD hgd
            go_wp2_with (first
              | (at_mapUpdate; refine wpList_mapUpdate_own _ rfl _ _ _ 73 rfl 3 3 law3 Try.underlying73 _ w1.heap.size (V.length + k) _ rfl hown (by unfold maxLen; omega) _ _ _ rfl rfl hkey _ [] (plainElem_int Try.underlying3 (wf_i64 (by omega))) ?_; intro w2 hown2 hgrow2)
              | go_in)
            go_roundw
            case rel => exact ⟨k + 1, by omega, by go_num, ⟨_, by have := QY_step hi HD.out; rw [HG.out] at this; exact this, hown2⟩, HNX.out.grown hgrow2 (by omega) (fun j hj => by cases hj; omega)⟩
            case measure => simp [intOf]; omega
          · have hk' : k = Y.length := by omega
            subst hk'
            have hb7 : decide ((Y.length : Int) < (Y.length : Int)) = false := by simp
            obtain ⟨es, he⟩ : ∃ es, D = .map es := by obtain ⟨es, _, e, _⟩ := hD; exact ⟨es, e⟩
            subst he
            obtain ⟨hpw, hky⟩ := QY_keys hD
            have HK := Aside0.mk hky
            have HP := Aside0.mk hpw
            have HD := Aside0.mk hD
            clear hD hpw hky
            go_wp2_with (first
              | (at_range; refine wpList_range_own _ rfl _ 73 rfl 3 3 law3 Try.underlying73 _ w1.heap.size (V.length + Y.length) _ rfl hown ?_; intro w0 hrg0 hg0 hs0)
              | go_in)
            go_frame
            have hnx0 := HNX.out.grown hg0 (by omega) (fun j hj => by cases hj)
            clear HNX
            generalize hr0 : wr.heap.size = r0 at *
            go_loopw [10] (fun s wr => ∃ (left : Lit → Bool) (cnt : Nat), wr.ranges Try.prog 3 (plainElem Try.prog 3) w1.heap.size r0 (V.length + Y.length) (.map es) left cnt ∧ s = .int .i64 (wrap64 (qsum left es)) ∧ Below (w.heap.size + 1) w1 wr)
              (fun _ wr => wr.rangeLeft w1.heap.size r0)
            case atStart => exact ⟨_, _, hrg0, by rw [qsum_zero (fun p hp => by rw [Maps.has_eq]; exact List.any_eq_true.2 ⟨p, hp, WideAt.sameKey_self (HK.out p hp)⟩), wrap64_in (by omega)], hnx0⟩
            case round =>
              clear hnx0 hg0 hrg0
              obtain ⟨left, cnt, hrg, rfl, hnx⟩ := hrel
              have HNX := Aside0.mk hnx
              have hnxs2 := hnx.size
              clear hnx
              go_wp2_with (first
                | (at_next; refine wpList_next_ranges_ii _ rfl _ rfl 3 3 .i64 .i64 law3 Try.underlying3 Try.underlying3 w1.heap.size r0 (V.length + Y.length) _ _ _ rfl hrg ?_ ?_)
                | go_in)
              · intro _ hl0
                have hsum := QY_sum HD.out hl0
                have hbx3 : wr.cell? ⟨w.heap.size, 0, none⟩ = some (.slice A0 V.length c0) := (HNX.out.cell (by show w.heap.size < w.heap.size + 1; omega)).trans HBX.out
                have hle : (V.filter fun x => !Y.contains x).length ≤ V.length := List.length_filter_le _ _
                obtain ⟨M, hM⟩ : ∃ M, (V.filter fun x => !Y.contains x).length = M := ⟨_, rfl⟩
                have hr : r = decide (2 * M < V.length) := by rw [← HS.out, quorumB, H1.out, hM]; simp
                rw [hM] at hsum hle
                rw [hsum]
                clear hM
                go_wp2
                go_ret
                refine ⟨?_, (HB.out.trans (HW1.out.mono (by simp [go_sem]))).trans (HNX.out.mono (Nat.le_succ _))⟩
                rw [hr]
                rw [wrap64_in (n := (M : Int)) (by omega), wrap64_in (n := 2 * (M : Int)) (by omega)]
                rw [show decide (2 * (M : Int) < (V.length : Int)) = decide (2 * M < V.length) from decide_eq_decide.2 ⟨fun h => by omega, fun h => by omega⟩]
                rfl
              · intro x c wx cnt1 hwx hwc hlx hat hrg1 hlt hg1 hs1 hen
                have hmem := at_mem hat
                have hq := qsum_step (by trivial) hlx HP.out hmem
                go_wp2
                go_roundw
                case rel => exact ⟨_, _, hrg1, by rw [hq]; show _ = Value.int .i64 (wrap64 (qsum left es + c)); congr 1; unfold wrap64; omega, HNX.out.grown hg1 (by omega) (fun j hj => by cases hj; omega)⟩
                case measure => rw [hrg1.left_eq, hrg.left_eq]; exact hlt
theorem member_Quorum.calls (A0_0 : Option Addr) (c0_0 : Nat) (l0_0 : List Int) (A0_1 : Option Addr) (c0_1 : Nat) (l0_1 : List Int) (A1 : Option Addr) (c1 : Nat) (l1 : List Int) (r : Bool) (w : World) (hr0_0 : Kd.C (Kd.int .i64) w A0_0 l0_0.length l0_0) (hc0_0 : l0_0.length ≤ c0_0) (hr0_1 : Kd.C (Kd.int .i64) w A0_1 l0_1.length l0_1) (hc0_1 : l0_1.length ≤ c0_1) (hr1 : Kd.C (Kd.int .i64) w A1 l1.length l1) (hc1 : l1.length ≤ c1) (h : member_Quorum.f l0_0 l0_1 l1 = some r) :
    Calls Try.prog 18 #[.agg #[.slice A0_0 l0_0.length c0_0, .slice A0_1 l0_1.length c0_1], .slice A1 l1.length c1] w fun e w' => e = .returned (.bool r) ∧ Below w.heap.size w w' := by
  unfold member_Quorum.f at h
  by_cases hc : (l0_0.length ≤ 140737488355328 ∧ l0_1.length ≤ 140737488355328 ∧ l1.length ≤ 140737488355328) ∧ i64s l1 = true
  · rw [if_pos hc] at h
    exact quorum_core _ _ _ _ _ _ _ _ _ w hr0_0 hc0_0 hr0_1 hc0_1 hr1 hc1 hc.1.1 hc.1.2.1 hc.1.2.2 hc.2 r (Option.some.inj h)
  · rw [if_neg hc] at h; cases h
end Go.Proofs.Ythmamgnobcnhgaa.PM
